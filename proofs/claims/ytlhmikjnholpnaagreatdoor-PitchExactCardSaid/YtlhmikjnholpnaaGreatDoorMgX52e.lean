/- Signs of the program, walked: base. -/
import Derived.Test.YtlhmikjnholpnaaGreatDoorMgX52d
import Derived.Test.YtlhmikjnholpnaaGreatDoorProg
open And renaming intro->Yy
open Bool renaming and_eq_true->YS,or_eq_false_iff->JH,or_eq_true->Qt
open Int renaming add_zero->Z7,eq_ofNat_of_zero_le->Vl,mul_le_mul_of_nonneg_right->Xq,mul_nonneg->ZF,natCast_mul->JV,tdiv_eq_ediv_of_nonneg->ZG,tmod_eq_emod_of_nonneg->UF,toNat->Xi,toNat_natCast->Yh,toNat_of_nonneg->K3
open Go.IntWalk renaming i64_in->Yg,up_tdiv->Wt,up_tmod->Vm
open List renaming all_eq_true->Vn,append_nil->Z9,getD_eq_getElem?_getD->Kp,getElem?_append_left->XE,getElem?_append_right->WU,getElem?_drop->Wb,getElem?_eq_getElem->Wu,getElem?_take->XF,length_append->JI,length_cons->Xr,length_map->Vq,length_nil->ZI,length_take->J8,mem_append->KE,mem_map->QO,mem_singleton->JD,nil_append->Vr,take_length->QB
open Nat renaming add_zero->Kw,div_add_mod->KO,div_le_self->QP,eq_zero_or_pos->KU,gcd->YG,le_of_ble_eq_true->KI,le_refl->Yr,le_trans->Yj,lt_irrefl->XX,lt_or_ge->YV,mod_lt->Kj,mul_assoc->Yx,mul_comm->Yk,mul_le_mul->YP,mul_le_mul_left->Yz,mul_le_mul_right->Yu,mul_one->Kb,mul_zero->Wf,not_lt_zero->QC,pow_succ->YF,pow_zero->JO,reduceAdd->Ya,reduceEqDiff->Yc,reduceLeDiff->Ye,zero_add->KL,zero_le->JP
open Go.Proofs.Tryz renaming prog->Yb
set_option linter.all false
namespace Go.Proofs.YtlhmikjnholpnaaGreatDoor
open Go Go.Vx
set_option maxRecDepth 100000
set_option maxHeartbeats 4000000
def v90:VF:=⟨73,[.tmp 2],(ZR [u1 2 .mov [.cn .nil]] (ZR [u1 3 .mov [.cn .nil]] (.seq (ZR [Zm 11 0,Zl 12 11,Zi 13 0] (.block 0 (.loop (ZR [Zr 14 .lss 13 12] (.seq (ZC 14 .skip (.exit 0)) (.seq (.block 1 (ZR [Zx 15 2 11 13,Zt 16 2 15,Zn 5,Zs 2 5 16] (.scope (ZR [Za 17 0 5,Zf 18 1 17,u1 19 (.buildSlice 1 1 [(.int .i64 0)] [(0,1)]) [.tm 18],Zm 6 19] (.seq .skip (.block 2 (.loop (.seq (ZR [Zm 20 6,Zl 21 20,Zq 22 .gtr 21 0] (ZC 22 .skip (.exit 2))) (.block 3 (ZR [Zm 23 6,Zm 24 6,Zl 25 24,u1 26 (.ari .sub) [.tm 25,.cn (.int .i64 1)],Zx 27 1 23 26,Zf 28 1 27,Zm 7 28] (ZR [Zm 29 6,Zm 30 6,Zl 31 30,u1 32 (.ari .sub) [.tm 31,.cn (.int .i64 1)],u1 33 (.slice 1 false true) [.tm 29,.tm 32],Zm 6 33] (.seq (ZR [Zm 34 7,Zq 35 .eql 34 1] (ZC 35 (.exit 3) .skip)) (.seq (ZR [Zm 36 3,Zl 37 36,Zi 38 0] (.block 4 (.loop (ZR [Zr 39 .lss 38 37] (.seq (ZC 39 .skip (.exit 4)) (.seq (.block 5 (ZR [Zm 40 38,Zx 41 1 36 38,Zf 42 1 41,Zm 8 40,Zm 9 42] (ZR [Zm 43 9,Zm 44 7,Zd 45 130 43 44,Zm 10 45] (ZR [Zm 46 10,Zq 47 .gtr 46 1] (ZC 47 (.seq (.draw [] [Zu 48 3,Zu 49 8,w1 50 (.slice 1 false true) [.tm 48,.tm 49],Zu 51 3,Zu 52 8,w1 53 (.ari .add) [.tm 52,.cn (.int .i64 1)],w1 54 (.slice 1 true false) [.tm 51,.tm 53],w1 55 (.append 1 8 [(.int .i64 0)]) [.tm 50,.tm 54],Zu 3 55]) (.seq (.draw [] [Zu 56 6,Zu 57 10,Zu 58 9,Zu 59 10,w1 60 .quo [.tm 58,.tm 59],Zu 61 7,Zu 62 10,w1 63 .quo [.tm 61,.tm 62],w1 64 (.buildSlice 1 3 [(.int .i64 0)] [(0,1),(1,1),(2,1)]) [.tm 57,.tm 60,.tm 63],w1 65 (.append 1 8 [(.int .i64 0)]) [.tm 56,.tm 64],Zu 6 65]) (.exit 3))) .skip))))) (.region [Zp 66 38 1,Zm 38 66]))))))) (.region [Zm 67 3,Zm 68 7,u1 69 (.buildSlice 1 1 [(.int .i64 0)] [(0,1)]) [.tm 68],u1 70 (.append 1 8 [(.int .i64 0)]) [.tm 67,.tm 69],Zm 3 70])))))))))))))) (.region [Zp 71 13 1,Zm 13 71]))))))) (ZR [Zm 72 3,Zm 2 72] .ret))))⟩
theorem YtF:Yn Yb Tryz.f90=some v90:=by kernel_rfl
def baseC:Ctr:={ alias:=false,of:=fun l=>match l with
 | [.vs _ _ n sz get]=> .ex (List (Int×Int)) fun l=> .pre (lsP 2 YA n sz get l/\(∀x,x∈l->okT x)/\n<=20) (.all Bool fun y=> .fin (.vs true y (Ud l).length 1 (fun k=>JJ ((Ud l).getD k 0))) [])
 |_=>noC}
def RA8:Env:={ ct:=fun n=>match n with|130=>some gcdC|_=>none,fn:=fun _=>none,meth:=fun _ _=>none}
theorem Sk:RA8.ct 130=some gcdC:=rfl
theorem Yf3:YE Yb RA8:=by
 refine⟨fun f c h=>?_,fun f vf h=>?_,(fun _ _ _ h=>by cases h),by kernel_rfl,(fun _ h=>by cases h)⟩
 ·simp only[RA8]at h
  split at h
  ·cases h;exact⟨gcd_c,_,Tryz.func130,rfl,rfl⟩
  ·cases h
 ·cases h
structure DSt where
 f:Nat
 W:List Nat
 n:Nat
 out:List Nat
 yw:Bool
 yo:Bool
theorem Yjr{f:Nat}:∀{wait out:List Nat},(QT f wait out).length<=out.length+f:=by
 induction f with
 |zero=>intro wait out;rw[QT];omega
 |succ f ih=>
  intro wait out
  rw[QT]
  split
  ·omega
  ·split
   ·have:= @ih (wait.take (wait.length-1)) out;omega
   ·split
    ·rename_i hh
     refine Yj ih ?_
     rw[JI,J8,List.length_drop]
     omega
    ·refine Yj ih ?_
     rw[JI]
     simp only[Xr,ZI]
     omega
theorem Yip:baseC.ok Yb 90:=by
 refine Yv Tryz.func90 YtF Yf3 800 baseC fun args k h=>?_
 simp only[baseC]at h
 split at h
 ·rename_i tt z n sz get
  obtain⟨l,⟨⟨rfl,rfl,hg⟩,hl,hn⟩,h⟩:=h
  refine⟨[.vs tt z l.length 2 (fun k=>YA (l.getD k default))],⟨⟨id,rfl,rfl,rfl,hg⟩,trivial⟩,?_⟩
  dsimp only[v90,YA,go_sem,reduceIte,Ya]
  simp only[Yd,Ya,Ye,reduceCtorEq,Yc]
  refine Loop.keep [0,10,0] (Nat×List Nat×Bool) (fun s=>[(3,.own 0 0 s.2.1.length 1),(13,.int .i64 s.1)]) (fun s=>[(0,.own s.2.2 1 s.2.1.length (fun k=>JJ (s.2.1.getD k 0)))]) [.gone] (fun s=>s.1<=l.length/\s.2.1=(l.take s.1).foldl XK []/\(∀x,x∈s.2.1->2<=x/\x<=1099511627776)/\Yw (YI s.2.1)<=40*s.1+1/\s.2.1.length<=3000*s.1/\(s.2.2=true->s.2.1.length=0)) (fun s=>l.length-s.1) ?_ ?_
  ·refine⟨(0,[],true),⟨by simp only;omega,rfl,⟨fun x hx=>absurd hx (by simp),by decide,Yr _,fun _=>rfl⟩⟩,?_⟩
   dsimp only[ZI,go_sem,reduceIte,Ya]
   simp only[Yf]
   simp
  ·rintro⟨i,out,yo⟩ ⟨hi,hG,hok,hbp,hlen,hyo⟩
   dsimp only at hi hG hok hbp hlen hyo
   dsimp only[YA,Yh,go_sem,reduceIte,Ya]
   simp only[Yd,Ya,Ye,reduceCtorEq,Yc]
   refine⟨fun hlt=>?_,fun hge=>?_⟩
   ·have hx:=hl _ (KK (by omega:i<l.length))
    have hstep:(l.take (i+1)).foldl XK []=XK out (l.getD i default):=by
     rw[W5 (by omega),<-hG]
    generalize l.getD i default=x at hx hstep⊢
    obtain⟨q0,q1,q2,q3⟩:=hx
    obtain⟨N,hN⟩:∃N:Nat,x.1=(N:Int):=⟨x.1.toNat,by omega⟩
    have hR:XK out x=QT 3000 [N] out:=by rw[XK,hN,Yh]
    obtain⟨R,hRR⟩:∃R,R=XK out x:=⟨_,rfl⟩
    rw[<-hRR]at hR hstep
    rw[hN]
    have hmu:DrOk (40*(i+1)+1) 3000 [N] out:=DrOk.start (by omega) (by omega) hok hbp (by omega)
    refine⟨⟨by omega,by omega⟩,by decide,?_⟩
    refine Loop.keep [0,10,0,0] DSt (fun s=>[(3,.own 0 0 s.out.length 1),(6,.own 2 0 s.n 1)]) (fun s=>[(0,.own s.yo 1 s.out.length (fun k=>JJ (s.out.getD k 0))),(2,.own s.yw 1 s.W.length (fun k=>JJ (s.W.getD k 0)))]) [] (fun s=>s.n<=s.W.length/\DrOk (40*(i+1)+1) s.f (s.W.take s.n) s.out/\R=QT s.f (s.W.take s.n) s.out/\s.out.length+s.f<=3000*(i+1)/\(s.yo=true->s.out.length=0)) (fun s=>s.f) ?_ ?_
    ·refine⟨⟨3000,[N],1,out,false,yo⟩,⟨Yr _,hmu,hR,by simp only;omega,hyo⟩,?_⟩
     dsimp only[ZI,Xr,go_sem,reduceIte,Ya]
     simp only[Yf]
     refine⟨by decide,fun k hk=>⟨⟨rfl,rfl⟩,trivial⟩,fun k hk=>?_⟩
     obtain rfl:k=0:=by omega
     exact⟨⟨rfl,rfl⟩,trivial⟩
    ·rintro⟨f,W,n,out,yw,yo⟩ ⟨hnW,hmu,hR,hlen,hyo⟩
     dsimp only at hnW hmu hR hlen hyo
     dsimp only[Sk,gcdC,JJ,Yh,go_sem,reduceIte,Ya]
     simp only[Yd,Ya,Ye,reduceCtorEq,Yc]
     have hwl:(W.take n).length=n:=by rw[J8];omega
     refine⟨fun hpos=>?_,fun hz=>?_⟩
     ·have hwn:(W.take n).length≠0:=by omega
      have hgl:(W.take n).getD ((W.take n).length-1) 0=W.getD (n-1) 0:=by
       rw[hwl,Kp,Kp,XF,if_pos (by omega)]
      have htl:(W.take n).take ((W.take n).length-1)=W.take (n-1):=by
       rw[hwl,List.take_take];congr 1;omega
      obtain⟨g,rfl⟩:∃g,f=g+1:=⟨f-1,by have:=hmu.mu;omega⟩
      have hnf:n<=70000:=by have:=hmu.mu;omega
      rw[Y2 (by omega) (by omega),Yh]
      rw[QT,if_neg hwn,hgl,htl]at hR
      obtain⟨v,hv⟩:∃v,v=W.getD (n-1) 0:=⟨_,rfl⟩
      have hvr:1<=v/\v<=1099511627776:=by
       have:=hmu.wp _ (KK (l:=W.take n) (i:=(W.take n).length-1) (by omega))
       rw[show(W.take n).getD ((W.take n).length-1) default=W.getD (n-1) 0 from hgl,<-hv]at this
       exact this
      refine⟨⟨by omega,by omega⟩,by omega,⟨by omega,by omega⟩,fun h1=>?_,fun h1=>?_⟩
      ·have h1':W.getD (n-1) 0=1:=by omega
       obtain⟨g',hg',hd⟩:=hmu.pop hwn (by rw[hgl];exact h1')
       obtain rfl:g=g':=by omega
       rw[if_pos h1']at hR
       rw[htl]at hd
       refine⟨⟨g,W,n-1,out,yw,yo⟩,⟨by simp only;omega,hd,hR,by simp only;omega,hyo⟩,by simp only;omega,?_⟩
       simp only[Yf]
       exact⟨by decide,by decide⟩
      ·have h1':W.getD (n-1) 0≠1:=by omega
       rw[if_neg h1']at hR
       rw[<-hv]at hR h1'⊢
       refine Loop.keep [0,2,2,0,3,0,0,22,0] Nat (fun t=>[(38,.int .i64 t)]) (fun t=>[]) [] (fun t=>t<=out.length/\∀j,j<t->¬1<YG (out.getD j 0) v) (fun t=>out.length-t) ?_ ?_
       ·refine⟨0,⟨by omega,fun j hj=>by omega⟩,?_⟩
        dsimp only[go_sem,reduceIte,Ya]
        simp only[Yf]
        exact⟨by decide,by decide,by decide,rfl⟩
       ·rintro t ⟨ht,hno⟩
        dsimp only[Sk,gcdC,JJ,Yh,go_sem,reduceIte,Ya]
        simp only[Yd,Ya,Ye,reduceCtorEq,Yc]
        refine⟨fun hlt2=>?_,fun hge2=>?_⟩
        ·have hb:2<=out.getD t 0/\out.getD t 0<=1099511627776:=hmu.op _ (KK (l:=out) (i:=t) (by omega))
         have w1:IntKind.i64.wrap ((t:Int)+1)=((t+1:Nat):Int):=by rw[Yg _ (by omega)];simp
         rw[w1,Yh]
         refine⟨⟨by omega,by omega⟩,by omega,out.getD t 0,v,⟨rfl,rfl,by omega,by omega⟩,fun hgt=>?_,fun hng=>?_⟩
         ·have hgt':1<YG (out.getD t 0) v:=by omega
          have hh:X9 out v=t:=Yat (fun j hj=>decide_eq_false (hno j hj)) (by omega) (fun _=>decide_eq_true hgt')
          obtain⟨g',hg',hd⟩:=hmu.hit hwn (i:=t) (by omega) (by rw[hgl,<-hv];exact hgt')
          obtain rfl:g=g':=by omega
          rw[hh,if_pos (by omega)]at hR
          rw[hgl,htl,<-hv]at hd
          obtain⟨b,hbd⟩:∃b,b=out.getD t 0:=⟨_,rfl⟩
          rw[<-hbd]at hR hd hb hgt hgt'⊢
          obtain⟨G,hG'⟩:∃G,G=YG b v:=⟨_,rfl⟩
          rw[<-hG']at hR hd hgt hgt'⊢
          have e1:IntKind.i64.wrap ((b:Int).tdiv (G:Int))=((b/G:Nat):Int):=by
           have:(b:Int).tdiv (G:Int)=((b/G:Nat):Int):=Wt rfl rfl
           have h2:b/G<=b:=QP _ _
           rw[this]
           generalize b/G=q at h2⊢
           exact Yg _ (by omega)
          have e2:IntKind.i64.wrap ((v:Int).tdiv (G:Int))=((v/G:Nat):Int):=by
           have:(v:Int).tdiv (G:Int)=((v/G:Nat):Int):=Wt rfl rfl
           have h2:v/G<=v:=QP _ _
           rw[this]
           generalize v/G=q at h2⊢
           exact Yg _ (by omega)
          rw[e1,e2]
          have hsub:Vi out.length (t+1)=out.length-(t+1):=by unfold Vi;rfl
          rw[hsub]
          have hWt:(W.take (n-1)++[G,b/G,v/G]).length=n-1+3:=by rw[JI,J8];simp only[Xr,ZI];omega
          have hol:(out.take t++out.drop (t+1)).length=t+(out.length-(t+1)):=by rw[JI,J8,List.length_drop];omega
          refine⟨⟨by omega,by omega⟩,⟨by omega,by omega⟩,by unfold Ka;omega,by omega,by omega,by decide,⟨by unfold Ka;omega,fun k hk=>?_⟩,⟨g,W.take (n-1)++[G,b/G,v/G],n-1+3,out.take t++out.drop (t+1),yw&&decide False,yo&&decide (out.length-(t+1)=0)⟩,⟨?_,?_,?_,?_,?_⟩,by simp only;omega,?_⟩
          ·match k,hk with
           |0,_=>exact⟨rfl,trivial,trivial⟩
           |1,_=>exact⟨rfl,trivial,trivial⟩
           |2,_=>exact⟨rfl,trivial,trivial⟩
          ·simp only;omega
          ·simp only;rw[<-hWt,QB];exact hd
          ·simp only;rw[<-hWt,QB];exact hR
          ·simp only;omega
          ·simp only
           intro hy
           rw[YS]at hy
           have:=hyo hy.1
           omega
          ·simp only[hol,hWt]
           simp only[Yf]
           refine⟨by decide,fun k hk=>?_,fun k hk=>?_⟩
           ·rw[Hy]
            by_cases hkt:k<t
            ·rw[if_pos hkt,Kp (l:=_++_),XE (by rw[J8];omega),XF,if_pos hkt,<-Kp]
             exact⟨⟨rfl,rfl⟩,trivial⟩
            ·rw[if_neg hkt,Kp (l:=_++_),WU (by rw[J8];omega),J8,Wb,<-Kp,show t+1+(k-min t out.length)=t+1+(k-t)by omega]
             exact⟨⟨rfl,rfl⟩,trivial⟩
           ·by_cases hkt:k<n-1
            ·rw[if_pos hkt,Kp (l:=_++_),XE (by rw[J8];omega),XF,if_pos hkt,<-Kp]
             exact⟨⟨rfl,rfl⟩,trivial⟩
            ·rw[if_neg hkt,Kp (l:=_++_),WU (by rw[J8];omega),J8,show k-min (n-1) W.length=k-(n-1)by omega]
             obtain⟨q,hq⟩:∃q,q=k-(n-1):=⟨_,rfl⟩
             rw[<-hq]
             have hq3:q<3:=by omega
             match q,hq3 with
             |0,_=>exact⟨⟨rfl,rfl⟩,trivial⟩
             |1,_=>exact⟨⟨rfl,rfl⟩,trivial⟩
             |2,_=>exact⟨⟨rfl,rfl⟩,trivial⟩
         ·refine⟨t+1,⟨by omega,fun j hj=>?_⟩,by omega,?_⟩
          ·rcases YV j t with h'|h'
           ·exact hno j h'
           ·obtain rfl:j=t:=by omega
            exact fun hh=>hng (by omega)
          ·simp only[Yf]
           exact⟨by decide,by decide,by decide⟩
        ·obtain rfl:t=out.length:=by omega
         have hh:X9 out v=out.length:=Yat (fun j hj=>decide_eq_false (hno j hj)) (Yr _) (fun hlt=>absurd hlt (XX _))
         obtain⟨g',hg',hd⟩:=hmu.push hwn (by rw[hgl,<-hv];exact h1')
         obtain rfl:g=g':=by omega
         rw[hh,if_neg (XX _)]at hR
         rw[hgl,htl,<-hv]at hd
         have hol:(out++[v]).length=out.length+1:=by rw[JI];rfl
         refine⟨by decide,⟨by unfold Ka;omega,fun k hk=>?_⟩,⟨g,W,n-1,out++[v],yw,yo&&decide False⟩,⟨by simp only;omega,hd,hR,by simp only;omega,?_⟩,by simp only;omega,?_⟩
         ·obtain rfl:k=0:=by omega
          exact⟨rfl,trivial,trivial⟩
         ·simp
         ·simp only[hol]
          simp only[Yf]
          refine⟨by decide,fun k hk=>?_⟩
          by_cases hkt:k<out.length
          ·rw[if_pos hkt,Kp (l:=_++_),XE hkt,<-Kp]
           exact⟨⟨rfl,rfl⟩,trivial⟩
          ·obtain rfl:k=out.length:=by omega
           rw[if_neg hkt,Kp (l:=_++_),WU (Yr _),Nat.sub_self]
           exact⟨⟨rfl,rfl⟩,trivial⟩
     ·obtain rfl:n=0:=by omega
      rw[List.take_zero]at hR hmu
      have hRo:R=out:=by
       rw[hR]
       cases f with
       |zero=>rfl
       |succ f=>rw[QT,if_pos ZI]
      have hpb:=hmu.pb
      rw[show YI out*YI []=YI out from Kb _]at hpb
      refine⟨(i+1,out,yo),⟨by simp only;omega,by rw[hstep,hRo],hmu.op,hpb,by simp only;omega,hyo⟩,by simp only;omega,?_⟩
      rw[Yg ((i:Int)+1) (by omega)]
      simp only[Yf]
      exact⟨by decide,by simp⟩
   ·obtain rfl:i=l.length:=by omega
    rw[QB]at hG
    have hG:Ud l=out:=hG.symm
    rw[hG]at h
    refine Ky (show k (.vs true yo out.length 1 (fun k=>JJ (out.getD k 0))) []from h yo) ?_ (fun _=>by simp [Y0,JJ,Y4])
    have e:QE [HO.own yo 1 out.length fun k=>JJ (out.getD k 0)] (SV.own 0 0 out.length 1)= .vs true yo out.length 1 (fun k=>JJ (out.getD k 0)):=by
     simp [QE,Qr,Qs,viewN,Yq,C8,JJ]
    rw[e]
    exact Jq _ trivial
 ·exact h.1.elim
def v54:VF:=⟨39,[.tmp 2],(ZR [u1 2 .mov [.cn (.bool false)]] (.seq (ZR [Zm 9 0,Zc 10 90 9,Zl 11 10,Zi 12 0] (.block 0 (.loop (ZR [Zr 13 .lss 12 11] (.seq (ZC 13 .skip (.exit 0)) (.seq (.block 1 (ZR [Zx 14 1 10 12,Zf 15 1 14,Zm 4 15] (ZR [Zi 5 0] (.seq (ZR [Zm 16 0,Zl 17 16,Zi 18 0] (.block 2 (.loop (ZR [Zr 19 .lss 18 17] (.seq (ZC 19 .skip (.exit 2)) (.seq (.block 3 (ZR [Zx 20 2 16 18,Zt 21 2 20,Zn 7,Zs 2 7 21] (ZR [Za 22 0 7,Zf 23 1 22,Zm 8 23] (.block 4 (.loop (.seq (ZR [Zm 24 8,Zm 25 4,u1 26 .rem [.tm 24,.tm 25],Zq 27 .eql 26 0] (ZC 27 .skip (.exit 4))) (.seq (.block 5 (.region [Zm 31 5,Za 32 1 7,Zf 33 1 32,Zo 34 .add 31 33,Zm 5 34])) (.region [Zm 28 8,Zm 29 4,u1 30 .quo [.tm 28,.tm 29],Zm 8 30])))))))) (.region [Zp 35 18 1,Zm 18 35]))))))) (ZR [Zm 36 5,Zq 37 .neq 36 0] (ZC 37 (ZR [u1 2 .mov [.cn (.bool false)]] .ret) .skip)))))) (.region [Zp 38 12 1,Zm 12 38]))))))) (ZR [u1 2 .mov [.cn (.bool true)]] .ret)))⟩
theorem Ys5:Yn Yb Tryz.f54=some v54:=by kernel_rfl
def QS:Nat->Int->Int->Int->Int->Int
 |0,_,_,_,s=>s
 |f+1,b,n,num,s=>if n.tmod b=0 then QS f b (IntKind.i64.wrap (n.tdiv b)) num (IntKind.i64.wrap (s+num))else s
def XT(l:List (Int×Int))(b:Nat):Int:=l.foldl (fun s x=>QS 64 b x.1 x.2 s) 0
def Wq(l:List (Int×Int)):Bool:=(Ud l).all fun b=>decide (XT l b=0)
theorem Mo{B:Nat}:∀{f:Nat}{wait out:List Nat},DrOk B f wait out->(∀x,x∈QT f wait out->2<=x/\x<=1099511627776)/\Yw (YI (QT f wait out))<=B
 |0,wait,out,h=>by
  rw[QT]
  have hw:wait=[]:=List.length_eq_zero_iff.1 (by have:=h.mu;omega)
  have:=h.pb
  rw[hw,show YI out*YI []=YI out from Kb _]at this
  exact⟨h.op,this⟩
 |f+1,wait,out,h=>by
  rw[QT]
  by_cases hw:wait.length=0
  ·rw[if_pos hw]
   have hw:wait=[]:=List.length_eq_zero_iff.1 hw
   have:=h.pb
   rw[hw,show YI out*YI []=YI out from Kb _]at this
   exact⟨h.op,this⟩
  ·rw[if_neg hw]
   by_cases h1:wait.getD (wait.length-1) 0=1
   ·rw[if_pos h1]
    obtain⟨g,hg,hd⟩:=h.pop hw h1
    obtain rfl:f=g:=by omega
    exact Mo hd
   ·rw[if_neg h1]
    by_cases h2:X9 out (wait.getD (wait.length-1) 0)<out.length
    ·rw[if_pos h2]
     have hs:=(BU (f:=fun i=>decide (1<YG (out.getD i 0) (wait.getD (wait.length-1) 0))) out.length 0).2.2.2 (by simpa [X9]using h2)
     obtain⟨g,hg,hd⟩:=h.hit hw h2 (of_decide_eq_true hs)
     obtain rfl:f=g:=by omega
     exact Mo hd
    ·rw[if_neg h2]
     obtain⟨g,hg,hd⟩:=h.push hw h1
     obtain rfl:f=g:=by omega
     exact Mo hd
theorem Ev{l:List (Int×Int)}(hl:∀x,x∈l->okT x)(hn:l.length<=20):∀x,x∈Ud l->2<=x/\x<=1099511627776:=by
 have key:∀i,i<=l.length->(∀x,x∈(l.take i).foldl XK []->2<=x/\x<=1099511627776)/\Yw (YI ((l.take i).foldl XK []))<=40*i+1:=fun i=>by
  induction i with
  |zero=>exact fun _=>⟨fun x hx=>absurd hx (by simp),by simp [YI];decide⟩
  |succ i ih=>
   intro hi
   obtain⟨h1,h2⟩:=ih (by omega)
   have hx:=hl _ (KK (by omega:i<l.length))
   rw[W5 (by omega)]
   obtain⟨q0,q1,q2,q3⟩:=hx
   exact Mo (DrOk.start (by omega) (by omega) h1 h2 (by omega))
 have:=(key l.length (Yr _)).1
 rwa [QB]at this
theorem Yio(l:List (Int×Int)):(Ud l).length<=3000*l.length:=by
 have key:∀(l:List (Int×Int))(out:List Nat),(l.foldl XK out).length<=out.length+3000*l.length:=fun l=>by
  induction l with
  |nil=>intro out;simp
  |cons x l ih=>
   intro out
   have h1:=ih (XK out x)
   have h2:(XK out x).length<=out.length+3000:=Yjr
   rw[List.foldl_cons,Xr]
   omega
 have h:=key l []
 rw[ZI,KL]at h
 exact h
def oneC:Ctr:={ alias:=false,of:=fun l=>match l with
 | [.vs _ _ n sz get]=> .ex (List (Int×Int)) fun l=> .pre (lsP 2 YA n sz get l/\(∀x,x∈l->okT x)/\n<=20) (.fin (.bool (Wq l)) [])
 |_=> .pre False (.fin (.bool false) [])}
def RA9:Env:={ ct:=fun n=>match n with|90=>some baseC|_=>none,fn:=fun _=>none,meth:=fun _ _=>none}
theorem Sl:RA9.ct 90=some baseC:=rfl
theorem Yf4:YE Yb RA9:=by
 refine⟨fun f c h=>?_,fun f vf h=>?_,(fun _ _ _ h=>by cases h),by kernel_rfl,(fun _ h=>by cases h)⟩
 ·simp only[RA9]at h
  split at h
  ·cases h;exact⟨Yip,_,Tryz.func90,rfl,rfl⟩
  ·cases h
 ·cases h
theorem Po:oneC.ok Yb 54:=by
 refine Yv Tryz.func54 Ys5 Yf4 500 oneC fun args k h=>?_
 simp only[oneC]at h
 split at h
 ·rename_i tt z n sz get
  obtain⟨l,⟨⟨rfl,rfl,hg⟩,hl,hn⟩,h⟩:=h
  refine⟨[.vs tt z l.length 2 (fun k=>YA (l.getD k default))],⟨⟨id,rfl,rfl,rfl,hg⟩,trivial⟩,?_⟩
  dsimp only[v54,Sl,baseC,YA,go_sem,reduceIte,Ya]
  simp only[Yd,Ya,Ye,reduceCtorEq,Yc]
  refine⟨l,⟨⟨rfl,rfl,fun k hk=>Y1 _⟩,hl,hn⟩,fun y=>?_⟩
  have hbr:=Ev hl hn
  have hbl:=Yio l
  obtain⟨B,hB⟩:∃B,B=Ud l:=⟨_,rfl⟩
  rw[<-hB]at hbr hbl⊢
  have hone:Wq l=B.all fun b=>decide (XT l b=0):=by rw[hB];rfl
  refine Loop.keep [0,9,0] Nat (fun i=>[(12,.int .i64 i)]) (fun _=>[]) [] (fun i=>i<=B.length/\((B.take i).all fun b=>decide (XT l b=0))=true) (fun i=>B.length-i) ?_ ?_
  ·refine⟨0,⟨by omega,rfl⟩,?_⟩
   dsimp only[go_sem,reduceIte,Ya]
   simp only[Yf]
   rfl
  ·rintro i ⟨hi,hall⟩
   dsimp only[Sl,baseC,JJ,YA,Yh,go_sem,reduceIte,Ya]
   simp only[Yd,Ya,Ye,reduceCtorEq,Yc]
   refine⟨fun hlt=>⟨⟨by omega,by omega⟩,?_⟩,fun hge=>?_⟩
   ·have hb:2<=B.getD i 0/\B.getD i 0<=1099511627776:=hbr _ (KK (l:=B) (i:=i) (by omega))
    have hsucc:((B.take (i+1)).all fun b=>decide (XT l b=0))=decide (XT l (B.getD i 0)=0):=by
     rw[Ydv (by omega),hall,Bool.true_and];rfl
    have hmemb:B.getD i 0∈B:=KK (l:=B) (i:=i) (by omega)
    obtain⟨b,hbe⟩:∃b,b=B.getD i 0:=⟨_,rfl⟩
    rw[<-hbe]at hb hsucc hmemb⊢
    refine Loop.keep [0,3,5,0,0,3,0] (Nat×Int) (fun s=>[(5,.int .i64 s.2),(18,.int .i64 s.1)]) (fun _=>[]) [] (fun s=>s.1<=l.length/\s.2=(l.take s.1).foldl (fun s x=>QS 64 b x.1 x.2 s) 0) (fun s=>l.length-s.1) ?_ ?_
    ·refine⟨(0,0),⟨by simp only;omega,rfl⟩,?_⟩
     dsimp only[go_sem,reduceIte,Ya]
     simp only[Yf]
     rfl
    ·rintro⟨t,S⟩ ⟨ht,hS⟩
     dsimp only at ht hS
     dsimp only[YA,Yh,go_sem,reduceIte,Ya]
     simp only[Yd,Ya,Ye,reduceCtorEq,Yc]
     refine⟨fun hlt2=>⟨⟨by omega,by omega⟩,?_⟩,fun hge2=>?_⟩
     ·have hx:=hl _ (KK (by omega:t<l.length))
      have hst:(l.take (t+1)).foldl (fun s x=>QS 64 b x.1 x.2 s) 0=QS 64 b (l.getD t default).1 (l.getD t default).2 S:=by
       rw[W5 (by omega),<-hS]
      generalize l.getD t default=x at hx hst⊢
      obtain⟨q0,q1,q2,q3⟩:=hx
      obtain⟨R,hR⟩:∃R,R=QS 64 b x.1 x.2 S:=⟨_,rfl⟩
      rw[<-hR]at hst
      refine Loop.keep [0,3,2,2,0,0,3,0,0] (Nat×Int×Int) (fun s=>[(5,.int .i64 s.2.2),(8,.int .i64 s.2.1)]) (fun _=>[]) [] (fun s=>R=QS s.1 b s.2.1 x.2 s.2.2/\1<=s.2.1/\s.2.1<2^s.1/\s.2.1<=1000000000001) (fun s=>s.1) ?_ ?_
      ·refine⟨(64,x.1,S),⟨hR,q0,by simp only;omega,q1⟩,?_⟩
       dsimp only[go_sem,reduceIte,Ya]
       simp only[Yf]
       decide
      ·rintro⟨f,n,S'⟩ ⟨hf,n0,n1,n2⟩
       dsimp only at hf n0 n1 n2
       dsimp only[go_sem,reduceIte,Ya]
       simp only[Yd,Ya,Ye,reduceCtorEq,Yc]
       obtain⟨m,rfl⟩:=Vl (by omega:0<=n)
       obtain⟨g,rfl⟩:∃g,f=g+1:=by
        cases f with
        |zero=>simp at n1;omega
        |succ g=>exact⟨g,rfl⟩
       rw[QS]at hf
       refine⟨by omega,fun hc=>⟨by omega,?_⟩,fun hc=>?_⟩
       ·rw[if_pos hc]at hf
        have e1:(m:Int).tmod (b:Int)=((m%b:Nat):Int):=Vm rfl rfl
        have e2:(m:Int).tdiv (b:Int)=((m/b:Nat):Int):=Wt rfl rfl
        rw[e1]at hc
        have hdm:=KO m b
        rw[show m%b=0 by omega,Kw]at hdm
        have hq1:1<=m/b:=Nat.pos_of_ne_zero fun hh=>by rw[hh,Wf]at hdm;omega
        have hq2:2*(m/b)<=m:=by
         have:2*(m/b)<=b*(m/b):=Yu _ hb.1
         omega
        rw[e2]at hf⊢
        generalize m/b=q at hq1 hq2 hf⊢
        have eq:IntKind.i64.wrap (q:Int)=(q:Int):=Yg _ (by omega)
        rw[eq]at hf⊢
        have n1':m<2^g*2:=by rw[<-YF];exact_mod_cast n1
        refine⟨(g,q,IntKind.i64.wrap (S'+x.2)),⟨hf,by simp only;omega,?_,by simp only;omega⟩,by simp only;omega,?_⟩
        ·show(q:Int)<2^g
         have:q<2^g:=by omega
         exact_mod_cast this
        ·simp only[Yf]
         decide
       ·rw[if_neg hc]at hf
        refine⟨(t+1,S'),⟨by simp only;omega,by rw[hst,hf]⟩,by simp only;omega,?_⟩
        rw[Yg ((t:Int)+1) (by omega)]
        simp only[Yf]
        simp
     ·obtain rfl:t=l.length:=by omega
      rw[QB]at hS
      have hS:S=XT l b:=hS
      refine⟨fun hc=>?_,fun hc=>⟨i+1,⟨by omega,?_⟩,by omega,?_⟩⟩
      ·have:Wq l=false:=by
        rw[hone,List.all_eq_false]
        exact⟨b,hmemb,by rw[<-hS];simpa using hc⟩
       rw[this]at h
       exact Qi h
      ·rw[hsucc,<-hS];exact decide_eq_true hc
      ·rw[Yg ((i:Int)+1) (by omega)]
       simp only[Yf]
       simp
   ·obtain rfl:i=B.length:=by omega
    rw[QB]at hall
    rw[hone,hall]at h
    exact Qi h
 ·exact h.1.elim
def v52:VF:=⟨39,[.tmp 2],(ZR [Zi 2 0] (.seq (ZR [Zm 9 0,Zc 10 87 9,Zm 8 10,Ze 11 0 8,Ze 12 1 8,Zm 3 11,Zm 4 12] (ZR [Zm 13 4] (ZC 13 (ZR [Zm 14 3,Zm 2 14] .ret) .skip))) (.seq (ZR [Zm 15 0,Zc 16 54 15] (ZC 16 (ZR [Zi 2 0] .ret) .skip)) (.seq (ZR [Zi 5 64] (.block 0 (.loop (.seq (ZR [Zm 17 5,Zq 18 .leq 17 2048] (ZC 18 .skip (.exit 0))) (.seq (.block 1 (ZR [Zm 22 0,Zm 23 5,Zd 24 88 22 23,Zm 21 24,Ze 25 0 21,Ze 26 1 21,u1 6 (.alloc [.nil,.nil]) [],u1 7 (.alloc [.nil,.nil]) [],Zs 2 6 25,Zs 2 7 26] (.block 2 (ZR [Za 28 0 6,Zf 29 1 28,Za 30 1 7,Zf 31 1 30,Zd 32 89 29 31,Zm 27 32] (ZC 27 (ZR [Zi 2 1] .ret) (ZR [Za 34 0 7,Zf 35 1 34,Za 36 1 6,Zf 37 1 36,Zd 38 89 35 37,Zm 33 38] (ZC 33 (ZR [Zi 2 (-1)] .ret) .skip))))))) (.region [Zm 19 5,u1 20 (.ari .mul) [.tm 19,.cn (.int .i64 2)],Zm 5 20])))))) (ZR [Zi 2 0] .ret)))))⟩
theorem Ys4:Yn Yb Tryz.f52=some v52:=by kernel_rfl
def v49:VF:=⟨33,[.tmp 2],(ZR [Zi 2 0] (.seq (ZR [Zm 5 0,Zl 6 5,Zq 7 .gtr 6 16] (ZC 7 (ZR [Zi 2 3] .ret) .skip)) (.seq (ZR [Zm 8 0,Zl 9 8,Zi 10 0] (.block 0 (.loop (ZR [Zr 11 .lss 10 9] (.seq (ZC 11 .skip (.exit 0)) (.seq (.block 1 (ZR [Zx 12 2 8 10,Zt 13 2 12,Zn 4,Zs 2 4 13] (ZR [Za 14 0 4,Zf 15 1 14,Zq 16 .lss 15 1,Zm 17 16,Zj 18 17 false 0 4,Zh 19 17 false 1 18,u2 20 17 false (.cmp .gtr) [.tm 19,.cn (.int .i64 1000000000000)],u1 21 .or [.tm 17,.tm 20],Zm 22 21,Zj 23 22 false 1 4,Zh 24 22 false 1 23,u2 25 22 false (.cmp .lss) [.tm 24,.cn (.int .i64 (-1000000000))],u1 26 .or [.tm 22,.tm 25],Zm 27 26,Zj 28 27 false 1 4,Zh 29 27 false 1 28,u2 30 27 false (.cmp .gtr) [.tm 29,.cn (.int .i64 1000000000)],u1 31 .or [.tm 27,.tm 30]] (ZC 31 (ZR [Zi 2 2] .ret) .skip)))) (.region [Zp 32 10 1,Zm 10 32]))))))) (ZR [Zi 2 0] .ret))))⟩
theorem Ys0:Yn Yb Tryz.f49=some v49:=by kernel_rfl
def QI:Nat->List (Int×Int)->Nat->Int
 |0,_,_=>0
 |f+1,l,p=>if(QK l p).dh<(QK l p).ul then 1 else if(QK l p).uh<(QK l p).dl then -1 else QI f l (2*p)
def Xd(l:List (Int×Int)):Int:=if(G1 l).2=true then(G1 l).1 else if Wq l=true then 0 else QI 6 l 64
def signC:Ctr:={ alias:=false,of:=fun l=>match l with
 | [.vs _ _ n sz get]=> .ex (List (Int×Int)) fun l=> .pre (lsP 2 YA n sz get l/\(∀x,x∈l->okT x)/\n<=20) (.fin (.int .i64 (Xd l)) [])
 |_=> .pre False (.fin (.int .i64 0) [])}
def Xa(x:Int×Int):Bool:=decide (x.1<1) || decide (1000000000000<x.1) || decide (x.2< -1000000000) || decide (1000000000<x.2)
def Xl(l:List (Int×Int)):Int:=if 16<l.length then 3 else if l.any Xa=true then 2 else 0
def chkTC:Ctr:={ alias:=false,of:=fun l=>match l with
 | [.vs _ _ n sz get]=> .ex (List (Int×Int)) fun l=> .pre (lsP 2 YA n sz get l/\n<=9223372036854775807) (.fin (.int .i64 (Xl l)) [])
 |_=>noC}
theorem Yrj(l:List (Int×Int))(p:Nat):(QK l p).ok:=by
 have key:∀(l:List (Int×Int))(s:Bnd),s.ok->(l.foldl (XC p) s).ok:=fun l=>by
  induction l with
  |nil=>intro s h;exact h
  |cons x l ih=>intro s h;exact ih _ (Rh p s x h)
 exact key l _ (by simp [Bnd.ok,XL])
def RB0:Env:={ ct:=fun n=>match n with|87=>some guessC|54=>some oneC|88=>some sumsC|89=>some aboveC|_=>none,fn:=fun _=>none,meth:=fun _ _=>none}
theorem Yf6:RB0.ct 87=some guessC:=rfl
theorem Yf5:RB0.ct 54=some oneC:=rfl
theorem Yf7:RB0.ct 88=some sumsC:=rfl
theorem Yf8:RB0.ct 89=some aboveC:=rfl
theorem Yf9:YE Yb RB0:=by
 refine⟨fun f c h=>?_,fun f vf h=>?_,(fun _ _ _ h=>by cases h),by kernel_rfl,(fun _ h=>by cases h)⟩
 ·simp only[RB0]at h
  split at h
  ·cases h;exact⟨Ykv,_,Tryz.func87,rfl,rfl⟩
  ·cases h;exact⟨Po,_,Tryz.func54,rfl,rfl⟩
  ·cases h;exact⟨Yrk,_,Tryz.func88,rfl,rfl⟩
  ·cases h;exact⟨C7,_,Tryz.func89,rfl,rfl⟩
  ·cases h
 ·cases h
theorem Yc7:signC.ok Yb 52:=by
 refine Yv Tryz.func52 Ys4 Yf9 500 signC fun args k h=>?_
 simp only[signC]at h
 split at h
 ·rename_i tt z n sz get
  obtain⟨l,⟨⟨rfl,rfl,hg⟩,hl,hn⟩,h⟩:=h
  refine⟨[.vs tt z l.length 2 (fun k=>YA (l.getD k default))],⟨⟨id,rfl,rfl,rfl,hg⟩,trivial⟩,?_⟩
  dsimp only[v52,Yf6,Yf5,guessC,oneC,YA,go_sem,reduceIte,Ya]
  simp only[Yd,Ya,Ye,reduceCtorEq,Yc]
  have hself:lsP 2 YA l.length 2 (fun k=>[SV.int IntKind.i64 (l.getD k default).fst,SV.int IntKind.i64 (l.getD k default).snd]) l:=⟨rfl,rfl,fun k _=>Y1 _⟩
  refine⟨l,⟨hself,hl,by omega⟩,by decide,by decide,fun hc=>?_,fun hc=>⟨l,⟨hself,hl,hn⟩,fun hd=>?_,fun hd=>?_⟩⟩
  ·rw[Xd,if_pos hc]at h;exact YX h
  ·rw[Xd,if_neg (by rw[hc];decide),if_pos hd]at h;exact YX h
  ·rw[Xd,if_neg (by rw[hc];decide),if_neg (by rw[hd];decide)]at h
   obtain⟨R,hR⟩:∃R,R=QI 6 l 64:=⟨_,rfl⟩
   rw[<-hR]at h
   refine Loop.keep [0] (Nat×Nat) (fun s=>[(5,.int .i64 s.2)]) (fun _=>[]) [] (fun s=>R=QI s.1 l s.2/\s.2*2^s.1=4096/\64<=s.2) (fun s=>s.1) ?_ ?_
   ·refine⟨(6,64),⟨hR,by decide,by decide⟩,?_⟩
    dsimp only[go_sem,reduceIte,Ya]
    simp only[Yf]
    rfl
   ·rintro⟨f,p⟩ ⟨hf,hp,hp64⟩
    dsimp only at hf hp hp64
    dsimp only[Yf7,Yf8,sumsC,aboveC,Ym,go_sem,reduceIte,Ya]
    simp only[Yd,Ya,Ye,reduceCtorEq,Yc]
    obtain⟨k1,k2,k3,k4⟩:=Yrj l p
    have hfd:p<=2048->∃g,f=g+1:=fun hpl=>by
     rcases KU f with h0|h0
     ·rw[h0,JO,Kb]at hp;omega
     ·exact⟨f-1,by omega⟩
    have hf0:¬p<=2048->f=0:=fun hpl=>by
     rcases KU f with h0|h0
     ·exact h0
     ·obtain⟨g,rfl⟩:∃g,f=g+1:=⟨f-1,by omega⟩
      rw[YF]at hp
      have:1<=2^g:=Ja g
      have:p*2<=p*(2^g*2):=Yz _ (by omega)
      omega
    refine⟨fun hc=>⟨l,p,⟨hself,hl,by omega,rfl,by omega⟩,fun y1 y2 y3 y4=>⟨by decide,by decide,(QK l p).ul,(QK l p).dh,⟨Y7 k1,Y7 k4⟩,fun hd=>?_,fun hd=>⟨(QK l p).dl,(QK l p).uh,⟨Y7 k3,Y7 k2⟩,fun he=>?_,fun he=>?_⟩⟩⟩,fun hc=>?_⟩
    ·obtain⟨g,rfl⟩:=hfd (by omega)
     rw[QI,if_pos hd]at hf
     rw[hf]at h;exact YX h
    ·obtain⟨g,rfl⟩:=hfd (by omega)
     rw[QI,if_neg hd,if_pos he]at hf
     rw[hf]at h;exact YX h
    ·obtain⟨g,rfl⟩:=hfd (by omega)
     rw[QI,if_neg hd,if_neg he]at hf
     rw[YF]at hp
     have hp2:2*p*2^g=4096:=by rw[<-hp,Yk 2 p,Yx,Yk 2]
     refine⟨(g,2*p),⟨hf,hp2,by simp only;omega⟩,by simp only;omega,?_⟩
     rw[show IntKind.i64.wrap ((p:Int)*2)=((2*p:Nat):Int)by rw[Yg _ (by omega)];omega]
     simp only[Yf]
    ·obtain rfl:=hf0 (by omega)
     rw[QI]at hf
     rw[hf]at h;exact YX h
 ·exact h.1.elim
def RB1:Env:={ ct:=fun _=>none,fn:=fun _=>none,meth:=fun _ _=>none}
theorem Yga:YE Yb RB1:=by
 refine⟨fun f c h=>?_,fun f vf h=>?_,(fun _ _ _ h=>by cases h),by kernel_rfl,(fun _ h=>by cases h)⟩
 ·cases h
 ·cases h
theorem Ie:chkTC.ok Yb 49:=by
 refine Yv Tryz.func49 Ys0 Yga 500 chkTC fun args k h=>?_
 simp only[chkTC]at h
 split at h
 ·rename_i tt z n sz get
  obtain⟨l,⟨⟨rfl,rfl,hg⟩,hn⟩,h⟩:=h
  refine⟨[.vs tt z l.length 2 (fun k=>YA (l.getD k default))],⟨⟨id,rfl,rfl,rfl,hg⟩,trivial⟩,?_⟩
  dsimp only[v49,YA,go_sem,reduceIte,Ya]
  simp only[Yd,Ya,Ye,reduceCtorEq,Yc]
  refine⟨fun hc=>?_,fun hc=>?_⟩
  ·rw[Xl,if_pos (by omega)]at h;exact YX h
  ·rw[Xl,if_neg (by omega)]at h
   refine Loop.keep [0,7,0] Nat (fun i=>[(10,.int .i64 i)]) (fun _=>[]) [] (fun i=>i<=l.length/\(l.take i).any Xa=false) (fun i=>l.length-i) ?_ ?_
   ·refine⟨0,⟨by omega,rfl⟩,?_⟩
    dsimp only[go_sem,reduceIte,Ya]
    simp only[Yf]
    rfl
   ·rintro i ⟨hi,hall⟩
    dsimp only[YA,Yh,go_sem,reduceIte,Ya]
    simp only[Yd,Ya,Ye,reduceCtorEq,Yc]
    refine⟨fun hlt=>⟨⟨by omega,by omega⟩,fun hc=>?_,fun hc=>⟨i+1,⟨by omega,?_⟩,by omega,?_⟩⟩,fun hge=>?_⟩
    ·have:l.any Xa=true:=List.any_eq_true.2 ⟨_,KK (by omega:i<l.length),hc⟩
     rw[if_pos this]at h
     exact YX h
    ·rw[Ydw (by omega),hall,Bool.false_or];exact hc
    ·rw[Yg ((i:Int)+1) (by omega)]
     simp only[Yf]
     simp
    ·obtain rfl:i=l.length:=by omega
     rw[QB]at hall
     rw[if_neg (by rw[hall];decide)]at h
     exact YX h
 ·exact h.1.elim
def v47:VF:=⟨54,[.tmp 6,.tmp 7,.tmp 8],(ZR [u1 5 .box [.tm 2],Zi 6 0,u1 7 .mov [.cn (.bool false)],Zi 8 0] (.seq (ZR [Zm 13 1,Zc 14 49 13,Zm 9 14] (ZR [Zm 15 9,Zq 16 .neq 15 0] (ZC 16 (ZR [Zm 17 9,Zi 6 0,u1 7 .mov [.cn (.bool false)],Zm 8 17] .ret) .skip))) (.seq (ZR [Zf 18 1 5,Zq 19 .lss 18 1,Zm 20 19,Zh 21 20 false 1 5,u2 22 20 false (.cmp .gtr) [.tm 21,.cn (.int .i64 1000000)],u1 23 .or [.tm 20,.tm 22],Zm 24 23,Zg 25 24 false 0,u2 26 24 false (.cmp .lss) [.tm 25,.cn (.int .i64 1)],u1 27 .or [.tm 24,.tm 26],Zm 28 27,Zg 29 28 false 0,u2 30 28 false (.cmp .gtr) [.tm 29,.cn (.int .i64 1000000000000)],u1 31 .or [.tm 28,.tm 30]] (ZC 31 (ZR [Zi 6 0,u1 7 .mov [.cn (.bool false)],Zi 8 2] .ret) .skip)) (.seq (.drawT [(10,.box [.nil])] (.ops [Zu 32 1] (.ops [Zu 34 0] (.ops [Zv 35 1 5] (.ops [w1 36 (.build [(.int .i64 0),(.int .i64 0)] [(0,1),(1,1)]) [.tm 34,.tm 35]] (.ops [] (.br (.ops [⟨u1 33 (.append 2 16 [(.int .i64 0),(.int .i64 0)]) [.cn .nil,.tm 32],[.tm 0,.tm 34,.tm 5,.tm 35,.tm 34,.tm 35,.tm 36]⟩] (.ops [w1 37 (.buildSlice 2 1 [(.int .i64 0),(.int .i64 0)] [(0,2)]) [.tm 36]] (.ops [w1 38 (.append 2 16 [(.int .i64 0),(.int .i64 0)]) [.tm 33,.tm 37]] (.ops [ZS 1 10 38] .leaf)))) (.ops [w1 37 (.buildSlice 2 1 [(.int .i64 0),(.int .i64 0)] [(0,2)]) [.tm 36]] (.ops [⟨u1 33 (.append 2 16 [(.int .i64 0),(.int .i64 0)]) [.cn .nil,.tm 32],[.tm 0,.tm 34,.tm 5,.tm 35,.tm 34,.tm 35,.tm 36]⟩] (.ops [w1 38 (.append 2 16 [(.int .i64 0),(.int .i64 0)]) [.tm 33,.tm 37]] (.ops [ZS 1 10 38] .leaf))))))))))) (ZR [u1 39 (.mkfn (.func 83) 0) [.tm 10,.tm 5],u1 11 (.alloc [(.val .nilFunc)]) [],Zs 1 11 39] (ZR [u1 40 (.mkfn (.func 84) 0) [.tm 11],Zm 12 40] (.seq (ZR [Zm 41 12,u1 42 .callv [.tm 41,.cn (.int .i64 1000000000001)]] (ZC 42 (ZR [Zi 6 0,u1 7 .mov [.cn (.bool false)],Zi 8 7] .ret) .skip)) (ZR [Zm 43 12,u1 44 (.call 53) [.cn (.int .i64 0),.cn (.int .i64 1000000000001),.tm 43],Zm 6 44] (ZR [Zm 45 6,Zm 46 6,Zq 47 .gtr 46 0,Zm 48 47,Zh 49 48 true 1 11,Zg 50 48 true 6,u2 51 48 true .callv [.tm 49,.tm 50],u2 52 48 true (.call 54) [.tm 51],u1 53 .and [.tm 48,.tm 52],Zm 6 45,Zm 7 53,Zi 8 0] .ret)))))))))⟩
theorem YsZ:Yn Yb Tryz.f47=some v47:=by kernel_rfl
def v83:VF:=⟨17,[.tmp 4],(ZR [u1 4 .mov [.cn .nil]] (.seq (.draw [] [Zv 5 1 1,Zv 6 1 1,w1 7 .len [.tm 6],Zv 8 1 1,w1 9 .len [.tm 8],w1 10 (.slice3 2) [.tm 5,.tm 7,.tm 9],Zu 11 0,Zv 12 1 2,w1 13 .neg [.tm 12],w1 14 (.build [(.int .i64 0),(.int .i64 0)] [(0,1),(1,1)]) [.tm 11,.tm 13],w1 15 (.buildSlice 2 1 [(.int .i64 0),(.int .i64 0)] [(0,2)]) [.tm 14],w1 16 (.append 2 16 [(.int .i64 0),(.int .i64 0)]) [.tm 10,.tm 15],Zu 4 16]) .ret))⟩
theorem Ytz:Yn Yb Tryz.f83=some v83:=by kernel_rfl
def v84:VF:=⟨13,[.tmp 3],(ZR [u1 3 .mov [.cn (.bool false)]] (ZR [Zm 4 0,Zq 5 .eql 4 0,Zm 6 5,Zh 7 6 false 1 1,Zg 8 6 false 0,u2 9 6 false .callv [.tm 7,.tm 8],u2 10 6 false (.call 52) [.tm 9],u2 11 6 false (.cmp .geq) [.tm 10,.cn (.int .i64 0)],u1 12 .or [.tm 6,.tm 11],Zm 3 12] .ret))⟩
theorem YtA:Yn Yb Tryz.f84=some v84:=by kernel_rfl
def v53:VF:=⟨24,[.tmp 6],(ZR [Zi 6 0] (.seq (.block 0 (.loop (.seq (ZR [Zm 8 1,Zm 9 0,Zo 10 .sub 8 9,Zq 11 .gtr 10 1] (ZC 11 .skip (.exit 0))) (.block 1 (ZR [Zm 12 0,Zm 13 1,Zm 14 0,Zo 15 .sub 13 14,u1 16 .quo [.tm 15,.cn (.int .i64 2)],Zo 17 .add 12 16,Zm 7 17] (ZR [Zm 18 2,Zm 19 7,u1 20 .callv [.tm 18,.tm 19]] (ZC 20 (.region [Zm 21 7,Zm 0 21]) (.region [Zm 22 7,Zm 1 22])))))))) (ZR [Zm 23 0,Zm 6 23] .ret)))⟩
theorem Yez:Yn Yb Tryz.f53=some v53:=by kernel_rfl
def KQ:Nat->(Int->Bool)->Int->Int->Int
 |0,_,a,_=>a
 |f+1,t,a,b=>if 1<b-a then(if t (a+(b-a)/2)=true then KQ f t (a+(b-a)/2) b else KQ f t a (a+(b-a)/2))else a
def atF(all:List (Int×Int))(den k:Int):List (Int×Int):=all++[(k, -den)]
def isF(all:List (Int×Int))(den k:Int):Bool:=decide (k=0) || decide (0<=Xd (atF all den k))
def Al(s:Int)(l:List (Int×Int))(den:Int):Int×Bool×Int:=
 if isF (l++[(s,den)]) den 1000000000001=true then(0,false,7)
 else(KQ 64 (isF (l++[(s,den)]) den) 0 1000000000001,decide (0<KQ 64 (isF (l++[(s,den)]) den) 0 1000000000001)&&Wq (atF (l++[(s,den)]) den (KQ 64 (isF (l++[(s,den)]) den) 0 1000000000001)),0)
def Ub(s den:Int):Bool:=decide (den<1) || (decide (1000000<den) || (decide (s<1) || decide (1000000000000<s)))
def XO(s:Int)(l:List (Int×Int))(den:Int):Int×Bool×Int:=
 if Xl l≠0 then(0,false,Xl l)else if Ub s den=true then(0,false,2)else Al s l den
theorem Yin{s den:Int}(h:Ub s den=false):(1<=s/\s<=1000000000000)/\1<=den/\den<=1000000:=by
 simp only[Ub,JH,decide_eq_false_iff_not]at h;omega
theorem EL{l:List (Int×Int)}(h:Xl l=0):(∀x,x∈l->Xa x=false)/\l.length<=16:=by
 unfold Xl at h
 split at h
 ·cases h
 ·split at h
  ·cases h
  ·rename_i h1 h2
   rw[Bool.not_eq_true,List.any_eq_false]at h2
   exact⟨fun x hx=>by simpa using h2 x hx,by omega⟩
def prodC:Ctr:={ alias:=false,of:=fun l=>match l with
 | [.int .i64 s,.vs _ _ n sz get,.int .i64 den]=> .ex (List (Int×Int)) fun l=> .pre (lsP 2 YA n sz get l/\1<=n/\n<=1000000000000) (.fin (.tup [.int .i64 (XO s l den).1,.bool (XO s l den).2.1,.int .i64 (XO s l den).2.2]) [])
 |_=>noC}
theorem Yik{l:List (Int×Int)}{s den kk:Int}{hp:List HO}{r:List SV->List SV}{i k:Nat}(hk:k<l.length+1+1):
 Qz (Qs false hp r (if k<l.length+1 then if k<l.length then [SV.int IntKind.i64 (l.getD k default).fst,SV.int IntKind.i64 (l.getD k default).snd]else YZ i (YR 2 (YK ((k-l.length)*2) [SV.int IntKind.i64 s,SV.int IntKind.i64 den]))else YR 2 (YK ((k-(l.length+1))*2) [SV.int IntKind.i64 kk,SV.int IntKind.i64 (-den)]))) (YA ((atF (l++[(s,den)]) den kk).getD k default)):=by
 unfold atF
 rw[List.append_assoc]
 by_cases h1:k<l.length
 ·rw[if_pos (by omega),if_pos h1,Kp (l:=_++_),XE h1,<-Kp]
  exact Y1 _
 ·rw[Kp (l:=_++_),WU (by omega),if_neg h1]
  by_cases h2:k<l.length+1
  ·rw[if_pos h2,show k-l.length=0 by omega]
   exact Y1 _
  ·rw[if_neg h2,show k-(l.length+1)=0 by omega,show k-l.length=1 by omega]
   exact Y1 _
theorem AN{l:List (Int×Int)}{s den:Int}{i k a b:Nat}(hk:k<l.length+1):leL a b (if k<l.length then [SV.int IntKind.i64 (l.getD k default).fst,SV.int IntKind.i64 (l.getD k default).snd]else YZ i (YR 2 (YK ((k-l.length)*2) [SV.int IntKind.i64 s,SV.int IntKind.i64 den]))) (if k<l.length then [SV.int IntKind.i64 (l.getD k default).fst,SV.int IntKind.i64 (l.getD k default).snd]else YZ i (YR 2 (YK ((k-l.length)*2) [SV.int IntKind.i64 s,SV.int IntKind.i64 den]))):=by
 by_cases h1:k<l.length
 ·rw[if_pos h1];exact⟨⟨rfl,rfl⟩,⟨rfl,rfl⟩,trivial⟩
 ·rw[if_neg h1,show k-l.length=0 by omega];exact⟨⟨rfl,rfl⟩,⟨rfl,rfl⟩,trivial⟩
theorem P3{s den:Int}{i k a b:Nat}(hk:k<1):leL a b (YZ i (YR 2 (YK (k*2) [SV.int IntKind.i64 s,SV.int IntKind.i64 den]))) (YZ i (YR 2 (YK (k*2) [SV.int IntKind.i64 s,SV.int IntKind.i64 den]))):=by
 obtain rfl:k=0:=by omega
 exact⟨⟨rfl,rfl⟩,⟨rfl,rfl⟩,trivial⟩
theorem P4{l:List (Int×Int)}{s den kk dd:Int}{i k a b:Nat}(hk:k<l.length+1+1):leL a b (if k<l.length+1 then if k<l.length then [SV.int IntKind.i64 (l.getD k default).fst,SV.int IntKind.i64 (l.getD k default).snd]else YZ i (YR 2 (YK ((k-l.length)*2) [SV.int IntKind.i64 s,SV.int IntKind.i64 den]))else YR 2 (YK ((k-(l.length+1))*2) [SV.int IntKind.i64 kk,SV.int IntKind.i64 dd])) (if k<l.length+1 then if k<l.length then [SV.int IntKind.i64 (l.getD k default).fst,SV.int IntKind.i64 (l.getD k default).snd]else YZ i (YR 2 (YK ((k-l.length)*2) [SV.int IntKind.i64 s,SV.int IntKind.i64 den]))else YR 2 (YK ((k-(l.length+1))*2) [SV.int IntKind.i64 kk,SV.int IntKind.i64 dd])):=by
 by_cases h1:k<l.length+1
 ·rw[if_pos h1];exact AN h1
 ·rw[if_neg h1,show k-(l.length+1)=0 by omega];exact⟨⟨rfl,rfl⟩,⟨rfl,rfl⟩,trivial⟩
theorem Eo{l:List (Int×Int)}{s den kk:Int}{hp:List HO}{r:List SV->List SV}{i:Nat}:
 lsP 2 YA (l.length+1+1) 2 (fun k=>Qs false hp r (if k<l.length+1 then if k<l.length then [SV.int IntKind.i64 (l.getD k default).fst,SV.int IntKind.i64 (l.getD k default).snd]else YZ i (YR 2 (YK ((k-l.length)*2) [SV.int IntKind.i64 s,SV.int IntKind.i64 den]))else YR 2 (YK ((k-(l.length+1))*2) [SV.int IntKind.i64 kk,SV.int IntKind.i64 (-den)]))) (atF (l++[(s,den)]) den kk):=
 ⟨rfl,by simp [atF],fun k hk=>Yik hk⟩
theorem Ep{l:List (Int×Int)}{s den kk:Int}(hl:∀x,x∈l->Xa x=false)(hs:1<=s/\s<=1000000000000)(hd:1<=den/\den<=1000000)(hk:1<=kk/\kk<=1000000000001):∀x,x∈atF (l++[(s,den)]) den kk->okT x:=by
 intro x hx
 unfold atF at hx
 rw[KE,KE,JD,JD]at hx
 rcases hx with(hx|rfl) |rfl
 ·have:=hl x hx
  unfold Xa at this
  simp only[JH,decide_eq_false_iff_not]at this
  unfold okT
  omega
 ·simp only[okT];omega
 ·simp only[okT];omega
theorem En{l:List (Int×Int)}{s den:Int}{i k:Nat}(hk:k<l.length+1):YH (if k<l.length then [SV.int IntKind.i64 (l.getD k default).fst,SV.int IntKind.i64 (l.getD k default).snd]else YZ i (YR 2 (YK ((k-l.length)*2) [SV.int IntKind.i64 s,SV.int IntKind.i64 den])))=2/\Jk (if k<l.length then [SV.int IntKind.i64 (l.getD k default).fst,SV.int IntKind.i64 (l.getD k default).snd]else YZ i (YR 2 (YK ((k-l.length)*2) [SV.int IntKind.i64 s,SV.int IntKind.i64 den]))):=by
 by_cases h1:k<l.length
 ·rw[if_pos h1];exact⟨rfl,trivial,trivial,trivial⟩
 ·rw[if_neg h1,show k-l.length=0 by omega];exact⟨rfl,trivial,trivial,trivial⟩
theorem Ab{a b:Int}{k:Nat}(hk:k<1):YH (YR 2 (YK (k*2) [SV.int IntKind.i64 a,SV.int IntKind.i64 b]))=2/\Jk (YR 2 (YK (k*2) [SV.int IntKind.i64 a,SV.int IntKind.i64 b])):=by
 obtain rfl:k=0:=by omega
 exact⟨rfl,trivial,trivial,trivial⟩
def RB2:Env:={ ct:=fun n=>match n with|49=>some chkTC|52=>some signC|54=>some oneC|_=>none,fn:=fun n=>match n with|83=>some v83|84=>some v84|53=>some v53|_=>none,meth:=fun _ _=>none}
theorem Ygb:RB2.ct 49=some chkTC:=rfl
theorem Sm:RB2.ct 52=some signC:=rfl
theorem Ygd:RB2.ct 54=some oneC:=rfl
theorem Sn:RB2.ct 83=none:=rfl
theorem Sp:RB2.fn 83=some v83:=rfl
theorem So:RB2.ct 84=none:=rfl
theorem Sq:RB2.fn 84=some v84:=rfl
theorem Ygc:RB2.ct 53=none:=rfl
theorem Yge:RB2.fn 53=some v53:=rfl
theorem Ygf:YE Yb RB2:=by
 refine⟨fun f c h=>?_,fun f vf h=>?_,(fun _ _ _ h=>by cases h),by kernel_rfl,(fun _ h=>by cases h)⟩
 ·simp only[RB2]at h
  split at h
  ·cases h;exact⟨Ie,_,Tryz.func49,rfl,rfl⟩
  ·cases h;exact⟨Yc7,_,Tryz.func52,rfl,rfl⟩
  ·cases h;exact⟨Po,_,Tryz.func54,rfl,rfl⟩
  ·cases h
 ·simp only[RB2]at h
  split at h
  ·cases h;exact⟨_,Tryz.func83,Ytz,_,Tryz.func83,rfl,rfl⟩
  ·cases h;exact⟨_,Tryz.func84,YtA,_,Tryz.func84,rfl,rfl⟩
  ·cases h;exact⟨_,Tryz.func53,Yez,_,Tryz.func53,rfl,rfl⟩
  ·cases h
theorem WX{k:SV->List HO->Prop}{al:Bool}{hp:List HO}{κ κ':IntKind}{x e:Int}{b:Bool}(h:k (.tup [.int κ x,.bool b,.int κ' e]) []):Jv al k (.tup [.int κ x,.bool b,.int κ' e]) hp:=
 Ky (show k _ []from h) (Jq (.tup [.int κ x,.bool b,.int κ' e]) ⟨trivial,trivial,trivial,trivial⟩) (fun _=>by simp [Y0,Y4])
theorem Yn3:prodC.ok Yb 47:=by
 refine Yv Tryz.func47 YsZ Ygf 800 prodC fun args k h=>?_
 simp only[prodC]at h
 split at h
 ·rename_i s tt z n sz get den
  obtain⟨l,⟨⟨rfl,rfl,hg⟩,hn1,hnb⟩,h⟩:=h
  refine⟨[.int .i64 s,.vs tt z l.length 2 (fun k=>YA (l.getD k default)),.int .i64 den],⟨⟨rfl,rfl⟩,⟨id,rfl,rfl,rfl,hg⟩,⟨rfl,rfl⟩,trivial⟩,?_⟩
  dsimp only[v47,Ygb,chkTC,YA,go_sem,reduceIte,Ya]
  simp only[Yd,Ya,Ye,reduceCtorEq,Yc]
  refine⟨l,⟨⟨rfl,rfl,fun k _=>Y1 _⟩,by omega⟩,fun hh=>by rw[XO,if_pos hh]at h;exact WX h,fun hchk=>?_⟩
  obtain⟨hl,hn⟩:=EL hchk
  rw[XO,if_neg (by rw[hchk];decide)]at h
  refine⟨fun hh=>?_,fun hb=>?_⟩
  ·rw[if_pos (show Ub s den=true by rw[Ub];simpa [Bool.or_assoc]using hh)]at h
   exact WX h
  have hb:Ub s den=false:=by rw[Ub];simpa [Bool.or_assoc]using hb
  rw[if_neg (by rw[hb];decide)]at h
  obtain⟨hs,hd⟩:=Yin hb
  have hnd:IntKind.i64.wrap (0-den)= -den:=by rw[Yg _ (by omega)];omega
  refine⟨⟨by unfold Ka;omega,by decide,⟨by unfold Ka;omega,fun k hk=>?_⟩,?_⟩,by decide,by unfold Ka;omega,⟨by unfold Ka;omega,fun k hk=>?_⟩,?_⟩
  all_goals (try exact Ab hk)
  all_goals
   dsimp only[So,Sq,v84,Sn,Sp,v83,Sm,signC,go_sem,reduceIte,Ya]
   simp only[Yd,Ya,Ye,reduceCtorEq,Yc]
   rw[hnd]
   simp only[Yh]
   have hK:(1:Int)<=1000000000001/\(1000000000001:Int)<=1000000000001:=by decide
   refine⟨fun _=>⟨⟨by omega,by omega⟩,by decide,⟨by decide,by unfold Ka;omega,fun k hk=>En hk,fun k hk=>Ab hk⟩,atF (l++[(s,den)]) den 1000000000001,fun _=>⟨Eo,Ep hl hs ⟨hd.1,hd.2⟩ hK,by omega⟩,fun hc=>?_,fun hc=>?_⟩,fun hh=>absurd hh (by decide)⟩
   ·have hc:isF (l++[(s,den)]) den 1000000000001=true:=hc
    rw[Al,if_pos hc]at h
    exact WX h
   ·have hc:isF (l++[(s,den)]) den 1000000000001=false:=hc
    rw[Al,if_neg (by rw[hc];decide)]at h
    dsimp only[Ygc,Yge,v53,go_sem,reduceIte,Ya]
    simp only[Yd,Ya,Ye,reduceCtorEq,Yc]
    obtain⟨t,ht⟩:∃t,t=isF (l++[(s,den)]) den:=⟨_,rfl⟩
    obtain⟨R,hR⟩:∃R,R=KQ 64 t 0 1000000000001:=⟨_,rfl⟩
    rw[<-ht,<-hR]at h
    refine Loop.keep [2] (Nat×Int×Int) (fun s=>[(0,.int .i64 s.2.1),(1,.int .i64 s.2.2)]) (fun _=>[]) [] (fun s=>R=KQ s.1 t s.2.1 s.2.2/\0<=s.2.1/\s.2.1<s.2.2/\s.2.2<=1000000000001/\s.2.2-s.2.1<=2^s.1) (fun s=>s.1) ?_ ?_
    ·refine⟨(64,0,1000000000001),⟨hR,by decide,by decide,by decide,by decide⟩,?_⟩
     dsimp only[go_sem,reduceIte,Ya]
     simp only[Yf]
     repeat' apply Yy
     all_goals first|decide| (intro k hk;first|exact AN hk|exact P3 hk|exact P4 hk)
    ·rintro⟨f,lo,hi⟩ ⟨hf,b0,b1,b2,b3⟩
     dsimp only at hf b0 b1 b2 b3
     dsimp only[So,Sq,v84,Sn,Sp,v83,Sm,Ygd,signC,oneC,go_sem,reduceIte,Ya]
     simp only[Yd,Ya,Ye,reduceCtorEq,Yc]
     rw[hnd]
     simp only[Yh]
     have ed:IntKind.i64.wrap (hi-lo)=hi-lo:=Yg _ (by omega)
     have e2:IntKind.i64.wrap ((hi-lo).tdiv 2)=(hi-lo)/2:=by
      rw[ZG (by omega),Yg _ (by omega)]
     have e3:IntKind.i64.wrap (lo+(hi-lo)/2)=lo+(hi-lo)/2:=Yg _ (by omega)
     rw[ed,e2,e3]
     refine⟨fun hc1=>?_,fun hc1=>?_⟩
     ·obtain⟨m,hm⟩:∃m,m=lo+(hi-lo)/2:=⟨_,rfl⟩
      rw[<-hm]
      obtain⟨g,rfl⟩:∃g,f=g+1:=by
       cases f with
       |zero=>simp at b3;omega
       |succ g=>exact⟨g,rfl⟩
      rw[KQ,if_pos hc1,<-hm]at hf
      have b4:hi-lo<=2^g*2:=by rw[<-Int.pow_succ];exact b3
      have hm0:¬m=0:=by omega
      refine⟨by decide,fun _=>⟨⟨by omega,by omega⟩,by decide,⟨by decide,by unfold Ka;omega,fun k hk=>En hk,fun k hk=>Ab hk⟩,atF (l++[(s,den)]) den m,fun _=>⟨Eo,Ep hl hs ⟨hd.1,hd.2⟩ (by omega),by omega⟩,fun hd1=>?_,fun hd1=>?_⟩,fun hh=>absurd hh hm0⟩
      ·have hd1:t m=true:=by rw[ht];exact hd1
       rw[if_pos hd1]at hf
       refine⟨(g,m,hi),⟨hf,by simp only;omega,by simp only;omega,b2,by simp only;omega⟩,by simp only;omega,?_⟩
       simp only[Yf]
       repeat' apply Yy
       all_goals first|decide| (intro k hk;first|exact AN hk|exact P3 hk|exact P4 hk)
      ·have hd1:t m=false:=by rw[ht];exact hd1
       rw[if_neg (by rw[hd1];decide)]at hf
       refine⟨(g,lo,m),⟨hf,by simp only;omega,by simp only;omega,by simp only;omega,by simp only;omega⟩,by simp only;omega,?_⟩
       simp only[Yf]
       repeat' apply Yy
       all_goals first|decide| (intro k hk;first|exact AN hk|exact P3 hk|exact P4 hk)
     ·have hRlo:R=lo:=by
       cases f with
       |zero=>exact hf
       |succ g=>rw[hf,KQ,if_neg hc1]
      subst hRlo
      refine⟨fun hp=>⟨⟨by omega,by omega⟩,by decide,⟨by decide,by unfold Ka;omega,fun k hk=>En hk,fun k hk=>Ab hk⟩,atF (l++[(s,den)]) den R,fun _=>⟨Eo,Ep hl hs ⟨hd.1,hd.2⟩ (by omega),by omega⟩,WX h⟩,fun hp=>⟨fun hh=>absurd hh hp,?_⟩⟩
      rw[decide_eq_false hp,Bool.false_and]at h⊢
      exact WX h
 ·exact h.1.elim
structure Rt where
 a:Int
 b:Int
 c:Int
 d:Int
 e:Int
 f:Int
 n:Int
 deriving Inhabited,DecidableEq
def Yp(r:Rt):List SV:=[.int .i64 r.a,.int .i64 r.b,.int .i64 r.c,.int .i64 r.d,.int .i64 r.e,.int .i64 r.f,.int .i64 r.n]
def KW(n:Int):Bool:=decide (n< -100000) || decide (100000<n)
def JR(r:Rt):Nat:=((((((r.n.toNat).gcd r.a.natAbs).gcd r.b.natAbs).gcd r.c.natAbs).gcd r.d.natAbs).gcd r.e.natAbs).gcd r.f.natAbs
def YY(r:Rt):Int:=
 if r.n<1\/1000<r.n then 2 else if KW r.a|| (KW r.b|| (KW r.c|| (KW r.d|| (KW r.e|| KW r.f))))then 2 else if 1<JR r then 6 else 0
def KT:Rt:=⟨0,0,0,0,0,0,0⟩
def QD(r:Rt)(g:Int):Rt:=⟨r.a.tdiv g,r.b.tdiv g,r.c.tdiv g,r.d.tdiv g,r.e.tdiv g,r.f.tdiv g,r.n.tdiv g⟩
def Jr(r:Rt):Rt×Int:=if YY (QD r (JR r))=0 then(QD r (JR r),0)else(KT,7)
def KG(x y:Rt)(by':Int):Rt×Int:=
 if YY x≠0 then(KT,YY x)else if YY y≠0 then(KT,YY y)
 else Jr ⟨x.a*y.n+by'*y.a*x.n,x.b*y.n+by'*y.b*x.n,x.c*y.n+by'*y.c*x.n,x.d*y.n+by'*y.d*x.n,x.e*y.n+by'*y.e*x.n,x.f*y.n+by'*y.f*x.n,x.n*y.n⟩
def tm1(p n:Int):List (Int×Int):=if n=0 then []else [(p,n)]
def Ys(r:Rt):List (Int×Int):=tm1 2 r.a++(tm1 3 r.b++(tm1 5 r.c++(tm1 7 r.d++(tm1 11 r.e++tm1 13 r.f))))
theorem V0(r:Rt):(Ys r).length<=6:=by
 have h:∀p n:Int,(tm1 p n).length<=1:=fun p n=>by unfold tm1;split <;> simp
 have:=h 2 r.a;have:=h 3 r.b;have:=h 5 r.c;have:=h 7 r.d;have:=h 11 r.e;have:=h 13 r.f
 simp only[Ys,JI];omega
theorem WY{r:Rt}(h:YY r=0):(1<=r.n/\r.n<=1000)/\KW r.a=false/\KW r.b=false/\KW r.c=false/\KW r.d=false/\KW r.e=false/\KW r.f=false/\JR r<=1:=by
 unfold YY at h
 split at h
 ·cases h
 ·split at h
  ·cases h
  ·split at h
   ·cases h
   ·rename_i h1 h2 h3
    simp only[Qt,not_or,Bool.not_eq_true]at h2
    exact⟨by omega,h2.1,h2.2.1,h2.2.2.1,h2.2.2.2.1,h2.2.2.2.2.1,h2.2.2.2.2.2,by omega⟩
theorem QQ{n:Int}(h:KW n=false): -100000<=n/\n<=100000:=by
 simp only[KW,JH,decide_eq_false_iff_not]at h;omega
theorem Js{x y X Y:Int}(hx: -X<=x/\x<=X)(hy: -Y<=y/\y<=Y): -(X*Y)<=x*y/\x*y<=X*Y:=by
 have h0:0<=X:=by omega
 have h1:0<=Y:=by omega
 have a1:=ZF (show 0<=X-x by omega) (show 0<=Y+y by omega)
 have a2:=ZF (show 0<=X+x by omega) (show 0<=Y-y by omega)
 have a3:=ZF (show 0<=X-x by omega) (show 0<=Y-y by omega)
 have a4:=ZF (show 0<=X+x by omega) (show 0<=Y+y by omega)
 rw[Int.sub_mul,Int.mul_add,Int.mul_add]at a1
 rw[Int.add_mul,Int.mul_sub,Int.mul_sub]at a2
 rw[Int.sub_mul,Int.mul_sub,Int.mul_sub]at a3
 rw[Int.add_mul,Int.mul_add,Int.mul_add]at a4
 omega
def Yep:VF:={ ntmps:=7,res:=[.tmp 2],body:=
 (ZR [Zi 2 0]
 (ZR [Zm 3 0,
 Zm 4 0,
 u1 5 .neg [.tm 4],
 u1 6 .max [.tm 3,.tm 5],
 Zm 2 6]
 .ret))}
theorem Ysl:Yn Yb Tryz.f148=some Yep:=by kernel_rfl
def Yd2:VF:={ ntmps:=34,res:=[.tmp 2],body:=
 (ZR [u1 1 .box [.tm 0],
 Zi 2 0]
 (.seq (ZR [Za 6 6 1,
 Zf 7 1 6,
 Zq 8 .lss 7 1,
 Zm 9 8,
 Zj 10 9 false 6 1,
 Zh 11 9 false 1 10,
 u2 12 9 false (.cmp .gtr) [.tm 11,.cn (.int .i64 1000)],
 u1 13 .or [.tm 9,.tm 12]]
 (ZC 13 (ZR [Zi 2 2]
 .ret)
  .skip))
 (ZR [Za 14 6 1,
 Zf 15 1 14,
 Zm 3 15]
 (.seq (ZR [Za 16 0 1,
 Zt 17 6 16,
 Zi 18 0]
 (.block 0 (.loop (ZR [Zq 19 .lss 18 6]
 (.seq (ZC 19 .skip
  (.exit 0))
 (.seq (.block 1 (ZR [u1 20 (.index false 6 1) [.tm 17,.tm 18],
 Zm 5 20]
 (.seq (ZR [Zm 21 5,
 Zq 22 .lss 21 (-100000),
 Zm 23 22,
 Zg 24 23 false 5,
 u2 25 23 false (.cmp .gtr) [.tm 24,.cn (.int .i64 100000)],
 u1 26 .or [.tm 23,.tm 25]]
 (ZC 26 (ZR [Zi 2 2]
 .ret)
  .skip))
 (.region [Zm 27 3,
 Zm 28 5,
 Zc 29 148 28,
 Zd 30 130 27 29,
 Zm 3 30]))))
 (.region [Zp 31 18 1,
 Zm 18 31])))))))
 (.seq (ZR [Zm 32 3,
 Zq 33 .gtr 32 1]
 (ZC 33 (ZR [Zi 2 6]
 .ret)
  .skip))
 (ZR [Zi 2 0]
 .ret))))))}
theorem YrV:Yn Yb Tryz.f121=some Yd2:=by kernel_rfl
def Yeo:VF:={ ntmps:=43,res:=[.cell 4 true 7,.tmp 5],body:=
 (ZR [u1 2 .box [.tm 0],
 u1 4 (.alloc [(.int .i64 0),(.int .i64 0),(.int .i64 0),(.int .i64 0),(.int .i64 0),(.int .i64 0),(.int .i64 0)]) [],
 Zi 5 0]
 (ZR [Zm 12 1,
 Zm 6 12]
 (.seq (ZR [Zt 13 6 2,
 Zi 14 0]
 (.block 0 (.loop (ZR [Zq 15 .lss 14 6]
 (.seq (ZC 15 .skip
  (.exit 0))
 (.seq (.block 1 (ZR [u1 16 (.index false 6 1) [.tm 13,.tm 14],
 Zm 8 16]
 (.region [Zm 17 6,
 Zm 18 8,
 Zc 19 148 18,
 Zd 20 130 17 19,
 Zm 6 20])))
 (.region [Zp 21 14 1,
 Zm 14 21])))))))
 (ZR [Zm 22 1,
 Zm 23 6,
 u1 24 .quo [.tm 22,.tm 23],
 u1 25 (.build [(.int .i64 0),(.int .i64 0),(.int .i64 0),(.int .i64 0),(.int .i64 0),(.int .i64 0),(.int .i64 0)] [(6,1)]) [.tm 24],
 u1 9 (.alloc [(.int .i64 0),(.int .i64 0),(.int .i64 0),(.int .i64 0),(.int .i64 0),(.int .i64 0),(.int .i64 0)]) [],
 Zs 7 9 25]
 (.seq (ZR [Zt 26 6 2,
 Zi 27 0]
 (.block 2 (.loop (ZR [Zq 28 .lss 27 6]
 (.seq (ZC 28 .skip
  (.exit 2))
 (.seq (.block 3 (ZR [Zm 29 27,
 u1 30 (.index false 6 1) [.tm 26,.tm 27],
 Zm 10 29,
 Zm 11 30]
 (.region [Zm 31 10,
 Zm 32 11,
 Zm 33 6,
 u1 34 .quo [.tm 32,.tm 33],
 Za 35 0 9,
 u1 36 (.idxArr 6 1) [.tm 35,.tm 31],
 Zs 1 36 34])))
 (.region [Zp 37 27 1,
 Zm 27 37])))))))
 (.seq (ZR [Zt 38 7 9,
 Zc 39 121 38,
 Zq 40 .neq 39 0]
 (ZC 40 (ZR [u1 41 (.build [(.int .i64 0),(.int .i64 0),(.int .i64 0),(.int .i64 0),(.int .i64 0),(.int .i64 0),(.int .i64 0)] []) [],
 Zs 7 4 41,
 Zi 5 7]
 .ret)
  .skip))
 (ZR [Zt 42 7 9,
 Zs 7 4 42,
 Zi 5 0]
 .ret)))))))}
theorem Ysk:Yn Yb Tryz.f147=some Yeo:=by kernel_rfl
def Yen:VF:={ ntmps:=5,res:=[.tmp 2],body:=
 (ZR [Zi 2 0]
 (ZR [Zm 3 0,
 Zc 4 154 3,
 Zm 2 4]
 .ret))}
theorem Ysj:Yn Yb Tryz.f146=some Yen:=by kernel_rfl
def Yeu:VF:={ ntmps:=18,res:=[.tmp 2],body:=
 (ZR [Zi 2 0]
 (ZR [Zi 3 0]
 (.seq (ZR [Zm 6 0,
 Zl 7 6,
 Zi 8 0]
 (.block 0 (.loop (ZR [Zr 9 .lss 8 7]
 (.seq (ZC 9 .skip
  (.exit 0))
 (.seq (.block 1 (ZR [Zx 10 1 6 8,
 Zf 11 1 10,
 Zm 5 11]
 (ZR [Zm 12 5,
 Zm 13 3,
 Zr 14 .neq 12 13]
 (ZC 14 (ZR [Zm 15 5,
 Zm 2 15]
 .ret)
  .skip))))
 (.region [Zp 16 8 1,
 Zm 8 16])))))))
 (ZR [Zm 17 3,
 Zm 2 17]
 .ret))))}
theorem Ysr:Yn Yb Tryz.f154=some Yeu:=by kernel_rfl
def Yd1:VF:={ ntmps:=53,res:=[.cell 6 true 7,.tmp 7],body:=
 (ZR [u1 3 .box [.tm 0],
 u1 4 .box [.tm 1],
 u1 6 (.alloc [(.int .i64 0),(.int .i64 0),(.int .i64 0),(.int .i64 0),(.int .i64 0),(.int .i64 0),(.int .i64 0)]) [],
 Zi 7 0]
 (.seq (.seq (.draw [] [Zw 11 7 3,
 Zw 13 7 4,
 w1 12 (.call 121) [.tm 11],
 w1 14 (.call 121) [.tm 13],
 w1 15 (.buildSlice 1 2 [(.int .i64 0)] [(0,1),(1,1)]) [.tm 12,.tm 14],
 w1 16 (.call 146) [.tm 15],
 Zu 8 16])
 (ZR [Zm 17 8,
 Zq 18 .neq 17 0]
 (ZC 18 (ZR [u1 19 (.build [(.int .i64 0),(.int .i64 0),(.int .i64 0),(.int .i64 0),(.int .i64 0),(.int .i64 0),(.int .i64 0)] []) [],
 Zm 20 8,
 Zs 7 6 19,
 Zm 7 20]
 .ret)
  .skip)))
 (ZR [u1 9 (.allocArr 6 1 [(.int .i64 0),(.int .i64 0),(.int .i64 0),(.int .i64 0),(.int .i64 0),(.int .i64 0)]) []]
 (.seq (ZR [Zi 21 0]
 (.block 0 (.loop (ZR [Zq 22 .lss 21 6]
 (.seq (ZC 22 .skip
  (.exit 0))
 (.seq (.block 1 (ZR [Zm 23 21,
 Zm 10 23]
 (.draw [] [Zu 24 10,
 Zu 25 10,
 Zy 26 0 3,
 w1 27 (.idxArr 6 1) [.tm 26,.tm 25],
 Zv 28 1 27,
 Zy 29 6 4,
 Zv 30 1 29,
 w1 31 (.ari .mul) [.tm 28,.tm 30],
 Zu 32 2,
 Zu 33 10,
 Zy 34 0 4,
 w1 35 (.idxArr 6 1) [.tm 34,.tm 33],
 Zv 36 1 35,
 w1 37 (.ari .mul) [.tm 32,.tm 36],
 Zy 38 6 3,
 Zv 39 1 38,
 w1 40 (.ari .mul) [.tm 37,.tm 39],
 w1 41 (.ari .add) [.tm 31,.tm 40],
 w1 42 (.idxArr 6 1) [.tm 9,.tm 24],
 ZS 1 42 41])))
 (.region [Zp 43 21 1,
 Zm 21 43])))))))
 (ZR [Zt 44 6 9,
 Za 45 6 3,
 Zf 46 1 45,
 Za 47 6 4,
 Zf 48 1 47,
 Zo 49 .mul 46 48,
 Zd 50 147 44 49,
 Ze 51 0 50,
 Ze 52 1 50,
 Zs 7 6 51,
 Zm 7 52]
 .ret)))))}
theorem YrU:Yn Yb Tryz.f120=some Yd1:=by kernel_rfl
def Yem:VF:={ ntmps:=11,res:=[.cell 4 true 7,.tmp 5],body:=
 (ZR [u1 2 .box [.tm 0],
 u1 3 .box [.tm 1],
 u1 4 (.alloc [(.int .i64 0),(.int .i64 0),(.int .i64 0),(.int .i64 0),(.int .i64 0),(.int .i64 0),(.int .i64 0)]) [],
 Zi 5 0]
 (ZR [Zt 6 7 2,
 Zt 7 7 3,
 u1 8 (.call 120) [.tm 6,.tm 7,.cn (.int .i64 1)],
 Ze 9 0 8,
 Ze 10 1 8,
 Zs 7 4 9,
 Zm 5 10]
 .ret))}
theorem Ysi:Yn Yb Tryz.f145=some Yem:=by kernel_rfl
def v81:VF:=⟨11,[.cell 4 true 7,.tmp 5],(ZR [u1 2 .box [.tm 0],u1 3 .box [.tm 1],u1 4 (.alloc [(.int .i64 0),(.int .i64 0),(.int .i64 0),(.int .i64 0),(.int .i64 0),(.int .i64 0),(.int .i64 0)]) [],Zi 5 0] (ZR [Zt 6 7 2,Zt 7 7 3,u1 8 (.call 120) [.tm 6,.tm 7,.cn (.int .i64 (-1))],Ze 9 0 8,Ze 10 1 8,Zs 7 4 9,Zm 5 10] .ret))⟩
theorem Ytx:Yn Yb Tryz.f81=some v81:=by kernel_rfl
theorem Yor{hp:List HO}{n size j:Nat}{k:IntKind}{i:Int}:W3 hp n size [.ptr j 3,.int k i]=BJ (Yq hp j) n size j 3 i:=rfl
theorem Yon{get:Nat->List SV}:Wk 6 0 get=get 0++(get 1++(get 2++(get 3++(get 4++(get 5++[]))))):=rfl
theorem Yos{hp:List HO}{n size:Nat}{t:Bool}{cs:List SV}{k:IntKind}{i:Int}:W3 hp n size [.xp t cs,.int k i]=Y5 (0<=i/\i<n/\n*size<=YH cs) (.xp t (YK (i.toNat*size) cs)):=rfl
attribute [go_sem] Yor Yos Yon
def Rt.num(r:Rt):Nat->Int
 |0=>r.a
 |1=>r.b
 |2=>r.c
 |3=>r.d
 |4=>r.e
 |_=>r.f
theorem six{i:Nat}(h:i<6):i=0\/i=1\/i=2\/i=3\/i=4\/i=5:=by omega
theorem DE(r:Rt){i:Nat}(h:i<6):YR 1 (YK (i*1) [.int .i64 r.a,.int .i64 r.b,.int .i64 r.c,.int .i64 r.d,.int .i64 r.e,.int .i64 r.f])=[.int .i64 (r.num i)]:=by
 rcases six h with rfl|rfl|rfl|rfl|rfl|rfl <;> rfl
theorem Uh(r:Rt){i:Nat}(h:i<6):YR 1 (YK (Kq (i:Int) 1) [.int .i64 r.a,.int .i64 r.b,.int .i64 r.c,.int .i64 r.d,.int .i64 r.e,.int .i64 r.f,.int .i64 r.n])=[.int .i64 (r.num i)]:=by
 rcases six h with rfl|rfl|rfl|rfl|rfl|rfl <;> rfl
theorem Ug(r:Rt){i:Nat}(h:i<6):1<=YH (YK (Kq (i:Int) 1) [.int .i64 r.a,.int .i64 r.b,.int .i64 r.c,.int .i64 r.d,.int .i64 r.e,.int .i64 r.f,.int .i64 r.n]):=by
 rcases six h with rfl|rfl|rfl|rfl|rfl|rfl <;> exact KI rfl
def gP(r:Rt):Nat->Nat
 |0=>r.n.toNat
 |i+1=>YG (gP r i) (r.num i).natAbs
theorem Um(r:Rt):gP r 6=JR r:=rfl
theorem MA(r:Rt):∀i,gP r i<=r.n.toNat\/r.n.toNat=0
 |0=> .inl (Yr _)
 |i+1=>by
  rcases MA r i with h|h
  ·rcases KU (gP r i)with h0|h0
   ·right
    have key:∀j,gP r j=0->r.n.toNat=0:=fun j=>by
     induction j with
     |zero=>exact id
     |succ j ih=>intro hj;exact ih (Nat.gcd_eq_zero_iff.1 hj).1
    exact key i h0
   ·left;exact Yj (Nat.gcd_le_left _ h0) h
  ·exact .inr h
theorem HU{r:Rt}(h:1<=r.n):∀i,1<=gP r i
 |0=>by show 1<=r.n.toNat;omega
 |i+1=>Nat.gcd_pos_of_pos_left _ (HU h i)
def GQ(r:Rt):Bool:=KW r.a|| (KW r.b|| (KW r.c|| (KW r.d|| (KW r.e|| KW r.f))))
theorem Et{r:Rt}{i:Nat}(h:i<6)(hb:KW (r.num i)=true):GQ r=true:=by
 unfold GQ
 rcases six h with rfl|rfl|rfl|rfl|rfl|rfl <;> (simp only[Rt.num]at hb;rw[hb];simp)
theorem Es{r:Rt}(h:∀i,i<6->KW (r.num i)=false):GQ r=false:=by
 unfold GQ
 have h0:=h 0 (by decide);have h1:=h 1 (by decide);have h2:=h 2 (by decide);have h3:=h 3 (by decide);have h4:=h 4 (by decide);have h5:=h 5 (by decide)
 simp only[Rt.num]at h0 h1 h2 h3 h4 h5
 rw[h0,h1,h2,h3,h4,h5];rfl
theorem EK(r:Rt):YY r=if r.n<1\/1000<r.n then 2 else if GQ r=true then 2 else if 1<JR r then 6 else 0:=rfl
theorem M1(x:Int)(h: -9000000000000000000<=x/\x<=9000000000000000000):max x (IntKind.i64.wrap (0-x))=(x.natAbs:Int):=by
 rw[Yg (0-x) (by omega)]
 omega
def absC:Ctr:={ alias:=false,of:=fun l=>match l with
 | [.int .i64 x]=> .pre (-9000000000000000000<=x/\x<=9000000000000000000) (.fin (.int .i64 (x.natAbs:Nat)) [])
 |_=>noC}
def TB0:Env:={ ct:=fun _=>none,fn:=fun _=>none,meth:=fun _ _=>none}
theorem Ygj:YE Yb TB0:=by
 refine⟨fun f c h=>?_,fun f vf h=>?_,(fun _ _ _ h=>by cases h),by kernel_rfl,(fun _ h=>by cases h)⟩
 ·cases h
 ·cases h
theorem Tg:absC.ok Yb 148:=by
 refine Yv Tryz.func148 Ysl Ygj 100 absC fun args k h=>?_
 simp only[absC]at h
 split at h
 ·rename_i x
  obtain⟨hx,h⟩:=h
  refine⟨[.int .i64 x],by simp [leL,le],?_⟩
  dsimp only[Yep,go_sem,reduceIte,Ya]
  simp only[Yd,Ya,Ye,reduceCtorEq,Yc]
  rw[M1 x hx]
  exact YX h
 ·exact h.1.elim
def chkRC:Ctr:={ alias:=false,of:=fun l=>match l with
 | [.agg [.int .i64 a,.int .i64 b,.int .i64 c,.int .i64 d,.int .i64 e,.int .i64 f,.int .i64 n]]=> .fin (.int .i64 (YY ⟨a,b,c,d,e,f,n⟩)) []
 |_=>noC}
def TB1:Env:={ ct:=fun n=>match n with|148=>some absC|130=>some gcdC|_=>none,fn:=fun _=>none,meth:=fun _ _=>none}
theorem Ss:TB1.ct 148=some absC:=rfl
theorem Sr:TB1.ct 130=some gcdC:=rfl
theorem Ygk:YE Yb TB1:=by
 refine⟨fun f c h=>?_,fun f vf h=>?_,(fun _ _ _ h=>by cases h),by kernel_rfl,(fun _ h=>by cases h)⟩
 ·simp only[TB1]at h
  split at h
  ·cases h;exact⟨Tg,_,Tryz.func148,rfl,rfl⟩
  ·cases h;exact⟨gcd_c,_,Tryz.func130,rfl,rfl⟩
  ·cases h
 ·cases h
theorem DB:chkRC.ok Yb 121:=by
 refine Yv Tryz.func121 YrV Ygk 300 chkRC fun args k h=>?_
 simp only[chkRC]at h
 split at h
 ·rename_i a b c d e f n
  refine⟨[.agg [.int .i64 a,.int .i64 b,.int .i64 c,.int .i64 d,.int .i64 e,.int .i64 f,.int .i64 n]],by simp [leL,le],?_⟩
  obtain⟨r,hr⟩:∃r:Rt,r=⟨a,b,c,d,e,f,n⟩:=⟨_,rfl⟩
  rw[<-hr]at h
  have h:k (.int .i64 (YY r)) []:=h
  rw[show a=r.a by rw[hr],show b=r.b by rw[hr],show c=r.c by rw[hr],show d=r.d by rw[hr],show e=r.e by rw[hr],show f=r.f by rw[hr],show n=r.n by rw[hr]]
  clear hr
  rw[EK]at h
  dsimp only[Yd2,go_sem,reduceIte,Ya]
  simp only[Yd,Ya,Ye,reduceCtorEq,Yc]
  refine⟨fun hc=>?_,fun hc=>?_⟩
  ·rw[if_pos (by simpa using hc)]at h;exact YX h
  have hn:1<=r.n/\r.n<=1000:=by simp only[JH,decide_eq_false_iff_not]at hc;omega
  rw[if_neg (by omega)]at h
  refine Loop.keep [2,14] Nat (fun i=>[(3,.int .i64 (gP r i:Nat)),(18,.int .i64 i)]) (fun _=>[]) [] (fun i=>i<=6/\∀j,j<i->KW (r.num j)=false) (fun i=>6-i) ?_ ?_
  ·refine⟨0,⟨by omega,fun j hj=>by omega⟩,?_⟩
   dsimp only[go_sem,reduceIte,Ya]
   simp only[Yf]
   exact⟨(K3 (by omega)).symm,rfl⟩
  ·rintro i ⟨hi,hall⟩
   dsimp only[Ss,Sr,absC,gcdC,Yh,go_sem,reduceIte,Ya]
   simp only[Yd,Ya,Ye,reduceCtorEq,Yc]
   refine⟨fun hlt=>?_,fun hge=>?_⟩
   ·have hi6:i<6:=by omega
    rw[DE r hi6]
    dsimp only[Ss,Sr,absC,gcdC,go_sem,reduceIte,Ya]
    simp only[Yd,Ya,Ye,reduceCtorEq,Yc]
    have hgl:gP r i<=1000:=by rcases MA r i with h1|h1 <;> omega
    refine⟨⟨by omega,by omega⟩,fun hb=>?_,fun hb=>⟨?_,gP r i,(r.num i).natAbs,⟨rfl,rfl,by omega,?_⟩,i+1,⟨by omega,fun j hj=>?_⟩,by omega,?_⟩⟩
    ·rw[if_pos (Et hi6 hb)]at h;exact YX h
    ·have:=QQ hb;omega
    ·have:=QQ hb;omega
    ·rcases YV j i with h1|h1
     ·exact hall j h1
     ·obtain rfl:j=i:=by omega
      exact hb
    ·rw[Yg ((i:Int)+1) (by omega)]
     simp only[Yf]
     exact⟨rfl,by simp⟩
   ·obtain rfl:i=6:=by omega
    rw[if_neg (by rw[Es hall];decide),<-Um]at h
    refine⟨fun hc=>?_,fun hc=>?_⟩
    ·rw[if_pos (by omega)]at h;exact YX h
    ·rw[if_neg (by omega)]at h;exact YX h
 ·exact h.1.elim
def ZQ(q:Nat->Int)(n:Int)(i:Nat):List SV:=
 [.int .i64 (if 0<i then q 0 else 0),.int .i64 (if 1<i then q 1 else 0),.int .i64 (if 2<i then q 2 else 0),.int .i64 (if 3<i then q 3 else 0),.int .i64 (if 4<i then q 4 else 0),.int .i64 (if 5<i then q 5 else 0),.int .i64 n]
theorem TW(q:Nat->Int)(n:Int):ZQ q n 6=[.int .i64 (q 0),.int .i64 (q 1),.int .i64 (q 2),.int .i64 (q 3),.int .i64 (q 4),.int .i64 (q 5),.int .i64 n]:=rfl
theorem TX(q:Nat->Int)(n:Int)(i:Nat):YH (ZQ q n i)=7:=rfl
theorem QR(q:Nat->Int)(n:Int)(i m:Nat):Je m (ZQ q n i):=by simp [ZQ,Je,bnd]
theorem TY(q:Nat->Int)(n:Int){i:Nat}(h:i<6):JT (ZQ q n i) (Kq (i:Int) 1) [.int .i64 (q i)]=ZQ q n (i+1):=by
 rcases six h with rfl|rfl|rfl|rfl|rfl|rfl <;> rfl
theorem U6(i:Nat):Kq (i:Int) 1=i:=by simp [Kq]
theorem A8(x:Int)(g:Nat)(h: -9000000000000000000<=x/\x<=9000000000000000000): -9000000000000000000<=x.tdiv g/\x.tdiv g<=9000000000000000000:=by
 have h1:(x.tdiv g).natAbs<=x.natAbs:=by
  rw[Int.natAbs_tdiv]
  exact QP _ _
 omega
def madeC:Ctr:={ alias:=false,of:=fun l=>match l with
 | [.agg [.int .i64 a,.int .i64 b,.int .i64 c,.int .i64 d,.int .i64 e,.int .i64 f],.int .i64 n]=>
   .pre (1<=n/\n<=9000000000000000000/\∀i,i<6-> -9000000000000000000<=(Rt.mk a b c d e f n).num i/\(Rt.mk a b c d e f n).num i<=9000000000000000000) (.fin (.tup [.agg (Yp (Jr ⟨a,b,c,d,e,f,n⟩).1),.int .i64 (Jr ⟨a,b,c,d,e,f,n⟩).2]) [])
 |_=>noC}
theorem JF{k:SV->List HO->Prop}{al:Bool}{hp:List HO}{r:Rt}{e:Int}(h:k (.tup [.agg (Yp r),.int .i64 e]) []):Jv al k (.tup [.agg (Yp r),.int .i64 e]) hp:=
 Ky (show k _ []from h) (Jq (.tup [.agg (Yp r),.int .i64 e]) ⟨⟨trivial,trivial,trivial,trivial,trivial,trivial,trivial,trivial⟩,trivial,trivial⟩) (fun _=>by simp [Y0,Y4,Yp])
theorem Vu{k:SV->List HO->Prop}{al:Bool}{hp:List HO}{r:Rt}(h:k (.agg (Yp r)) []):Jv al k (.agg (Yp r)) hp:=
 Ky (show k _ []from h) (Jq (.agg (Yp r)) ⟨trivial,trivial,trivial,trivial,trivial,trivial,trivial,trivial⟩) (fun _=>by simp [Y0,Y4,Yp])
def TB2:Env:={ ct:=fun n=>match n with|148=>some absC|130=>some gcdC|121=>some chkRC|_=>none,fn:=fun _=>none,meth:=fun _ _=>none}
theorem Sv:TB2.ct 148=some absC:=rfl
theorem Su:TB2.ct 130=some gcdC:=rfl
theorem CJ:TB2.ct 121=some chkRC:=rfl
theorem Ygl:YE Yb TB2:=by
 refine⟨fun f c h=>?_,fun f vf h=>?_,(fun _ _ _ h=>by cases h),by kernel_rfl,(fun _ h=>by cases h)⟩
 ·simp only[TB2]at h
  split at h
  ·cases h;exact⟨Tg,_,Tryz.func148,rfl,rfl⟩
  ·cases h;exact⟨gcd_c,_,Tryz.func130,rfl,rfl⟩
  ·cases h;exact⟨DB,_,Tryz.func121,rfl,rfl⟩
  ·cases h
 ·cases h
theorem L3:madeC.ok Yb 147:=by
 refine Yv Tryz.func147 Ysk Ygl 300 madeC fun args k h=>?_
 simp only[madeC]at h
 split at h
 ·rename_i a b c d e f n
  refine⟨[.agg [.int .i64 a,.int .i64 b,.int .i64 c,.int .i64 d,.int .i64 e,.int .i64 f],.int .i64 n],by simp [leL,le],?_⟩
  obtain⟨r,hr⟩:∃r:Rt,r=⟨a,b,c,d,e,f,n⟩:=⟨_,rfl⟩
  rw[<-hr]at h
  rw[show a=r.a by rw[hr],show b=r.b by rw[hr],show c=r.c by rw[hr],show d=r.d by rw[hr],show e=r.e by rw[hr],show f=r.f by rw[hr]]
  rw[show n=r.n by rw[hr]]at h⊢
  clear hr
  obtain⟨⟨hn,hn2,hb⟩,h⟩:=h
  have h:k (.tup [.agg (Yp (Jr r).1),.int .i64 (Jr r).2]) []:=h
  dsimp only[Yeo,go_sem,reduceIte,Ya]
  simp only[Yd,Ya,Ye,reduceCtorEq,Yc]
  refine Loop.keep [1,0,1,0,7] Nat (fun i=>[(6,.int .i64 (gP r i:Nat)),(14,.int .i64 i)]) (fun _=>[]) [] (fun i=>i<=6) (fun i=>6-i) ?_ ?_
  ·refine⟨0,by omega,?_⟩
   dsimp only[go_sem,reduceIte,Ya]
   simp only[Yf]
   repeat' apply Yy
   all_goals first|exact trivial|decide|rfl|omega|exact(K3 (by omega)).symm|exact YU _ (QR _ _ _ _) |simp
  ·rintro i hi
   dsimp only[Sv,Su,absC,gcdC,Yh,go_sem,reduceIte,Ya]
   simp only[Yd,Ya,Ye,reduceCtorEq,Yc]
   have hgl:gP r i<=9000000000000000000:=by rcases MA r i with h1|h1 <;> omega
   have hg0:=HU hn i
   refine⟨fun hlt=>?_,fun hge=>?_⟩
   ·have hi6:i<6:=by omega
    rw[DE r hi6]
    dsimp only[Sv,Su,absC,gcdC,go_sem,reduceIte,Ya]
    simp only[Yd,Ya,Ye,reduceCtorEq,Yc]
    refine⟨⟨by omega,by omega⟩,hb i hi6,gP r i,(r.num i).natAbs,⟨rfl,rfl,by omega,?_⟩,i+1,by omega,by omega,?_⟩
    ·have:=hb i hi6;omega
    ·rw[Yg ((i:Int)+1) (by omega)]
     simp only[Yf]
     repeat' apply Yy
     all_goals first|exact trivial|decide|rfl|omega|exact(K3 (by omega)).symm|exact YU _ (QR _ _ _ _) |simp
   ·obtain rfl:i=6:=by omega
    rw[Um]at hgl hg0⊢
    obtain⟨g,hg⟩:∃g,g=JR r:=⟨_,rfl⟩
    rw[Jr,<-hg]at h
    rw[<-hg]at hgl hg0⊢
    have hdn:=A8 r.n g (by omega)
    rw[Yg (r.n.tdiv (g:Int)) (by omega)]
    refine⟨by omega,?_⟩
    refine Loop.keep [4,0,0,2,16] Nat (fun i=>[(27,.int .i64 i)]) (fun i=>[(2,.box (ZQ (fun j=>(r.num j).tdiv g) (r.n.tdiv g) i))]) [] (fun i=>i<=6) (fun i=>6-i) ?_ ?_
    ·refine⟨0,by omega,?_⟩
     dsimp only[ZQ,go_sem,reduceIte,Ya]
     simp only[Yf]
     repeat' apply Yy
     all_goals first|exact trivial|decide|rfl|omega|exact(K3 (by omega)).symm|exact YU _ (QR _ _ _ _) |simp
    ·rintro i hi
     dsimp only[CJ,chkRC,Yh,go_sem,reduceIte,Ya]
     simp only[Yd,Ya,Ye,reduceCtorEq,Yc]
     refine⟨fun hlt=>?_,fun hge=>?_⟩
     ·have hi6:i<6:=by omega
      rw[DE r hi6]
      dsimp only[CJ,chkRC,go_sem,reduceIte,Ya]
      simp only[Yd,Ya,Ye,reduceCtorEq,Yc]
      have hw:=A8 (r.num i) g (hb i hi6)
      have e:JT (ZQ (fun j=>(r.num j).tdiv g) (r.n.tdiv g) i) (Kq (i:Int) 1) [.int .i64 ((r.num i).tdiv g)]=ZQ (fun j=>(r.num j).tdiv g) (r.n.tdiv g) (i+1):=TY (fun j=>(r.num j).tdiv g) (r.n.tdiv g) hi6
      rw[Yg ((r.num i).tdiv g) (by omega),Yg ((i:Int)+1) (by omega),e]
      refine⟨⟨by omega,by omega⟩,by omega,⟨by omega,by omega⟩,by rw[U6,TX];omega,i+1,by omega,by omega,?_⟩
      simp only[Yf]
      repeat' apply Yy
      all_goals first|exact trivial|decide|rfl|omega|exact(K3 (by omega)).symm|exact YU _ (QR _ _ _ _) |simp
     ·obtain rfl:i=6:=by omega
      simp only[TW]
      dsimp only[CJ,chkRC,Rt.num,go_sem,reduceIte,Ya]
      simp only[Yd,Ya,Ye,reduceCtorEq,Yc]
      refine⟨fun hc=>?_,fun hc=>?_⟩
      ·rw[if_neg (show¬YY (QD r g)=0 from hc)]at h;exact JF (r:=KT) (e:=7) h
      ·rw[if_pos (show YY (QD r g)=0 from hc)]at h;exact JF (r:=QD r g) (e:=0) h
 ·exact h.1.elim
def orF:List Int->Int
 | []=>0
 |x::l=>if x≠0 then x else orF l
theorem YnH{l:List Int}{i:Nat}(hi:i<l.length)(h:∀j,j<i->l.getD j 0=0)(hx:l.getD i 0≠0):orF l=l.getD i 0:=by
 induction l generalizing i with
 |nil=>simp at hi
 |cons x l ih=>
  cases i with
  |zero=>exact if_pos hx
  |succ i=>
   rw[orF,if_neg (by have:=h 0 (by omega);simpa using this)]
   exact ih (by simpa using hi) (fun j hj=>h (j+1) (by omega)) hx
theorem YnI{l:List Int}(h:∀j,j<l.length->l.getD j 0=0):orF l=0:=by
 induction l with
 |nil=>rfl
 |cons x l ih=>
  rw[orF,if_neg (by have:=h 0 (by simp);simpa using this)]
  exact ih fun j hj=>h (j+1) (by simpa using hj)
def orC:Ctr:={ alias:=false,of:=fun l=>match l with
 | [.vs _ _ n sz get]=> .ex (List Int) fun l=> .pre (lsP 1 Uj n sz get l/\n<=1000000) (.fin (.int .i64 (orF l)) [])
 |_=>noC}
def TB3:Env:={ ct:=fun _=>none,fn:=fun _=>none,meth:=fun _ _=>none}
theorem Ygm:YE Yb TB3:=by
 refine⟨fun f c h=>?_,fun f vf h=>?_,(fun _ _ _ h=>by cases h),by kernel_rfl,(fun _ h=>by cases h)⟩
 ·cases h
 ·cases h
theorem or_c:orC.ok Yb 154:=by
 refine Yv Tryz.func154 Ysr Ygm 300 orC fun args k h=>?_
 simp only[orC]at h
 split at h
 ·rename_i tt z n sz get
  obtain⟨l,⟨⟨rfl,rfl,hg⟩,hn⟩,h⟩:=h
  refine⟨[.vs tt z l.length 1 (fun k=>Uj (l.getD k default))],⟨⟨id,rfl,rfl,rfl,hg⟩,trivial⟩,?_⟩
  have h:k (.int .i64 (orF l)) []:=h
  dsimp only[Yeu,Uj,go_sem,reduceIte,Ya]
  simp only[Yd,Ya,Ye,reduceCtorEq,Yc]
  refine Loop.keep [3,2,0] Nat (fun i=>[(8,.int .i64 i)]) (fun _=>[]) [] (fun i=>i<=l.length/\∀j,j<i->l.getD j 0=0) (fun i=>l.length-i) ?_ ?_
  ·refine⟨0,⟨by omega,fun j hj=>by omega⟩,?_⟩
   dsimp only[go_sem,reduceIte,Ya]
   simp only[Yf]
   repeat' apply Yy
   all_goals first|exact trivial|decide|rfl|omega|exact(K3 (by omega)).symm|exact YU _ (QR _ _ _ _) |simp
  ·rintro i ⟨hi,hall⟩
   dsimp only[Uj,Yh,go_sem,reduceIte,Ya]
   simp only[Yd,Ya,Ye,reduceCtorEq,Yc]
   refine⟨fun hlt=>⟨⟨by omega,by omega⟩,fun hc=>?_,fun hc=>⟨i+1,⟨by omega,fun j hj=>?_⟩,by omega,?_⟩⟩,fun hge=>?_⟩
   ·rw[YnH (by omega) hall hc]at h;exact YX h
   ·rcases YV j i with h1|h1
    ·exact hall j h1
    ·obtain rfl:j=i:=by omega
     exact hc
   ·rw[Yg ((i:Int)+1) (by omega)]
    simp only[Yf]
    repeat' apply Yy
    all_goals first|exact trivial|decide|rfl|omega|exact(K3 (by omega)).symm|exact YU _ (QR _ _ _ _) |simp
   ·obtain rfl:i=l.length:=by omega
    rw[YnI hall]at h;exact YX h
 ·exact h.1.elim
def TB5:Env:={ ct:=fun n=>match n with|154=>some orC|_=>none,fn:=fun _=>none,meth:=fun _ _=>none}
theorem Ygq:TB5.ct 154=some orC:=rfl
theorem Ygr:YE Yb TB5:=by
 refine⟨fun f c h=>?_,fun f vf h=>?_,(fun _ _ _ h=>by cases h),by kernel_rfl,(fun _ h=>by cases h)⟩
 ·simp only[TB5]at h
  split at h
  ·cases h;exact⟨or_c,_,Tryz.func154,rfl,rfl⟩
  ·cases h
 ·cases h
theorem Yj5:orC.ok Yb 146:=by
 refine Yv Tryz.func146 Ysj Ygr 300 orC fun args k h=>?_
 simp only[orC]at h
 split at h
 ·rename_i tt z n sz get
  obtain⟨l,⟨⟨rfl,rfl,hg⟩,hn⟩,h⟩:=h
  refine⟨[.vs tt z l.length 1 (fun k=>Uj (l.getD k default))],⟨⟨id,rfl,rfl,rfl,hg⟩,trivial⟩,?_⟩
  have h:k (.int .i64 (orF l)) []:=h
  dsimp only[Yen,Ygq,orC,Uj,go_sem,reduceIte,Ya]
  simp only[Yd,Ya,Ye,reduceCtorEq,Yc]
  exact⟨l,⟨⟨rfl,rfl,fun k _=>Y1 _⟩,hn⟩,YX h⟩
 ·exact h.1.elim
def ZZ(q:Nat->Int)(i k:Nat):Int:=if k<i then q k else 0
theorem M7(q:Nat->Int):ZZ q 6 0=q 0:=rfl
theorem M8(q:Nat->Int):ZZ q 6 1=q 1:=rfl
theorem M9(q:Nat->Int):ZZ q 6 2=q 2:=rfl
theorem Na(q:Nat->Int):ZZ q 6 3=q 3:=rfl
theorem Nb(q:Nat->Int):ZZ q 6 4=q 4:=rfl
theorem Nc(q:Nat->Int):ZZ q 6 5=q 5:=rfl
theorem M6(q:Nat->Int)(i k:Nat):(if k=i then q i else ZZ q i k)=ZZ q (i+1) k:=by
 unfold ZZ
 by_cases h:k=i
 ·subst h;rw[if_pos rfl,if_pos (by omega)]
 ·rw[if_neg h]
  by_cases h2:k<i
  ·rw[if_pos h2,if_pos (by omega)]
  ·rw[if_neg h2,if_neg (by omega)]
theorem NT{i:Nat}(h:i<6):Jp 1 [.int .i64 0,.int .i64 0,.int .i64 0,.int .i64 0,.int .i64 0,.int .i64 0] i=[.int .i64 0]:=by
 rcases six h with rfl|rfl|rfl|rfl|rfl|rfl <;> rfl
def J0(x y:Rt)(s:Int)(i:Nat):Int:=x.num i*y.n+s*y.num i*x.n
theorem LF(x y:Rt)(s:Int):KG x y s=if YY x≠0 then(KT,YY x)else if YY y≠0 then(KT,YY y)else Jr ⟨J0 x y s 0,J0 x y s 1,J0 x y s 2,J0 x y s 3,J0 x y s 4,J0 x y s 5,x.n*y.n⟩:=rfl
theorem Z2{r:Rt}(h:YY r=0){i:Nat}(hi:i<6): -100000<=r.num i/\r.num i<=100000:=by
 obtain⟨_,h1,h2,h3,h4,h5,h6,_⟩:=WY h
 rcases six hi with rfl|rfl|rfl|rfl|rfl|rfl
 ·exact QQ h1
 ·exact QQ h2
 ·exact QQ h3
 ·exact QQ h4
 ·exact QQ h5
 ·exact QQ h6
theorem ZU{r:Rt}(h:YY r=0):1<=r.n/\r.n<=1000:=(WY h).1
theorem BM{x y:Rt}{s:Int}(hx:YY x=0)(hy:YY y=0)(hs:s=1\/s= -1){i:Nat}(hi:i<6):
 IntKind.i64.wrap (x.num i*y.n)=x.num i*y.n/\IntKind.i64.wrap (s*y.num i)=s*y.num i/\IntKind.i64.wrap (s*y.num i*x.n)=s*y.num i*x.n/\IntKind.i64.wrap (x.num i*y.n+s*y.num i*x.n)=J0 x y s i/\ -1000000000<=J0 x y s i/\J0 x y s i<=1000000000:=by
 have a1:=Z2 hx hi
 have a2:=Z2 hy hi
 have a3:=ZU hx
 have a4:=ZU hy
 have b1:=Js (x:=x.num i) (y:=y.n) (X:=100000) (Y:=1000) a1 (by omega)
 have a5: -100000<=s*y.num i/\s*y.num i<=100000:=by rcases hs with rfl|rfl <;> omega
 have b2:=Js (x:=s*y.num i) (y:=x.n) (X:=100000) (Y:=1000) a5 (by omega)
 unfold J0
 refine⟨Yg _ (by omega),Yg _ (by omega),Yg _ (by omega),Yg _ (by omega),by omega,by omega⟩
def joinC:Ctr:={ alias:=false,of:=fun l=>match l with
 | [.agg [.int .i64 a,.int .i64 b,.int .i64 c,.int .i64 d,.int .i64 e,.int .i64 f,.int .i64 n],.agg [.int .i64 a',.int .i64 b',.int .i64 c',.int .i64 d',.int .i64 e',.int .i64 f',.int .i64 n'],.int .i64 s]=>
   .pre (s=1\/s= -1) (.fin (.tup [.agg (Yp (KG ⟨a,b,c,d,e,f,n⟩ ⟨a',b',c',d',e',f',n'⟩ s).1),.int .i64 (KG ⟨a,b,c,d,e,f,n⟩ ⟨a',b',c',d',e',f',n'⟩ s).2]) [])
 |_=>noC}
def TB4:Env:={ ct:=fun n=>match n with|121=>some chkRC|147=>some madeC|146=>some orC|_=>none,fn:=fun _=>none,meth:=fun _ _=>none}
theorem Ygn:TB4.ct 121=some chkRC:=rfl
theorem N3:TB4.ct 147=some madeC:=rfl
theorem Ygo:TB4.ct 146=some orC:=rfl
theorem Ygp:YE Yb TB4:=by
 refine⟨fun f c h=>?_,fun f vf h=>?_,(fun _ _ _ h=>by cases h),by kernel_rfl,(fun _ h=>by cases h)⟩
 ·simp only[TB4]at h
  split at h
  ·cases h;exact⟨DB,_,Tryz.func121,rfl,rfl⟩
  ·cases h;exact⟨L3,_,Tryz.func147,rfl,rfl⟩
  ·cases h;exact⟨Yj5,_,Tryz.func146,rfl,rfl⟩
  ·cases h
 ·cases h
theorem Yk0:joinC.ok Yb 120:=by
 refine Yv Tryz.func120 YrU Ygp 300 joinC fun args k h=>?_
 simp only[joinC]at h
 split at h
 ·rename_i a b c d e f n a' b' c' d' e' f' n' s
  refine⟨[.agg [.int .i64 a,.int .i64 b,.int .i64 c,.int .i64 d,.int .i64 e,.int .i64 f,.int .i64 n],.agg [.int .i64 a',.int .i64 b',.int .i64 c',.int .i64 d',.int .i64 e',.int .i64 f',.int .i64 n'],.int .i64 s],by simp [leL,le],?_⟩
  obtain⟨x,hx⟩:∃r:Rt,r=⟨a,b,c,d,e,f,n⟩:=⟨_,rfl⟩
  obtain⟨y,hy⟩:∃r:Rt,r=⟨a',b',c',d',e',f',n'⟩:=⟨_,rfl⟩
  rw[<-hx,<-hy]at h
  rw[show a=x.a by rw[hx],show b=x.b by rw[hx],show c=x.c by rw[hx],show d=x.d by rw[hx],show e=x.e by rw[hx],show f=x.f by rw[hx],show n=x.n by rw[hx]]
  rw[show a'=y.a by rw[hy],show b'=y.b by rw[hy],show c'=y.c by rw[hy],show d'=y.d by rw[hy],show e'=y.e by rw[hy],show f'=y.f by rw[hy],show n'=y.n by rw[hy]]
  clear hx hy
  obtain⟨hs,h⟩:=h
  have h:k (.tup [.agg (Yp (KG x y s).1),.int .i64 (KG x y s).2]) []:=h
  dsimp only[Yd1,Ygn,chkRC,Ygo,orC,go_sem,reduceIte,Ya]
  simp only[Yd,Ya,Ye,reduceCtorEq,Yc]
  refine⟨by decide,[YY x,YY y],⟨rfl,rfl,fun k hk=>?_⟩,fun hc=>?_,fun hc=>?_⟩
  ·match k,hk with
   |0,_=>exact Y1 _
   |1,_=>exact Y1 _
  ·rw[LF]at h
   by_cases h0:YY x=0
   ·rw[if_neg (by rw[h0];decide)]at h
    have e:orF [YY x,YY y]=YY y:=by
     rw[orF,if_neg (by rw[h0];decide),orF]
     split
     ·rfl
     ·rename_i h1;rw[orF];omega
    rw[e]at hc⊢
    rw[if_pos hc]at h
    exact JF (r:=KT) h
   ·have e:orF [YY x,YY y]=YY x:=by rw[orF,if_pos h0]
    rw[e]
    rw[if_pos h0]at h
    exact JF (r:=KT) h
  have hcx:YY x=0:=by
   by_cases h0:YY x=0
   ·exact h0
   ·rw[orF,if_pos h0]at hc;exact absurd hc h0
  have hcy:YY y=0:=by
   rw[orF,if_neg (by rw[hcx];decide),orF]at hc
   by_cases h0:YY y=0
   ·exact h0
   ·rw[if_pos h0]at hc;exact absurd hc h0
  rw[LF,if_neg (by rw[hcx];decide),if_neg (by rw[hcy];decide)]at h
  refine Loop.keep [2,0,0,1,0,1] Nat (fun i=>[(21,.int .i64 i)]) (fun i=>[(4,.own false 1 6 (fun k=>[.int .i64 (ZZ (J0 x y s) i k)]))]) [] (fun i=>i<=6) (fun i=>6-i) ?_ ?_
  ·refine⟨0,by omega,?_⟩
   dsimp only[go_sem,reduceIte,Ya]
   simp only[Yf]
   refine⟨⟨by decide,by decide,by decide,by decide,rfl⟩,fun k hk=>?_⟩
   rw[NT hk]
   exact⟨⟨rfl,rfl⟩,trivial⟩
  ·rintro i hi
   dsimp only[N3,madeC,Yh,go_sem,reduceIte,Ya]
   simp only[Yd,Ya,Ye,reduceCtorEq,Yc]
   refine⟨fun hlt=>?_,fun hge=>?_⟩
   ·have hi6:i<6:=by omega
    have d1:=Ug x hi6
    have d2:=Ug y hi6
    rw[Uh x hi6]
    dsimp only[N3,madeC,Yh,go_sem,reduceIte,Ya]
    simp only[Yd,Ya,Ye,reduceCtorEq,Yc]
    rw[Uh y hi6]
    dsimp only[N3,madeC,Yh,go_sem,reduceIte,Ya]
    simp only[Yd,Ya,Ye,reduceCtorEq,Yc]
    obtain⟨j1,j2,j3,j4,_⟩:=BM hcx hcy hs hi6
    rw[j1,j2,j3,j4]
    refine⟨⟨by omega,by omega⟩,d1,⟨by omega,by omega⟩,d2,⟨by omega,by omega⟩,hi6,i+1,by omega,by omega,?_⟩
    rw[Yg ((i:Int)+1) (by omega)]
    simp only[Yf]
    refine⟨⟨by decide,by decide,by decide,by decide,by simp⟩,?_⟩
    intro k hk
    rw[<-M6]
    split
    ·exact⟨⟨rfl,rfl⟩,trivial⟩
    ·exact⟨⟨rfl,rfl⟩,trivial⟩
   ·obtain rfl:i=6:=by omega
    have a3:=ZU hcx
    have a4:=ZU hcy
    have hm:=Js (x:=x.n) (y:=y.n) (X:=1000) (Y:=1000) (by omega) (by omega)
    have hm1:1<=x.n*y.n:=Int.mul_pos (by omega) (by omega)
    rw[Yg (x.n*y.n) (by omega)]
    simp only[M7,M8,M9,Na,Nb,Nc]
    dsimp only[N3,madeC,Yp,go_sem,reduceIte,Ya]
    simp only[Yd,Ya,Ye,reduceCtorEq,Yc]
    refine⟨⟨hm1,by omega,fun i hi=>?_⟩,?_⟩
    ·have:=(BM hcx hcy hs hi).2.2.2.2
     rcases six hi with rfl|rfl|rfl|rfl|rfl|rfl <;> (simp only[Rt.num];omega)
    ·exact⟨by decide,by decide,JF (r:=(Jr ⟨J0 x y s 0,J0 x y s 1,J0 x y s 2,J0 x y s 3,J0 x y s 4,J0 x y s 5,x.n*y.n⟩).1) h⟩
 ·exact h.1.elim
def Ji(s:Int):Ctr:={ alias:=false,of:=fun l=>match l with
 | [.agg [.int .i64 a,.int .i64 b,.int .i64 c,.int .i64 d,.int .i64 e,.int .i64 f,.int .i64 n],.agg [.int .i64 a',.int .i64 b',.int .i64 c',.int .i64 d',.int .i64 e',.int .i64 f',.int .i64 n']]=>
   .fin (.tup [.agg (Yp (KG ⟨a,b,c,d,e,f,n⟩ ⟨a',b',c',d',e',f',n'⟩ s).1),.int .i64 (KG ⟨a,b,c,d,e,f,n⟩ ⟨a',b',c',d',e',f',n'⟩ s).2]) []
 |_=>noC}
def TB6:Env:={ ct:=fun n=>match n with|120=>some joinC|_=>none,fn:=fun _=>none,meth:=fun _ _=>none}
theorem Sw:TB6.ct 120=some joinC:=rfl
theorem Sx:YE Yb TB6:=by
 refine⟨fun f c h=>?_,fun f vf h=>?_,(fun _ _ _ h=>by cases h),by kernel_rfl,(fun _ h=>by cases h)⟩
 ·simp only[TB6]at h
  split at h
  ·cases h;exact⟨Yk0,_,Tryz.func120,rfl,rfl⟩
  ·cases h
 ·cases h
theorem YmR:(Ji 1).ok Yb 145:=by
 refine Yv Tryz.func145 Ysi Sx 300 (Ji 1) fun args k h=>?_
 simp only[Ji]at h
 split at h
 ·rename_i a b c d e f n a' b' c' d' e' f' n'
  refine⟨[.agg [.int .i64 a,.int .i64 b,.int .i64 c,.int .i64 d,.int .i64 e,.int .i64 f,.int .i64 n],.agg [.int .i64 a',.int .i64 b',.int .i64 c',.int .i64 d',.int .i64 e',.int .i64 f',.int .i64 n']],by simp [leL,le],?_⟩
  dsimp only[Yem,Sw,joinC,Yp,go_sem,reduceIte,Ya]
  simp only[Yd,Ya,Ye,reduceCtorEq,Yc]
  exact⟨by decide,by decide,by decide,JF (r:=(KG ⟨a,b,c,d,e,f,n⟩ ⟨a',b',c',d',e',f',n'⟩ 1).1) h⟩
 ·exact h.1.elim
theorem IB:(Ji (-1)).ok Yb 81:=by
 refine Yv Tryz.func81 Ytx Sx 300 (Ji (-1)) fun args k h=>?_
 simp only[Ji]at h
 split at h
 ·rename_i a b c d e f n a' b' c' d' e' f' n'
  refine⟨[.agg [.int .i64 a,.int .i64 b,.int .i64 c,.int .i64 d,.int .i64 e,.int .i64 f,.int .i64 n],.agg [.int .i64 a',.int .i64 b',.int .i64 c',.int .i64 d',.int .i64 e',.int .i64 f',.int .i64 n']],by simp [leL,le],?_⟩
  dsimp only[v81,Sw,joinC,Yp,go_sem,reduceIte,Ya]
  simp only[Yd,Ya,Ye,reduceCtorEq,Yc]
  exact⟨by decide,by decide,by decide,JF (r:=(KG ⟨a,b,c,d,e,f,n⟩ ⟨a',b',c',d',e',f',n'⟩ (-1)).1) h⟩
 ·exact h.1.elim
def v82:VF:=⟨34,[.tmp 2,.tmp 3,.tmp 4],(ZR [u1 1 .box [.tm 0],u1 2 .mov [.cn .nil],Zi 3 0,Zi 4 0] (.seq (ZR [Zt 9 7 1,Zc 10 121 9,Zm 5 10] (ZR [Zm 11 5,Zq 12 .neq 11 0] (ZC 12 (ZR [Zm 13 5,u1 2 .mov [.cn .nil],Zi 3 0,Zm 4 13] .ret) .skip))) (ZR [u1 6 .mov [.cn .nil]] (.seq (ZR [Za 14 0 1,Zt 15 6 14,Zi 16 0] (.block 0 (.loop (ZR [Zq 17 .lss 16 6] (.seq (ZC 17 .skip (.exit 0)) (.seq (.block 1 (ZR [Zm 18 16,u1 19 (.index false 6 1) [.tm 15,.tm 16],Zm 7 18,Zm 8 19] (ZR [Zm 20 8,Zq 21 .neq 20 0] (ZC 21 (.region [Zm 22 6,Zm 23 7,u1 24 (.idxArr 6 1) [.cn (.xp false [(.int .i64 2),(.int .i64 3),(.int .i64 5),(.int .i64 7),(.int .i64 11),(.int .i64 13)]),.tm 23],Zf 25 1 24,Zm 26 8,u1 27 (.build [(.int .i64 0),(.int .i64 0)] [(0,1),(1,1)]) [.tm 25,.tm 26],u1 28 (.buildSlice 2 1 [(.int .i64 0),(.int .i64 0)] [(0,2)]) [.tm 27],u1 29 (.append 2 16 [(.int .i64 0),(.int .i64 0)]) [.tm 22,.tm 28],Zm 6 29]) .skip)))) (.region [Zp 30 16 1,Zm 16 30]))))))) (.seq (.draw [] [Zu 31 6,Zy 32 6 1,Zv 33 1 32,Zu 2 31,Zu 3 33,w1 4 .mov [.cn (.int .i64 0)]]) .ret)))))⟩
theorem Yty:Yn Yb Tryz.f82=some v82:=by kernel_rfl
def Yej:VF:={ ntmps:=62,res:=[.cell 6 true 7,.tmp 7],body:=
 (ZR [u1 3 .box [.tm 0],
 u1 6 (.alloc [(.int .i64 0),(.int .i64 0),(.int .i64 0),(.int .i64 0),(.int .i64 0),(.int .i64 0),(.int .i64 0)]) [],
 Zi 7 0]
 (.seq (ZR [Zt 10 7 3,
 Zc 11 121 10,
 Zm 8 11]
 (ZR [Zm 12 8,
 Zq 13 .neq 12 0]
 (ZC 13 (ZR [u1 14 (.build [(.int .i64 0),(.int .i64 0),(.int .i64 0),(.int .i64 0),(.int .i64 0),(.int .i64 0),(.int .i64 0)] []) [],
 Zm 15 8,
 Zs 7 6 14,
 Zm 7 15]
 .ret)
  .skip)))
 (.seq (ZR [Zm 16 1,
 Zq 17 .lss 16 (-1000),
 Zm 18 17,
 Zg 19 18 false 1,
 u2 20 18 false (.cmp .gtr) [.tm 19,.cn (.int .i64 1000)],
 u1 21 .or [.tm 18,.tm 20],
 Zm 22 21,
 Zg 23 22 false 2,
 u2 24 22 false (.cmp .lss) [.tm 23,.cn (.int .i64 (-1000))],
 u1 25 .or [.tm 22,.tm 24],
 Zm 26 25,
 Zg 27 26 false 2,
 u2 28 26 false (.cmp .gtr) [.tm 27,.cn (.int .i64 1000)],
 u1 29 .or [.tm 26,.tm 28],
 Zm 30 29,
 Zg 31 30 false 2,
 u2 32 30 false (.cmp .eql) [.tm 31,.cn (.int .i64 0)],
 u1 33 .or [.tm 30,.tm 32]]
 (ZC 33 (ZR [u1 34 (.build [(.int .i64 0),(.int .i64 0),(.int .i64 0),(.int .i64 0),(.int .i64 0),(.int .i64 0),(.int .i64 0)] []) [],
 Zs 7 6 34,
 Zi 7 2]
 .ret)
  .skip))
 (.seq (ZR [Zm 35 2,
 Zq 36 .lss 35 0]
 (ZC 36 (.region [Zm 37 1,
 u1 38 .neg [.tm 37],
 Zm 39 2,
 u1 40 .neg [.tm 39],
 Zm 1 38,
 Zm 2 40])
  .skip))
 (.seq (ZR [Zi 41 0]
 (.block 0 (.loop (ZR [Zq 42 .lss 41 6]
 (.seq (ZC 42 .skip
  (.exit 0))
 (.seq (.block 1 (ZR [Zm 43 41,
 Zm 9 43]
 (.region [Zm 44 9,
 Za 45 0 3,
 u1 46 (.idxArr 6 1) [.tm 45,.tm 44],
 Zf 47 1 46,
 Zm 48 1,
 Zo 49 .mul 47 48,
 Za 50 0 3,
 u1 51 (.idxArr 6 1) [.tm 50,.tm 44],
 Zs 1 51 49])))
 (.region [Zp 52 41 1,
 Zm 41 52])))))))
 (ZR [Za 53 0 3,
 Zt 54 6 53,
 Za 55 6 3,
 Zf 56 1 55,
 Zm 57 2,
 Zo 58 .mul 56 57,
 Zd 59 147 54 58,
 Ze 60 0 59,
 Ze 61 1 59,
 Zs 7 6 60,
 Zm 7 61]
 .ret))))))}
theorem Ysf:Yn Yb Tryz.f142=some Yej:=by kernel_rfl
def prm:Nat->Int
 |0=>2
 |1=>3
 |2=>5
 |3=>7
 |4=>11
 |_=>13
def tP(r:Rt):Nat->List (Int×Int)
 |0=>[]
 |i+1=>tP r i++tm1 (prm i) (r.num i)
theorem Ydu(r:Rt):tP r 6=Ys r:=by
 simp only[tP,Ys,prm,Rt.num,Vr,List.append_assoc]
theorem Cb{p n:Int}(h:n=0):tm1 p n=[]:=if_pos h
theorem YdB{p n:Int}(h:¬n=0):tm1 p n=[(p,n)]:=if_neg h
theorem Rk(r:Rt):∀i,(tP r i).length<=i
 |0=>Yr _
 |i+1=>by
  have:=Rk r i
  have h:(tm1 (prm i) (r.num i)).length<=1:=by unfold tm1;split <;> simp
  rw[tP,JI];omega
theorem DQ{i:Nat}(h:i<6):YR 1 (YK (i*1) [.int .i64 2,.int .i64 3,.int .i64 5,.int .i64 7,.int .i64 11,.int .i64 13])=[.int .i64 (prm i)]:=by
 rcases six h with rfl|rfl|rfl|rfl|rfl|rfl <;> rfl
theorem Yjv{i:Nat}(h:i<6):1<=YH (YK (i*1) [.int .i64 2,.int .i64 3,.int .i64 5,.int .i64 7,.int .i64 11,.int .i64 13]):=by
 rcases six h with rfl|rfl|rfl|rfl|rfl|rfl <;> exact KI rfl
theorem MB{α:Type}[Inhabited α]{l m:List α}{k:Nat}(h:k<l.length):(l++m).getD k default=l.getD k default:=by
 rw[Kp,XE h,<-Kp]
theorem MC{α:Type}[Inhabited α]{l m:List α}{k:Nat}(h:l.length<=k):(l++m).getD k default=m.getD (k-l.length) default:=by
 rw[Kp,WU h,<-Kp]
theorem Ua{l:List (Int×Int)}{p q:Int}{a b j k:Nat}(hk:k<l.length+1):
 leL a b (if k<l.length then [SV.int .i64 (l.getD k default).fst,SV.int .i64 (l.getD k default).snd]else YZ j (YR 2 (YK ((k-l.length)*2) [SV.int .i64 p,SV.int .i64 q])))
  [SV.int .i64 ((l++[(p,q)]).getD k default).fst,SV.int .i64 ((l++[(p,q)]).getD k default).snd]:=by
 by_cases h:k<l.length
 ·rw[if_pos h,MB h];exact⟨⟨rfl,rfl⟩,⟨rfl,rfl⟩,trivial⟩
 ·rw[if_neg h,MC (by omega),show k-l.length=0 by omega];exact⟨⟨rfl,rfl⟩,⟨rfl,rfl⟩,trivial⟩
theorem Gm{p q:Int}{k:Nat}(hk:k<1):YH (YR 2 (YK (k*2) [SV.int .i64 p,SV.int .i64 q]))=2/\Jk (YR 2 (YK (k*2) [SV.int .i64 p,SV.int .i64 q])):=by
 obtain rfl:k=0:=by omega
 exact⟨rfl,trivial,trivial,trivial⟩
def trmC:Ctr:={ alias:=false,of:=fun l=>match l with
 | [.agg [.int .i64 a,.int .i64 b,.int .i64 c,.int .i64 d,.int .i64 e,.int .i64 f,.int .i64 n]]=>
   if YY ⟨a,b,c,d,e,f,n⟩≠0 then .fin (.tup [.nil,.int .i64 0,.int .i64 (YY ⟨a,b,c,d,e,f,n⟩)]) [.box [.int .i64 a,.int .i64 b,.int .i64 c,.int .i64 d,.int .i64 e,.int .i64 f,.int .i64 n]]
   else .all Bool fun z=> .fin (.tup [.own 1 0 (Ys ⟨a,b,c,d,e,f,n⟩).length 2,.int .i64 n,.int .i64 0]) [.box [.int .i64 a,.int .i64 b,.int .i64 c,.int .i64 d,.int .i64 e,.int .i64 f,.int .i64 n],.own z 2 (Ys ⟨a,b,c,d,e,f,n⟩).length (fun k=>YA ((Ys ⟨a,b,c,d,e,f,n⟩).getD k default))]
 |_=>noC}
def TC0:Env:={ ct:=fun n=>match n with|121=>some chkRC|_=>none,fn:=fun _=>none,meth:=fun _ _=>none}
theorem Ygs:TC0.ct 121=some chkRC:=rfl
theorem Ygt:YE Yb TC0:=by
 refine⟨fun f c h=>?_,fun f vf h=>?_,(fun _ _ _ h=>by cases h),by kernel_rfl,(fun _ h=>by cases h)⟩
 ·simp only[TC0]at h
  split at h
  ·cases h;exact⟨DB,_,Tryz.func121,rfl,rfl⟩
  ·cases h
 ·cases h
theorem YdD:trmC.ok Yb 82:=by
 refine Il Tryz.func82 Yty Ygt 300 trmC fun args k h=>?_
 simp only[trmC]at h
 split at h
 ·rename_i a b c d e f n
  refine⟨[.agg [.int .i64 a,.int .i64 b,.int .i64 c,.int .i64 d,.int .i64 e,.int .i64 f,.int .i64 n]],by simp [leL,le],?_⟩
  obtain⟨r,hr⟩:∃r:Rt,r=⟨a,b,c,d,e,f,n⟩:=⟨_,rfl⟩
  rw[<-hr]at h
  rw[show a=r.a by rw[hr],show b=r.b by rw[hr],show c=r.c by rw[hr],show d=r.d by rw[hr],show e=r.e by rw[hr],show f=r.f by rw[hr],show n=r.n by rw[hr]]at h⊢
  clear hr
  dsimp only[v82,Ygs,chkRC,go_sem,reduceIte,Ya]
  simp only[Yd,Ya,Ye,reduceCtorEq,Yc]
  refine⟨fun hc=>?_,fun hc=>?_⟩
  ·rw[if_pos hc]at h
   exact⟨h,⟨trivial,trivial,trivial,trivial⟩,by simp [QV,Y4,Y0]⟩
  ·rw[if_neg (by rw[show YY r=0 from hc];decide)]at h
   refine Loop.keep [1,0,0,0,10] (Nat×Bool) (fun s=>[(6,.own 1 0 (tP r s.1).length 2),(16,.int .i64 s.1)]) (fun s=>[(1,.own s.2 2 (tP r s.1).length (fun k=>YA ((tP r s.1).getD k default)))]) [.gone] (fun s=>s.1<=6/\(s.2=true->(tP r s.1).length=0)) (fun s=>6-s.1) ?_ ?_
   ·refine⟨(0,true),⟨by decide,fun _=>rfl⟩,?_⟩
    dsimp only[tP,ZI,go_sem,reduceIte,Ya]
    simp only[Yf]
    repeat' apply Yy
    all_goals first|exact trivial|decide|rfl|omega|exact(K3 (by omega)).symm|exact YU _ (QR _ _ _ _) |simp
   ·rintro⟨i,z⟩ ⟨hi,hz⟩
    dsimp only at hi hz
    dsimp only[Yh,YA,go_sem,reduceIte,Ya]
    simp only[Yd,Ya,Ye,reduceCtorEq,Yc]
    refine⟨fun hlt=>?_,fun hge=>?_⟩
    ·have hi6:i<6:=by omega
     have hl:=Rk r i
     rw[DE r hi6]
     dsimp only[Yh,YA,go_sem,reduceIte,Ya]
     simp only[Yd,Ya,Ye,reduceCtorEq,Yc]
     rw[DQ hi6]
     dsimp only[Yh,YA,go_sem,reduceIte,Ya]
     simp only[Yd,Ya,Ye,reduceCtorEq,Yc]
     refine⟨⟨by omega,by omega⟩,fun hn=>⟨⟨by omega,by omega,by decide⟩,Yjv hi6,by decide,⟨by unfold Ka;omega,fun k hk=>Gm hk⟩,(i+1,false),⟨by simp only;omega,fun hh=>by cases hh⟩,by simp only;omega,?_⟩,fun hn=>⟨(i+1,z),⟨by simp only;omega,fun hh=>by simp only[tP,Cb hn,Z9];exact hz hh⟩,by simp only;omega,?_⟩⟩
     ·simp only[tP,YdB hn,JI,List.length_singleton]
      rw[Yg ((i:Int)+1) (by omega)]
      simp only[Yf]
      refine⟨?_,by simp,fun k hk=>Ua hk⟩
      repeat' apply Yy
      all_goals first|exact trivial|decide|rfl|omega|exact(K3 (by omega)).symm|exact YU _ (QR _ _ _ _) |simp
     ·simp only[tP,Cb hn,Z9]
      rw[Yg ((i:Int)+1) (by omega)]
      simp only[Yf]
      repeat' apply Yy
      all_goals first|exact trivial|decide|rfl|omega|exact(K3 (by omega)).symm|exact YU _ (QR _ _ _ _) |simp
    ·obtain rfl:i=6:=by omega
     simp only[Ydu]
     exact⟨h z,⟨trivial,trivial,trivial,trivial⟩,by simp [QV,Y4,Y0]⟩
 ·exact h.1.elim
def XI(q p:Nat->Int)(n:Int)(i:Nat):List SV:=
 [.int .i64 (if 0<i then q 0 else p 0),.int .i64 (if 1<i then q 1 else p 1),.int .i64 (if 2<i then q 2 else p 2),.int .i64 (if 3<i then q 3 else p 3),.int .i64 (if 4<i then q 4 else p 4),.int .i64 (if 5<i then q 5 else p 5),.int .i64 n]
theorem TZ(q p:Nat->Int)(n:Int):XI q p n 6=[.int .i64 (q 0),.int .i64 (q 1),.int .i64 (q 2),.int .i64 (q 3),.int .i64 (q 4),.int .i64 (q 5),.int .i64 n]:=rfl
theorem T4(q p:Nat->Int)(n:Int)(i:Nat):YH (XI q p n i)=7:=rfl
theorem T0(q p:Nat->Int)(n:Int)(i m:Nat):Je m (XI q p n i):=by simp [XI,Je,bnd]
theorem T5(q p:Nat->Int)(n:Int){i:Nat}(h:i<6):JT (XI q p n i) (Kq (i:Int) 1) [.int .i64 (q i)]=XI q p n (i+1):=by
 rcases six h with rfl|rfl|rfl|rfl|rfl|rfl <;> rfl
theorem T2(q p:Nat->Int)(n:Int){i:Nat}(h:i<6):YR 1 (YK (Kq (i:Int) 1) (XI q p n i))=[.int .i64 (p i)]:=by
 rcases six h with rfl|rfl|rfl|rfl|rfl|rfl <;> rfl
theorem T1(q p:Nat->Int)(n:Int){i:Nat}(h:i<6):1<=YH (YK (Kq (i:Int) 1) (XI q p n i)):=by
 rcases six h with rfl|rfl|rfl|rfl|rfl|rfl <;> exact KI rfl
def Uc(n d:Int):Bool:=decide (n< -1000) || decide (1000<n) || decide (d< -1000) || decide (1000<d) || decide (d=0)
theorem TD{n d:Int}(h:Uc n d=false):(-1000<=n/\n<=1000)/\(-1000<=d/\d<=1000)/\d≠0:=by
 simp only[Uc,JH,decide_eq_false_iff_not]at h;omega
def Gp(r:Rt)(n d:Int):Rt×Int:=Jr ⟨r.a*n,r.b*n,r.c*n,r.d*n,r.e*n,r.f*n,r.n*d⟩
def Xc(r:Rt)(n d:Int):Rt×Int:=
 if YY r≠0 then(KT,YY r)else if Uc n d=true then(KT,2)else if d<0 then Gp r (-n) (-d)else Gp r n d
def powRC:Ctr:={ alias:=false,of:=fun l=>match l with
 | [.agg [.int .i64 a,.int .i64 b,.int .i64 c,.int .i64 d,.int .i64 e,.int .i64 f,.int .i64 n],.int .i64 p,.int .i64 q]=> .fin (.tup [.agg (Yp (Xc ⟨a,b,c,d,e,f,n⟩ p q).1),.int .i64 (Xc ⟨a,b,c,d,e,f,n⟩ p q).2]) []
 |_=>noC}
def TC1:Env:={ ct:=fun n=>match n with|121=>some chkRC|147=>some madeC|_=>none,fn:=fun _=>none,meth:=fun _ _=>none}
theorem Ygu:TC1.ct 121=some chkRC:=rfl
theorem Hu:TC1.ct 147=some madeC:=rfl
theorem Ygv:YE Yb TC1:=by
 refine⟨fun f c h=>?_,fun f vf h=>?_,(fun _ _ _ h=>by cases h),by kernel_rfl,(fun _ h=>by cases h)⟩
 ·simp only[TC1]at h
  split at h
  ·cases h;exact⟨DB,_,Tryz.func121,rfl,rfl⟩
  ·cases h;exact⟨L3,_,Tryz.func147,rfl,rfl⟩
  ·cases h
 ·cases h
theorem YnY:powRC.ok Yb 142:=by
 refine Yv Tryz.func142 Ysf Ygv 300 powRC fun args k h=>?_
 simp only[powRC]at h
 split at h
 ·rename_i a b c d e f n p q
  refine⟨[.agg [.int .i64 a,.int .i64 b,.int .i64 c,.int .i64 d,.int .i64 e,.int .i64 f,.int .i64 n],.int .i64 p,.int .i64 q],by simp [leL,le],?_⟩
  obtain⟨r,hr⟩:∃r:Rt,r=⟨a,b,c,d,e,f,n⟩:=⟨_,rfl⟩
  rw[<-hr]at h
  rw[show a=r.a by rw[hr],show b=r.b by rw[hr],show c=r.c by rw[hr],show d=r.d by rw[hr],show e=r.e by rw[hr],show f=r.f by rw[hr],show n=r.n by rw[hr]]
  clear hr
  have h:k (.tup [.agg (Yp (Xc r p q).1),.int .i64 (Xc r p q).2]) []:=h
  dsimp only[Yej,Ygu,chkRC,go_sem,reduceIte,Ya]
  simp only[Yd,Ya,Ye,reduceCtorEq,Yc]
  refine⟨fun hc=>?_,fun hc=>⟨fun hb=>?_,fun hb=>?_⟩⟩
  ·rw[Xc,if_pos hc]at h
   exact JF (r:=KT) h
  all_goals
   have hc:YY r=0:=hc
   rw[Xc,if_neg (by rw[hc];decide)]at h
  ·rw[if_pos (show Uc p q=true from hb)]at h
   exact JF (r:=KT) h
  ·have hb:Uc p q=false:=hb
   rw[if_neg (by rw[hb];decide)]at h
   obtain⟨hp,hq,hq0⟩:=TD hb
   refine⟨fun hneg=>?_,fun hpos=>?_⟩
   ·rw[if_pos hneg]at h
    rw[Yg (0-p) (by omega),Yg (0-q) (by omega),Int.zero_sub,Int.zero_sub]
    obtain⟨P,hP⟩:∃P,P= -p:=⟨_,rfl⟩
    obtain⟨Q,hQ⟩:∃Q,Q= -q:=⟨_,rfl⟩
    rw[<-hP,<-hQ]at h⊢
    have hPb: -1000<=P/\P<=1000:=by omega
    have hQb:1<=Q/\Q<=1000:=by omega
    clear hp hq hP hQ
    refine Loop.keep [1,0,0,2,0] Nat (fun i=>[(41,.int .i64 i)]) (fun i=>[(0,.box (XI (fun j=>r.num j*P) r.num r.n i))]) [] (fun i=>i<=6) (fun i=>6-i) ?_ ?_
    ·refine⟨0,by omega,?_⟩
     dsimp only[XI,go_sem,reduceIte,Ya]
     simp only[Yf]
     repeat' apply Yy
     all_goals first|exact trivial|decide|rfl|omega|exact(K3 (by omega)).symm|exact YU _ (QR _ _ _ _) |simp
    ·rintro i hi
     dsimp only[Hu,madeC,Yh,go_sem,reduceIte,Ya]
     simp only[Yd,Ya,Ye,reduceCtorEq,Yc]
     refine⟨fun hlt=>?_,fun hge=>?_⟩
     ·have hi6:i<6:=by omega
      rw[T2 _ _ _ hi6]
      dsimp only[Hu,madeC,Yh,go_sem,reduceIte,Ya]
      simp only[Yd,Ya,Ye,reduceCtorEq,Yc]
      have h1:=Z2 hc hi6
      have hm:=Js (x:=r.num i) (y:=P) (X:=100000) (Y:=1000) h1 (by omega)
      have e:JT (XI (fun j=>r.num j*P) r.num r.n i) (Kq (i:Int) 1) [.int .i64 (r.num i*P)]=XI (fun j=>r.num j*P) r.num r.n (i+1):=T5 (fun j=>r.num j*P) r.num r.n hi6
      rw[Yg (r.num i*P) (by omega),Yg ((i:Int)+1) (by omega),e]
      refine⟨⟨by omega,by omega⟩,T1 _ _ _ hi6,⟨by omega,by omega⟩,by rw[U6,T4];omega,i+1,by omega,by omega,?_⟩
      simp only[Yf]
      refine⟨?_,YU _ (T0 _ _ _ _ _)⟩
      repeat' apply Yy
      all_goals first|exact trivial|decide|rfl|omega|exact(K3 (by omega)).symm|exact YU _ (QR _ _ _ _) |simp
     ·obtain rfl:i=6:=by omega
      have hn:=ZU hc
      have hm:=Js (x:=r.n) (y:=Q) (X:=1000) (Y:=1000) (by omega) (by omega)
      have hm1:1<=r.n*Q:=Int.mul_pos (by omega) (by omega)
      simp only[TZ]
      dsimp only[Hu,madeC,Yp,go_sem,reduceIte,Ya]
      simp only[Yd,Ya,Ye,reduceCtorEq,Yc]
      rw[Yg (r.n*Q) (by omega)]
      refine⟨⟨hm1,by omega,fun i hi=>?_⟩,?_⟩
      ·have h1:=Z2 hc hi
       have hm:=Js (x:=r.num i) (y:=P) (X:=100000) (Y:=1000) h1 (by omega)
       rcases six hi with rfl|rfl|rfl|rfl|rfl|rfl <;> (simp only[Rt.num]at hm⊢;omega)
      ·exact⟨by decide,by decide,JF (r:=(Gp r P Q).1) h⟩
   ·rw[if_neg hpos]at h
    obtain⟨P,hP⟩:∃P,P=p:=⟨_,rfl⟩
    obtain⟨Q,hQ⟩:∃Q,Q=q:=⟨_,rfl⟩
    rw[<-hP,<-hQ]at h⊢
    have hPb: -1000<=P/\P<=1000:=by omega
    have hQb:1<=Q/\Q<=1000:=by omega
    refine Loop.keep [1,0,0,2,0] Nat (fun i=>[(41,.int .i64 i)]) (fun i=>[(0,.box (XI (fun j=>r.num j*P) r.num r.n i))]) [] (fun i=>i<=6) (fun i=>6-i) ?_ ?_
    ·refine⟨0,by omega,?_⟩
     dsimp only[XI,go_sem,reduceIte,Ya]
     simp only[Yf]
     repeat' apply Yy
     all_goals first|exact trivial|decide|rfl|omega|exact(K3 (by omega)).symm|exact YU _ (QR _ _ _ _) |simp
    ·rintro i hi
     dsimp only[Hu,madeC,Yh,go_sem,reduceIte,Ya]
     simp only[Yd,Ya,Ye,reduceCtorEq,Yc]
     refine⟨fun hlt=>?_,fun hge=>?_⟩
     ·have hi6:i<6:=by omega
      rw[T2 _ _ _ hi6]
      dsimp only[Hu,madeC,Yh,go_sem,reduceIte,Ya]
      simp only[Yd,Ya,Ye,reduceCtorEq,Yc]
      have h1:=Z2 hc hi6
      have hm:=Js (x:=r.num i) (y:=P) (X:=100000) (Y:=1000) h1 (by omega)
      have e:JT (XI (fun j=>r.num j*P) r.num r.n i) (Kq (i:Int) 1) [.int .i64 (r.num i*P)]=XI (fun j=>r.num j*P) r.num r.n (i+1):=T5 (fun j=>r.num j*P) r.num r.n hi6
      rw[Yg (r.num i*P) (by omega),Yg ((i:Int)+1) (by omega),e]
      refine⟨⟨by omega,by omega⟩,T1 _ _ _ hi6,⟨by omega,by omega⟩,by rw[U6,T4];omega,i+1,by omega,by omega,?_⟩
      simp only[Yf]
      refine⟨?_,YU _ (T0 _ _ _ _ _)⟩
      repeat' apply Yy
      all_goals first|exact trivial|decide|rfl|omega|exact(K3 (by omega)).symm|exact YU _ (QR _ _ _ _) |simp
     ·obtain rfl:i=6:=by omega
      have hn:=ZU hc
      have hm:=Js (x:=r.n) (y:=Q) (X:=1000) (Y:=1000) (by omega) (by omega)
      have hm1:1<=r.n*Q:=Int.mul_pos (by omega) (by omega)
      simp only[TZ]
      dsimp only[Hu,madeC,Yp,go_sem,reduceIte,Ya]
      simp only[Yd,Ya,Ye,reduceCtorEq,Yc]
      rw[Yg (r.n*Q) (by omega)]
      refine⟨⟨hm1,by omega,fun i hi=>?_⟩,?_⟩
      ·have h1:=Z2 hc hi
       have hm:=Js (x:=r.num i) (y:=P) (X:=100000) (Y:=1000) h1 (by omega)
       rcases six hi with rfl|rfl|rfl|rfl|rfl|rfl <;> (simp only[Rt.num]at hm⊢;omega)
      ·exact⟨by decide,by decide,JF (r:=(Gp r P Q).1) h⟩
 ·exact h.1.elim
def Yei:VF:={ ntmps:=64,res:=[.cell 4 true 7,.tmp 5],body:=
 (ZR [u1 4 (.alloc [(.int .i64 0),(.int .i64 0),(.int .i64 0),(.int .i64 0),(.int .i64 0),(.int .i64 0),(.int .i64 0)]) [],
 Zi 5 0]
 (.seq (ZR [Zm 9 0,
 Zq 10 .lss 9 1,
 Zm 11 10,
 Zg 12 11 false 0,
 u2 13 11 false (.cmp .gtr) [.tm 12,.cn (.int .i64 1000000000000)],
 u1 14 .or [.tm 11,.tm 13],
 Zm 15 14,
 Zg 16 15 false 1,
 u2 17 15 false (.cmp .lss) [.tm 16,.cn (.int .i64 1)],
 u1 18 .or [.tm 15,.tm 17],
 Zm 19 18,
 Zg 20 19 false 1,
 u2 21 19 false (.cmp .gtr) [.tm 20,.cn (.int .i64 1000000000000)],
 u1 22 .or [.tm 19,.tm 21]]
 (ZC 22 (ZR [u1 23 (.build [(.int .i64 0),(.int .i64 0),(.int .i64 0),(.int .i64 0),(.int .i64 0),(.int .i64 0),(.int .i64 0)] []) [],
 Zs 7 4 23,
 Zi 5 2]
 .ret)
  .skip))
 (ZR [u1 24 (.build [(.int .i64 0),(.int .i64 0),(.int .i64 0),(.int .i64 0),(.int .i64 0),(.int .i64 0),(.int .i64 0)] [(6,1)]) [.cn (.int .i64 1)],
 u1 6 (.alloc [(.int .i64 0),(.int .i64 0),(.int .i64 0),(.int .i64 0),(.int .i64 0),(.int .i64 0),(.int .i64 0)]) [],
 Zs 7 6 24]
 (.seq (ZR [u1 25 (.load true 6) [.cn (.xp false [(.int .i64 2),(.int .i64 3),(.int .i64 5),(.int .i64 7),(.int .i64 11),(.int .i64 13)])],
 Zi 26 0]
 (.block 0 (.loop (ZR [Zq 27 .lss 26 6]
 (.seq (ZC 27 .skip
  (.exit 0))
 (.seq (.block 1 (ZR [Zm 28 26,
 u1 29 (.index false 6 1) [.tm 25,.tm 26],
 Zm 7 28,
 Zm 8 29]
 (.seq (.block 2 (.loop (.seq (ZR [Zm 30 0,
 Zm 31 8,
 u1 32 .rem [.tm 30,.tm 31],
 Zq 33 .eql 32 0]
 (ZC 33 .skip
  (.exit 2)))
 (.seq (.block 3 (.region [Zm 37 7,
 Za 38 0 6,
 u1 39 (.idxArr 6 1) [.tm 38,.tm 37],
 Zf 40 1 39,
 Zp 41 40 1,
 Za 42 0 6,
 u1 43 (.idxArr 6 1) [.tm 42,.tm 37],
 Zs 1 43 41]))
 (.region [Zm 34 0,
 Zm 35 8,
 u1 36 .quo [.tm 34,.tm 35],
 Zm 0 36])))))
 (.block 4 (.loop (.seq (ZR [Zm 44 1,
 Zm 45 8,
 u1 46 .rem [.tm 44,.tm 45],
 Zq 47 .eql 46 0]
 (ZC 47 .skip
  (.exit 4)))
 (.seq (.block 5 (.region [Zm 51 7,
 Za 52 0 6,
 u1 53 (.idxArr 6 1) [.tm 52,.tm 51],
 Zf 54 1 53,
 u1 55 (.ari .sub) [.tm 54,.cn (.int .i64 1)],
 Za 56 0 6,
 u1 57 (.idxArr 6 1) [.tm 56,.tm 51],
 Zs 1 57 55]))
 (.region [Zm 48 1,
 Zm 49 8,
 u1 50 .quo [.tm 48,.tm 49],
 Zm 1 50]))))))))
 (.region [Zp 58 26 1,
 Zm 26 58])))))))
 (.seq (ZR [Zm 59 0,
 Zm 60 1,
 Zr 61 .neq 59 60]
 (ZC 61 (ZR [u1 62 (.build [(.int .i64 0),(.int .i64 0),(.int .i64 0),(.int .i64 0),(.int .i64 0),(.int .i64 0),(.int .i64 0)] []) [],
 Zs 7 4 62,
 Zi 5 7]
 .ret)
  .skip))
 (ZR [Zt 63 7 6,
 Zs 7 4 63,
 Zi 5 0]
 .ret))))))}
theorem Yse:Yn Yb Tryz.f141=some Yei:=by kernel_rfl
def JC:Nat->Int->Int->Int->Int->Int×Int
 |0,_,n,c,_=>(n,c)
 |f+1,p,n,c,s=>if n%p=0 then JC f p (n/p) (c+s) s else(n,c)
def ofL(num den:Int):Nat->Int×Int×(Nat->Int)
 |0=>(num,den,fun _=>0)
 |i+1=>
  ((JC 64 (prm i) (ofL num den i).1 0 1).1,(JC 64 (prm i) (ofL num den i).2.1 (JC 64 (prm i) (ofL num den i).1 0 1).2 (-1)).1,
    fun k=>if k=i then(JC 64 (prm i) (ofL num den i).2.1 (JC 64 (prm i) (ofL num den i).1 0 1).2 (-1)).2 else(ofL num den i).2.2 k)
def X2(a b:Int):Bool:=decide (a<1) || decide (1000000000000<a) || decide (b<1) || decide (1000000000000<b)
def KP(a b:Int):Rt×Int:=
 if X2 a b=true then(KT,2)else if(ofL a b 6).1≠(ofL a b 6).2.1 then(KT,7)
 else(⟨(ofL a b 6).2.2 0,(ofL a b 6).2.2 1,(ofL a b 6).2.2 2,(ofL a b 6).2.2 3,(ofL a b 6).2.2 4,(ofL a b 6).2.2 5,1⟩,0)
def Xk(g:Nat->Int)(n:Int):List SV:=[.int .i64 (g 0),.int .i64 (g 1),.int .i64 (g 2),.int .i64 (g 3),.int .i64 (g 4),.int .i64 (g 5),.int .i64 n]
def XQ(g:Nat->Int)(i:Nat)(v:Int):Nat->Int:=fun k=>if k=i then v else g k
theorem EI(g:Nat->Int)(n:Int){i:Nat}(h:i<6):YR 1 (YK (Kq (i:Int) 1) (Xk g n))=[.int .i64 (g i)]:=by
 rcases six h with rfl|rfl|rfl|rfl|rfl|rfl <;> rfl
theorem Dw(g:Nat->Int)(n:Int){i:Nat}(h:i<6):1<=YH (YK (Kq (i:Int) 1) (Xk g n)):=by
 rcases six h with rfl|rfl|rfl|rfl|rfl|rfl <;> exact KI rfl
theorem Dy(g:Nat->Int)(n:Int){i:Nat}(h:i<6)(v:Int):JT (Xk g n) (Kq (i:Int) 1) [.int .i64 v]=Xk (XQ g i v) n:=by
 rcases six h with rfl|rfl|rfl|rfl|rfl|rfl <;> rfl
theorem Dx(g:Nat->Int)(n:Int):YH (Xk g n)=7:=rfl
theorem Vy(g:Nat->Int)(n:Int)(m:Nat):Je m (Xk g n):=by simp [Xk,Je,bnd]
theorem AQ(g:Nat->Int)(i:Nat)(v w:Int):XQ (XQ g i v) i w=XQ g i w:=by
 funext k;unfold XQ;split <;> rfl
theorem AP(g:Nat->Int)(i:Nat)(v:Int):XQ g i v i=v:=if_pos rfl
theorem YcV(g:Nat->Int)(i:Nat):XQ g i (g i)=g:=by
 funext k;unfold XQ;split
 ·rename_i h;rw[h]
 ·rfl
theorem YbP(i:Nat):2<=prm i/\prm i<=13:=by
 unfold prm;split <;> omega
theorem Yi9{i:Nat}(h:i<6):YR 1 (YK (i*1) [.int .i64 2,.int .i64 3,.int .i64 5,.int .i64 7,.int .i64 11,.int .i64 13])=[.int .i64 (prm i)]:=DQ h
theorem Cj{n p:Int}{f:Nat}(hp:2<=p)(h1:1<=n)(h2:n<2^(f+1))(h3:n<=1000000000000)(hd:n%p=0):1<=n/p/\n/p<2^f/\n/p<=1000000000000:=by
 have e:=Int.mul_ediv_add_emod n p
 rw[hd,Z7]at e
 have hq:1<=n/p:=by
  rcases(show n/p<1\/1<=n/p by omega)with h|h
  ·have:p*(n/p)<=p*0:=Int.mul_le_mul_of_nonneg_left (by omega) (by omega)
   omega
  ·exact h
 have h4:2*(n/p)<=n:=by
  have:2*(n/p)<=p*(n/p):=Xq hp (by omega)
  omega
 rw[Int.pow_succ]at h2
 exact⟨hq,by omega,by omega⟩
def ofRC:Ctr:={ alias:=false,of:=fun l=>match l with
 | [.int .i64 a,.int .i64 b]=> .fin (.tup [.agg (Yp (KP a b).1),.int .i64 (KP a b).2]) []
 |_=>noC}
theorem Pj(a b:Int):∀i j,i<=j->(ofL a b i).2.2 j=0
 |0,_,_=>rfl
 |i+1,j,h=>by
  rw[ofL]
  show(if j=i then _ else _)=(0:Int)
  rw[if_neg (by omega)]
  exact Pj a b i j (by omega)
def TD0:Env:={ ct:=fun _=>none,fn:=fun _=>none,meth:=fun _ _=>none}
theorem Ygw:YE Yb TD0:=by
 refine⟨fun f c h=>?_,fun f vf h=>?_,(fun _ _ _ h=>by cases h),by kernel_rfl,(fun _ h=>by cases h)⟩
 ·cases h
 ·cases h
theorem of_c:ofRC.ok Yb 141:=by
 refine Yv Tryz.func141 Yse Ygw 300 ofRC fun args k h=>?_
 simp only[ofRC]at h
 split at h
 ·rename_i a b
  refine⟨[.int .i64 a,.int .i64 b],by simp [leL,le],?_⟩
  have h:k (.tup [.agg (Yp (KP a b).1),.int .i64 (KP a b).2]) []:=h
  dsimp only[Yei,go_sem,reduceIte,Ya]
  simp only[Yd,Ya,Ye,reduceCtorEq,Yc]
  refine⟨fun hb=>?_,fun hb=>?_⟩
  ·rw[KP,if_pos (show X2 a b=true from hb)]at h
   exact JF (r:=KT) h
  ·have hb:X2 a b=false:=hb
   rw[KP,if_neg (by rw[hb];decide)]at h
   simp only[X2,JH,decide_eq_false_iff_not]at hb
   refine Loop.keep [4,0,0,18] Nat (fun i=>[(0,.int .i64 (ofL a b i).1),(1,.int .i64 (ofL a b i).2.1),(26,.int .i64 i)]) (fun i=>[(1,.box (Xk (ofL a b i).2.2 1))]) [] (fun i=>i<=6/\(1<=(ofL a b i).1/\(ofL a b i).1<=1000000000000)/\1<=(ofL a b i).2.1/\(ofL a b i).2.1<=1000000000000) (fun i=>6-i) ?_ ?_
   ·refine⟨0,⟨by omega,⟨by simp only[ofL];omega,by simp only[ofL];omega⟩,by simp only[ofL];omega,by simp only[ofL];omega⟩,?_⟩
    dsimp only[Xk,ofL,go_sem,reduceIte,Ya]
    simp only[Yf]
    repeat' apply Yy
    all_goals first|exact trivial|decide|rfl|omega|exact(K3 (by omega)).symm|simp
   ·rintro i ⟨hi,hx,hy⟩
    obtain⟨X,hX⟩:∃X,X=(ofL a b i).1:=⟨_,rfl⟩
    obtain⟨Y,hY⟩:∃Y,Y=(ofL a b i).2.1:=⟨_,rfl⟩
    obtain⟨g,hg⟩:∃g,g=(ofL a b i).2.2:=⟨_,rfl⟩
    rw[<-hX]at hx
    rw[<-hY]at hy
    rw[<-hX,<-hY,<-hg]
    dsimp only[Yh,go_sem,reduceIte,Ya]
    simp only[Yd,Ya,Ye,reduceCtorEq,Yc]
    refine⟨fun hlt=>?_,fun hge=>?_⟩
    ·have hi6:i<6:=by omega
     have hp:=YbP i
     have hg0:g i=0:=by rw[hg];exact Pj a b i i (Yr _)
     rw[Yi9 hi6]
     refine⟨⟨by omega,by omega⟩,?_⟩
     have hS:ofL a b (i+1)=((JC 64 (prm i) X 0 1).1,(JC 64 (prm i) Y (JC 64 (prm i) X 0 1).2 (-1)).1,XQ g i (JC 64 (prm i) Y (JC 64 (prm i) X 0 1).2 (-1)).2):=by
      rw[ofL,<-hX,<-hY,<-hg];rfl
     generalize prm i=p at hp hS⊢
     obtain⟨A,hA⟩:∃A,A=JC 64 p X 0 1:=⟨_,rfl⟩
     rw[<-hA]at hS
     refine Loop.keep [1,2,0,0,0,0,16,0] (Nat×Int×Int) (fun s=>[(0,.int .i64 s.2.1)]) (fun s=>[(1,.box (Xk (XQ g i s.2.2) 1))]) [] (fun s=>A=JC s.1 p s.2.1 s.2.2 1/\1<=s.2.1/\s.2.1<2^s.1/\s.2.1<=1000000000000/\ -1000+s.1<=s.2.2/\s.2.2<=1000-s.1) (fun s=>s.1) ?_ ?_
     ·refine⟨(64,X,0),⟨hA,hx.1,by simp only;omega,hx.2,by simp,by simp⟩,?_⟩
      rw[show XQ g i (64,X,(0:Int)).2.2=g by rw[<-hg0];exact YcV g i]
      dsimp only[go_sem,reduceIte,Ya]
      simp only[Yf]
      refine⟨by decide,YU _ (Vy _ _ _)⟩
     ·rintro⟨f,n,c⟩ ⟨hf,n1,n2,n3,c1,c2⟩
      dsimp only at hf n1 n2 n3 c1 c2
      dsimp only[Yh,go_sem,reduceIte,Ya]
      simp only[Yd,Ya,Ye,reduceCtorEq,Yc]
      have e1:n.tmod p=n%p:=UF (by omega)
      have e2:n.tdiv p=n/p:=ZG (by omega)
      rw[e1]
      obtain⟨q,rfl⟩:∃q,f=q+1:=by
       cases f with
       |zero=>simp at n2;omega
       |succ q=>exact⟨q,rfl⟩
      rw[JC]at hf
      refine⟨by omega,fun hd=>?_,fun hd=>?_⟩
      ·rw[if_pos hd]at hf
       obtain⟨w1,w2,w3⟩:=Cj (by omega) n1 n2 n3 hd
       rw[EI _ _ hi6,AP]
       dsimp only[Yh,go_sem,reduceIte,Ya]
       simp only[Yd,Ya,Ye,reduceCtorEq,Yc]
       rw[Dy _ _ hi6,AQ,e2,Yg (n/p) (by omega),Yg (c+1) (by omega)]
       refine⟨⟨by omega,by omega⟩,Dw _ _ hi6,⟨by omega,by omega⟩,by rw[U6,Dx];omega,by omega,(q,n/p,c+1),⟨hf,w1,w2,w3,by simp only;omega,by simp only;omega⟩,by simp only;omega,?_⟩
       simp only[Yf]
       refine⟨by decide,YU _ (Vy _ _ _)⟩
      ·rw[if_neg hd]at hf
       have hA1:A.1=n:=by rw[hf]
       have hA2:A.2=c:=by rw[hf]
       rw[hA2]at hS
       obtain⟨B,hB⟩:∃B,B=JC 64 p Y c (-1):=⟨_,rfl⟩
       rw[<-hB,hA1]at hS
       have n1':=n1
       have n3':=n3
       have c1': -2000+(64:Int)<=c/\c<=2000-64:=by omega
       clear hf hA n2 e1 e2 c1 c2 hA1 hA2
       refine Loop.keep [0,3,0,0,0,0,16,0] (Nat×Int×Int) (fun s=>[(1,.int .i64 s.2.1)]) (fun s=>[(1,.box (Xk (XQ g i s.2.2) 1))]) [] (fun s=>B=JC s.1 p s.2.1 s.2.2 (-1)/\1<=s.2.1/\s.2.1<2^s.1/\s.2.1<=1000000000000/\ -2000+s.1<=s.2.2/\s.2.2<=2000-s.1) (fun s=>s.1) ?_ ?_
       ·refine⟨(64,Y,c),⟨hB,hy.1,by simp only;omega,hy.2,by simp only;omega,by simp only;omega⟩,?_⟩
        dsimp only[go_sem,reduceIte,Ya]
        simp only[Yf]
        refine⟨by decide,YU _ (Vy _ _ _)⟩
       ·obtain⟨N,hN⟩:∃N,N=n:=⟨_,rfl⟩
        rw[<-hN]at n1' n3' hS⊢
        clear hN n1 n3 hd c1' hB
        rintro⟨f,n,c⟩ ⟨hf,n1,n2,n3,c1,c2⟩
        dsimp only at hf n1 n2 n3 c1 c2
        dsimp only[Yh,go_sem,reduceIte,Ya]
        simp only[Yd,Ya,Ye,reduceCtorEq,Yc]
        have e1:n.tmod p=n%p:=UF (by omega)
        have e2:n.tdiv p=n/p:=ZG (by omega)
        rw[e1]
        obtain⟨q,rfl⟩:∃q,f=q+1:=by
         cases f with
         |zero=>simp at n2;omega
         |succ q=>exact⟨q,rfl⟩
        rw[JC]at hf
        refine⟨by omega,fun hd=>?_,fun hd=>?_⟩
        ·rw[if_pos hd]at hf
         obtain⟨w1,w2,w3⟩:=Cj (by omega) n1 n2 n3 hd
         rw[EI _ _ hi6,AP]
         dsimp only[Yh,go_sem,reduceIte,Ya]
         simp only[Yd,Ya,Ye,reduceCtorEq,Yc]
         rw[Dy _ _ hi6,AQ,e2,Yg (n/p) (by omega),Yg (c-1) (by omega)]
         refine⟨⟨by omega,by omega⟩,Dw _ _ hi6,⟨by omega,by omega⟩,by rw[U6,Dx];omega,by omega,(q,n/p,c+(-1)),⟨hf,w1,w2,w3,by simp only;omega,by simp only;omega⟩,by simp only;omega,?_⟩
         simp only[Yf]
         refine⟨by decide,YU _ (Vy _ _ _)⟩
        ·rw[if_neg hd]at hf
         have hB1:B.1=n:=by rw[hf]
         have hB2:B.2=c:=by rw[hf]
         rw[hB1,hB2]at hS
         refine⟨i+1,⟨by omega,⟨by rw[hS];exact n1',by rw[hS];exact n3'⟩,by rw[hS];exact n1,by rw[hS];exact n3⟩,by omega,?_⟩
         rw[hS,Yg ((i:Int)+1) (by omega)]
         simp only[Yf]
         refine⟨?_,YU _ (Vy _ _ _)⟩
         repeat' apply Yy
         all_goals first|exact trivial|decide|rfl|omega|exact(K3 (by omega)).symm|simp
    ·obtain rfl:i=6:=by omega
     rw[<-hX,<-hY,<-hg]at h
     refine⟨fun hn=>?_,fun he=>?_⟩
     ·rw[if_pos hn]at h
      exact JF (r:=KT) h
     ·rw[if_neg (by omega)]at h
      exact⟨Yr 7,⟨rfl,by simp [Xk,YR,Jk,one]⟩,Yr 7,JF (r:=⟨g 0,g 1,g 2,g 3,g 4,g 5,1⟩) h⟩
 ·exact h.1.elim
def v31:VF:=⟨71,[.tmp 6,.tmp 7,.tmp 8],(ZR [u1 3 .box [.tm 0],u1 4 .box [.tm 1],Zi 6 0,u1 7 .mov [.cn (.bool false)],Zi 8 0] (.seq (ZR [Zf 15 1 3,Zc 16 49 15,Zm 9 16] (ZR [Zm 17 9,Zq 18 .neq 17 0] (ZC 18 (ZR [Zm 19 9,Zi 6 0,u1 7 .mov [.cn (.bool false)],Zm 8 19] .ret) .skip))) (.seq (ZR [Zf 20 1 4,Zq 21 .lss 20 1,Zm 22 21,Zh 23 22 false 1 4,u2 24 22 false (.cmp .gtr) [.tm 23,.cn (.int .i64 1000000)],u1 25 .or [.tm 22,.tm 24],Zm 26 25,Zg 27 26 false 2,u2 28 26 false (.cmp .lss) [.tm 27,.cn (.int .i64 1)],u1 29 .or [.tm 26,.tm 28],Zm 30 29,Zg 31 30 false 2,u2 32 30 false (.cmp .gtr) [.tm 31,.cn (.int .i64 10000000)],u1 33 .or [.tm 30,.tm 32]] (ZC 33 (ZR [Zi 6 0,u1 7 .mov [.cn (.bool false)],Zi 8 2] .ret) .skip)) (ZR [Zf 34 1 3,Zl 35 34,Zp 36 35 1,u1 37 (.make 2 16 [(.int .i64 0),(.int .i64 0)]) [.cn (.int .i64 0),.tm 36],u1 10 (.alloc [.nil]) [],Zs 1 10 37] (.seq (ZR [Zf 38 1 3,Zl 39 38,Zi 40 0] (.block 0 (.loop (ZR [Zr 41 .lss 40 39] (.seq (ZC 41 .skip (.exit 0)) (.seq (.block 1 (ZR [Zx 42 2 38 40,Zt 43 2 42,Zn 12,Zs 2 12 43] (.region [Zf 44 1 10,Za 45 0 12,Zf 46 1 45,Za 47 1 12,Zf 48 1 47,Zm 49 2,Zo 50 .mul 48 49,u1 51 (.build [(.int .i64 0),(.int .i64 0)] [(0,1),(1,1)]) [.tm 46,.tm 50],u1 52 (.buildSlice 2 1 [(.int .i64 0),(.int .i64 0)] [(0,2)]) [.tm 51],u1 53 (.append 2 16 [(.int .i64 0),(.int .i64 0)]) [.tm 44,.tm 52],Zs 1 10 53]))) (.region [Zp 54 40 1,Zm 40 54]))))))) (ZR [u1 55 (.mkfn (.func 50) 0) [.tm 10,.tm 3,.tm 4],u1 13 (.alloc [(.val .nilFunc)]) [],Zs 1 13 55] (ZR [u1 56 (.mkfn (.func 51) 0) [.tm 13],Zm 14 56] (.seq (ZR [Zm 57 14,u1 58 .callv [.tm 57,.cn (.int .i64 1000000000001)],Zm 59 58,Zg 60 59 false 14,u2 61 59 false .callv [.tm 60,.cn (.int .i64 (-1000000000000))],u2 62 59 false .not [.tm 61],u1 63 .or [.tm 59,.tm 62]] (ZC 63 (ZR [Zi 6 0,u1 7 .mov [.cn (.bool false)],Zi 8 7] .ret) .skip)) (ZR [Zm 64 14,u1 65 (.call 53) [.cn (.int .i64 (-1000000000000)),.cn (.int .i64 1000000000001),.tm 64],Zm 6 65] (ZR [Zm 66 6,Zf 67 1 13,Zm 68 6,u1 69 .callv [.tm 67,.tm 68],Zc 70 54 69,Zm 6 66,Zm 7 70,Zi 8 0] .ret))))))))))⟩
theorem YsJ:Yn Yb Tryz.f31=some v31:=by kernel_rfl
def v50:VF:=⟨19,[.tmp 5],(ZR [u1 5 .mov [.cn .nil]] (.seq (.draw [] [Zv 6 1 1,Zv 7 1 2,w1 8 .len [.tm 7],Zv 9 1 2,w1 10 .len [.tm 9],w1 11 (.slice3 2) [.tm 6,.tm 8,.tm 10],Zu 12 0,w1 13 .neg [.tm 12],Zv 14 1 3,w1 15 (.ari .mul) [.tm 13,.tm 14],w1 16 (.build [(.int .i64 0),(.int .i64 0)] [(0,1),(1,1)]) [.cn (.int .i64 2),.tm 15],w1 17 (.buildSlice 2 1 [(.int .i64 0),(.int .i64 0)] [(0,2)]) [.tm 16],w1 18 (.append 2 16 [(.int .i64 0),(.int .i64 0)]) [.tm 11,.tm 17],Zu 5 18]) .ret))⟩
theorem Ys2:Yn Yb Tryz.f50=some v50:=by kernel_rfl
def v51:VF:=⟨9,[.tmp 3],(ZR [u1 3 .mov [.cn (.bool false)]] (ZR [Zf 4 1 1,Zm 5 0,u1 6 .callv [.tm 4,.tm 5],Zc 7 52 6,Zq 8 .geq 7 0,Zm 3 8] .ret))⟩
theorem Ys3:Yn Yb Tryz.f51=some v51:=by kernel_rfl
def Qp(s:Int)(x:Int×Int):Int×Int:=(x.1,x.2*s)
def atG(all:List (Int×Int))(den m:Int):List (Int×Int):=all++[(2, -m*den)]
def isG(all:List (Int×Int))(den m:Int):Bool:=decide (0<=Xd (atG all den m))
def GR(den s:Int):Bool:=decide (den<1) || decide (1000000<den) || decide (s<1) || decide (10000000<s)
def G0(all:List (Int×Int))(den:Int):Int×Bool×Int:=
 if(isG all den 1000000000001|| !isG all den (-1000000000000))=true then(0,false,7)
 else(KQ 64 (isG all den) (-1000000000000) 1000000000001,Wq (atG all den (KQ 64 (isG all den) (-1000000000000) 1000000000001)),0)
def JG(l:List (Int×Int))(den s:Int):Int×Bool×Int:=
 if Xl l≠0 then(0,false,Xl l)else if GR den s=true then(0,false,2)else G0 (l.map (Qp s)) den
theorem B3{α β:Type}[Inhabited α][Inhabited β]{l:List α}{f:α->β}{k:Nat}(h:k<l.length):(l.map f).getD k default=f (l.getD k default):=by
 rw[Kp,List.getElem?_map,Wu h,Kp,Wu h];rfl
theorem Dp{A:List (Int×Int)}{L:Nat}(hL:A.length=L){q:Int}{hp:List HO}{r:List SV->List SV}:
 lsP 2 YA (L+1) 2 (fun k=>Qs false hp r (if k<L then [SV.int .i64 (A.getD k default).fst,SV.int .i64 (A.getD k default).snd]else YR 2 (YK ((k-L)*2) [SV.int .i64 2,SV.int .i64 q]))) (A++[(2,q)]):=by
 subst hL
 refine⟨rfl,by simp,fun k hk=>?_⟩
 by_cases h:k<A.length
 ·simp only[if_pos h]
  rw[MB h]
  exact Y1 _
 ·simp only[if_neg h]
  rw[MC (by omega),show k-A.length=0 by omega]
  exact Y1 _
theorem Yij{l:List (Int×Int)}{s den m:Int}(hl:∀x,x∈l->Xa x=false)(hs:1<=s/\s<=10000000)(hd:1<=den/\den<=1000000)(hm: -1000000000001<=m/\m<=1000000000001):∀x,x∈atG (l.map (Qp s)) den m->okT x:=by
 intro x hx
 rw[atG,KE,JD,QO]at hx
 rcases hx with⟨y,hy,rfl⟩ |rfl
 ·have:=hl y hy
  simp only[Xa,JH,decide_eq_false_iff_not]at this
  have hb:=Js (x:=y.2) (y:=s) (X:=1000000000) (Y:=10000000) (by omega) (by omega)
  simp only[okT,Qp]
  omega
 ·have hb:=Js (x:= -m) (y:=den) (X:=1000000000001) (Y:=1000000) (by omega) (by omega)
  simp only[okT]
  omega
theorem B5{m den:Int}(hd:1<=den/\den<=1000000)(hm: -1000000000001<=m/\m<=1000000000001):IntKind.i64.wrap (IntKind.i64.wrap (0-m)*den)= -m*den:=by
 have hb:=Js (x:= -m) (y:=den) (X:=1000000000001) (Y:=1000000) (by omega) (by omega)
 rw[Yg (0-m) (by omega),Int.zero_sub,Yg _ (by omega)]
theorem P5{A:List (Int×Int)}{L:Nat}{x y:Int}{k a b:Nat}(hk:k<L+1):leL a b (if k<L then [SV.int .i64 (A.getD k default).fst,SV.int .i64 (A.getD k default).snd]else YR 2 (YK ((k-L)*2) [SV.int .i64 x,SV.int .i64 y])) (if k<L then [SV.int .i64 (A.getD k default).fst,SV.int .i64 (A.getD k default).snd]else YR 2 (YK ((k-L)*2) [SV.int .i64 x,SV.int .i64 y])):=by
 by_cases h:k<L
 ·rw[if_pos h];exact⟨⟨rfl,rfl⟩,⟨rfl,rfl⟩,trivial⟩
 ·rw[if_neg h,show k-L=0 by omega];exact⟨⟨rfl,rfl⟩,⟨rfl,rfl⟩,trivial⟩
def flrC:Ctr:={ alias:=false,of:=fun l=>match l with
 | [.vs _ _ n sz get,.int .i64 den,.int .i64 s]=> .ex (List (Int×Int)) fun l=> .pre (lsP 2 YA n sz get l/\n<=1000000000000) (.fin (.tup [.int .i64 (JG l den s).1,.bool (JG l den s).2.1,.int .i64 (JG l den s).2.2]) [])
 |_=>noC}
def TE0:Env:={ ct:=fun n=>match n with|49=>some chkTC|52=>some signC|54=>some oneC|_=>none,fn:=fun n=>match n with|50=>some v50|51=>some v51|53=>some v53|_=>none,meth:=fun _ _=>none}
theorem Ygx:TE0.ct 49=some chkTC:=rfl
theorem CM:TE0.ct 52=some signC:=rfl
theorem CN:TE0.ct 54=some oneC:=rfl
theorem CK:TE0.ct 50=none:=rfl
theorem CO:TE0.fn 50=some v50:=rfl
theorem CL:TE0.ct 51=none:=rfl
theorem CP:TE0.fn 51=some v51:=rfl
theorem Ygy:TE0.ct 53=none:=rfl
theorem Ygz:TE0.fn 53=some v53:=rfl
theorem YgA:YE Yb TE0:=by
 refine⟨fun f c h=>?_,fun f vf h=>?_,(fun _ _ _ h=>by cases h),by kernel_rfl,(fun _ h=>by cases h)⟩
 ·simp only[TE0]at h
  split at h
  ·cases h;exact⟨Ie,_,Tryz.func49,rfl,rfl⟩
  ·cases h;exact⟨Yc7,_,Tryz.func52,rfl,rfl⟩
  ·cases h;exact⟨Po,_,Tryz.func54,rfl,rfl⟩
  ·cases h
 ·simp only[TE0]at h
  split at h
  ·cases h;exact⟨_,Tryz.func50,Ys2,_,Tryz.func50,rfl,rfl⟩
  ·cases h;exact⟨_,Tryz.func51,Ys3,_,Tryz.func51,rfl,rfl⟩
  ·cases h;exact⟨_,Tryz.func53,Yez,_,Tryz.func53,rfl,rfl⟩
  ·cases h
theorem Ol:flrC.ok Yb 31:=by
 refine Yv Tryz.func31 YsJ YgA 800 flrC fun args k h=>?_
 simp only[flrC]at h
 split at h
 ·rename_i tt z n sz get den s
  obtain⟨l,⟨⟨rfl,rfl,hg⟩,hnb⟩,h⟩:=h
  refine⟨[.vs tt z l.length 2 (fun k=>YA (l.getD k default)),.int .i64 den,.int .i64 s],⟨⟨id,rfl,rfl,rfl,hg⟩,⟨rfl,rfl⟩,⟨rfl,rfl⟩,trivial⟩,?_⟩
  dsimp only[v31,Ygx,chkTC,YA,go_sem,reduceIte,Ya]
  simp only[Yd,Ya,Ye,reduceCtorEq,Yc]
  refine⟨l,⟨⟨rfl,rfl,fun k _=>Y1 _⟩,by omega⟩,fun hh=>by rw[JG,if_pos hh]at h;exact WX h,fun hchk=>?_⟩
  obtain⟨hl,hn⟩:=EL hchk
  rw[JG,if_neg (by rw[hchk];decide)]at h
  refine⟨fun hh=>?_,fun hb=>?_⟩
  ·rw[if_pos (show GR den s=true from hh)]at h
   exact WX h
  have hb:GR den s=false:=hb
  rw[if_neg (by rw[hb];decide)]at h
  simp only[GR,JH,decide_eq_false_iff_not]at hb
  have hb:(1<=den/\den<=1000000)/\1<=s/\s<=10000000:=by omega
  have hlw:IntKind.i64.wrap ((l.length:Int)+1)=(l.length:Int)+1:=Yg _ (by omega)
  rw[hlw]
  refine⟨⟨by decide,by decide,by omega,by unfold Ka;omega⟩,?_⟩
  obtain⟨A,hA⟩:∃A,A=l.map (Qp s):=⟨_,rfl⟩
  have hAl:A.length=l.length:=by rw[hA,Vq]
  have hAk:∀k,k<l.length->A.getD k default=Qp s (l.getD k default):=fun k hk=>by rw[hA,B3 hk]
  rw[<-hA]at h
  refine Loop.keep [2,0,0,1,0,0,1,27,0] Nat (fun i=>[(40,.int .i64 i)]) (fun i=>[(2,.own false 2 i (fun k=>YA (A.getD k default))),(3,.box [.own 2 0 i 2])]) [] (fun i=>i<=l.length) (fun i=>l.length-i) ?_ ?_
  ·refine⟨0,JP _,?_⟩
   dsimp only[go_sem,reduceIte,Ya]
   simp only[Yf]
   refine⟨⟨by decide,by decide,by decide,rfl⟩,⟨rfl,fun k hk=>absurd hk (QC _)⟩,rfl,by decide⟩
  ·rintro i hi
   dsimp only[Yh,YA,go_sem,reduceIte,Ya]
   simp only[Yd,Ya,Ye,reduceCtorEq,Yc]
   refine⟨fun hlt=>?_,fun hge=>?_⟩
   ·have hil:i<l.length:=by omega
    have hx:=hl _ (KK hil)
    simp only[Xa,JH,decide_eq_false_iff_not]at hx
    have hm:=Js (x:=(l.getD i default).2) (y:=s) (X:=1000000000) (Y:=10000000) (by omega) (by omega)
    rw[Yg ((l.getD i default).2*s) (by omega),NO (i:=i) (n:=l.length) hil (by omega)]
    refine⟨⟨by omega,by omega⟩,by decide,⟨by unfold Ka;omega,fun k hk=>Gm hk⟩,i+1,by omega,by omega,?_⟩
    simp only[Yf]
    refine⟨?_,⟨rfl,fun q hq=>?_⟩,?_⟩
    ·repeat' apply Yy
     all_goals first|exact trivial|decide|rfl|omega|exact(K3 (by omega)).symm|simp
    ·by_cases hqi:q<i
     ·rw[if_pos hqi];exact⟨⟨rfl,rfl⟩,⟨rfl,rfl⟩,trivial⟩
     ·obtain rfl:q=i:=by omega
      rw[if_neg hqi,hAk _ hil,Nat.sub_self]
      exact⟨⟨rfl,rfl⟩,⟨rfl,rfl⟩,trivial⟩
    ·repeat' apply Yy
     all_goals first|exact trivial|decide|rfl|omega|exact(K3 (by omega)).symm|simp
   ·obtain rfl:i=l.length:=by omega
    clear hi hge
    dsimp only[CL,CP,v51,CK,CO,v50,CM,CN,signC,go_sem,reduceIte,Ya]
    simp only[Yd,Ya,Ye,reduceCtorEq,Yc]
    rw[B5 hb.1 (by decide),B5 hb.1 (by decide)]
    simp only[Yh]
    have hok:∀m:Int,(-1000000000001<=m/\m<=1000000000001)->∀x,x∈atG A den m->okT x:=fun m hm=>by rw[hA];exact Yij hl hb.2 hb.1 hm
    refine⟨⟨by omega,by omega⟩,by decide,⟨by decide,by unfold Ka;omega,fun k hk=>Gm hk⟩,atG A den 1000000000001,⟨Dp hAl,hok _ (by decide),by omega⟩,?_⟩
    refine⟨fun hs1=>?_,fun hs1=>?_⟩
    ·refine⟨⟨by omega,by omega⟩,by decide,⟨by decide,by unfold Ka;omega,fun k hk=>Gm hk⟩,atG A den (-1000000000000),⟨Dp hAl,hok _ (by decide),by omega⟩,fun hc=>?_,fun hc=>?_⟩
     ·rw[G0,if_pos (show(isG A den 1000000000001|| !isG A den (-1000000000000))=true from hc)]at h
      exact WX h
     ·rw[G0,if_neg (by rw[show(isG A den 1000000000001|| !isG A den (-1000000000000))=false from hc];decide)]at h
      dsimp only[Ygy,Ygz,v53,go_sem,reduceIte,Ya]
      simp only[Yd,Ya,Ye,reduceCtorEq,Yc]
      obtain⟨t,ht⟩:∃t,t=isG A den:=⟨_,rfl⟩
      obtain⟨R,hR⟩:∃R,R=KQ 64 t (-1000000000000) 1000000000001:=⟨_,rfl⟩
      rw[<-ht,<-hR]at h
      refine Loop.keep [2] (Nat×Int×Int) (fun s=>[(0,.int .i64 s.2.1),(1,.int .i64 s.2.2)]) (fun _=>[]) [] (fun s=>R=KQ s.1 t s.2.1 s.2.2/\ -1000000000000<=s.2.1/\s.2.1<s.2.2/\s.2.2<=1000000000001/\s.2.2-s.2.1<=2^s.1) (fun s=>s.1) ?_ ?_
      ·refine⟨(64, -1000000000000,1000000000001),⟨hR,by decide,by decide,by decide,by decide⟩,?_⟩
       dsimp only[go_sem,reduceIte,Ya]
       simp only[Yf]
       repeat' apply Yy
       all_goals first|decide|rfl| (intro k hk;exact P5 hk)
      ·rintro⟨f,lo,hi⟩ ⟨hf,b0,b1,b2,b3⟩
       dsimp only at hf b0 b1 b2 b3
       dsimp only[CL,CP,v51,CK,CO,v50,CM,CN,signC,oneC,go_sem,reduceIte,Ya]
       simp only[Yd,Ya,Ye,reduceCtorEq,Yc]
       simp only[Yh]
       have ed:IntKind.i64.wrap (hi-lo)=hi-lo:=Yg _ (by omega)
       have e2:IntKind.i64.wrap ((hi-lo).tdiv 2)=(hi-lo)/2:=by
        rw[ZG (by omega),Yg _ (by omega)]
       have e3:IntKind.i64.wrap (lo+(hi-lo)/2)=lo+(hi-lo)/2:=Yg _ (by omega)
       rw[ed,e2,e3]
       refine⟨fun hc1=>?_,fun hc1=>?_⟩
       ·obtain⟨m,hm⟩:∃m,m=lo+(hi-lo)/2:=⟨_,rfl⟩
        rw[<-hm,B5 hb.1 (by omega)]
        obtain⟨g,rfl⟩:∃g,f=g+1:=by
         cases f with
         |zero=>simp at b3;omega
         |succ g=>exact⟨g,rfl⟩
        rw[KQ,if_pos hc1,<-hm]at hf
        have b4:hi-lo<=2^g*2:=by rw[<-Int.pow_succ];exact b3
        refine⟨by decide,⟨by omega,by omega⟩,by decide,⟨by decide,by unfold Ka;omega,fun k hk=>Gm hk⟩,atG A den m,⟨Dp hAl,hok _ (by omega),by omega⟩,fun hd1=>?_,fun hd1=>?_⟩
        ·have hd1:t m=true:=by rw[ht];exact decide_eq_true hd1
         rw[if_pos hd1]at hf
         refine⟨(g,m,hi),⟨hf,by simp only;omega,by simp only;omega,b2,by simp only;omega⟩,by simp only;omega,?_⟩
         simp only[Yf]
         repeat' apply Yy
         all_goals first|decide|rfl| (intro k hk;exact P5 hk)
        ·have hd1:t m=false:=by rw[ht];exact decide_eq_false hd1
         rw[if_neg (by rw[hd1];decide)]at hf
         refine⟨(g,lo,m),⟨hf,by simp only;omega,by simp only;omega,by simp only;omega,by simp only;omega⟩,by simp only;omega,?_⟩
         simp only[Yf]
         repeat' apply Yy
         all_goals first|decide|rfl| (intro k hk;exact P5 hk)
       ·have hRlo:R=lo:=by
         cases f with
         |zero=>exact hf
         |succ g=>rw[hf,KQ,if_neg hc1]
        subst hRlo
        rw[B5 hb.1 (by omega)]
        exact⟨⟨by omega,by omega⟩,by decide,⟨by decide,by unfold Ka;omega,fun k hk=>Gm hk⟩,atG A den R,⟨Dp hAl,hok _ (by omega),by omega⟩,WX h⟩
    ·refine⟨hs1,.bool false,?_⟩
     dsimp only[CL,CP,v51,CK,CO,v50,CM,CN,signC,go_sem,reduceIte,Ya]
     simp only[Yd,Ya,Ye,reduceCtorEq,Yc]
     have hw:isG A den 1000000000001=true:=decide_eq_true hs1
     rw[G0,if_pos (by rw[hw];rfl)]at h
     refine⟨fun _=>WX h,fun hc=>?_⟩
     rw[decide_eq_true hs1]at hc
     cases hc
 ·exact h.1.elim
def Yel:VF:={ ntmps:=51,res:=[.cell 2 true 7,.tmp 3,.tmp 4],body:=
 (ZR [u1 1 .box [.tm 0],
 u1 2 (.alloc [(.int .i64 0),(.int .i64 0),(.int .i64 0),(.int .i64 0),(.int .i64 0),(.int .i64 0),(.int .i64 0)]) [],
 Zi 3 0,
 Zi 4 0]
 (ZR [Zt 11 7 1,
 Zc 12 82 11,
 Zm 10 12,
 Ze 13 0 10,
 Ze 14 1 10,
 Ze 15 2 10,
 Zm 5 13,
 Zm 6 14,
 Zm 4 15]
 (.seq (ZR [Zm 16 4,
 Zq 17 .neq 16 0]
 (ZC 17 (ZR [u1 18 (.build [(.int .i64 0),(.int .i64 0),(.int .i64 0),(.int .i64 0),(.int .i64 0),(.int .i64 0),(.int .i64 0)] []) [],
 Zm 19 4,
 Zs 7 2 18,
 Zi 3 0,
 Zm 4 19]
 .ret)
  .skip))
 (ZR [Zm 21 5,
 Zm 22 6,
 u1 23 (.call 31) [.tm 21,.tm 22,.cn (.int .i64 1)],
 Zm 20 23,
 Ze 24 0 20,
 Ze 25 1 20,
 Ze 26 2 20,
 Zm 7 24,
 Zm 8 25,
 Zm 9 26]
 (ZR [Za 27 0 1,
 u1 28 (.idxArr 6 1) [.tm 27,.cn (.int .i64 0)],
 Zf 29 1 28,
 Zm 30 7,
 Za 31 6 1,
 Zf 32 1 31,
 Zo 33 .mul 30 32,
 Zo 34 .sub 29 33,
 Za 35 0 1,
 u1 36 (.idxArr 6 1) [.tm 35,.cn (.int .i64 0)],
 Zs 1 36 34]
 (.seq (ZR [Za 38 0 1,
 Zt 39 6 38,
 Za 40 6 1,
 Zf 41 1 40,
 Zd 42 147 39 41,
 Zm 37 42,
 Ze 43 0 37,
 Ze 44 1 37,
 Zs 7 2 43,
 Zm 4 44]
 (ZR [Zm 45 4,
 Zq 46 .neq 45 0]
 (ZC 46 (ZR [u1 47 (.build [(.int .i64 0),(.int .i64 0),(.int .i64 0),(.int .i64 0),(.int .i64 0),(.int .i64 0),(.int .i64 0)] []) [],
 Zm 48 4,
 Zs 7 2 47,
 Zi 3 0,
 Zm 4 48]
 .ret)
  .skip)))
 (ZR [Zt 49 7 2,
 Zm 50 7,
 Zs 7 2 49,
 Zm 3 50,
 Zi 4 0]
 .ret)))))))}
theorem Ysh:Yn Yb Tryz.f144=some Yel:=by kernel_rfl
def YdX:VF:={ ntmps:=14,res:=[.cell 4 true 7],body:=
 (ZR [u1 4 (.alloc [(.int .i64 0),(.int .i64 0),(.int .i64 0),(.int .i64 0),(.int .i64 0),(.int .i64 0),(.int .i64 0)]) []]
 (ZR [Zm 8 0,
 Zm 9 1,
 Zd 10 141 8 9,
 Zm 7 10,
 Ze 11 0 7,
 Ze 12 1 7,
 u1 5 (.alloc [(.int .i64 0),(.int .i64 0),(.int .i64 0),(.int .i64 0),(.int .i64 0),(.int .i64 0),(.int .i64 0)]) [],
 Zs 7 5 11,
 Zm 6 12]
 (ZR [Zt 13 7 5,
 Zs 7 4 13]
 .ret)))}
theorem YrQ:Yn Yb Tryz.f116=some YdX:=by kernel_rfl
def Yd0:VF:={ ntmps:=14,res:=[.cell 4 true 7],body:=
 (ZR [u1 2 .box [.tm 0],
 u1 3 .box [.tm 1],
 u1 4 (.alloc [(.int .i64 0),(.int .i64 0),(.int .i64 0),(.int .i64 0),(.int .i64 0),(.int .i64 0),(.int .i64 0)]) []]
 (ZR [Zt 8 7 2,
 Zt 9 7 3,
 Zd 10 145 8 9,
 Zm 7 10,
 Ze 11 0 7,
 Ze 12 1 7,
 u1 5 (.alloc [(.int .i64 0),(.int .i64 0),(.int .i64 0),(.int .i64 0),(.int .i64 0),(.int .i64 0),(.int .i64 0)]) [],
 Zs 7 5 11,
 Zm 6 12]
 (ZR [Zt 13 7 5,
 Zs 7 4 13]
 .ret)))}
theorem YrT:Yn Yb Tryz.f119=some Yd0:=by kernel_rfl
def Yek:VF:={ ntmps:=14,res:=[.cell 4 true 7],body:=
 (ZR [u1 2 .box [.tm 0],
 u1 3 .box [.tm 1],
 u1 4 (.alloc [(.int .i64 0),(.int .i64 0),(.int .i64 0),(.int .i64 0),(.int .i64 0),(.int .i64 0),(.int .i64 0)]) []]
 (ZR [Zt 8 7 2,
 Zt 9 7 3,
 Zd 10 81 8 9,
 Zm 7 10,
 Ze 11 0 7,
 Ze 12 1 7,
 u1 5 (.alloc [(.int .i64 0),(.int .i64 0),(.int .i64 0),(.int .i64 0),(.int .i64 0),(.int .i64 0),(.int .i64 0)]) [],
 Zs 7 5 11,
 Zm 6 12]
 (ZR [Zt 13 7 5,
 Zs 7 4 13]
 .ret)))}
theorem Ysg:Yn Yb Tryz.f143=some Yek:=by kernel_rfl
def YdZ:VF:={ ntmps:=13,res:=[.cell 2 true 7],body:=
 (ZR [u1 1 .box [.tm 0],
 u1 2 (.alloc [(.int .i64 0),(.int .i64 0),(.int .i64 0),(.int .i64 0),(.int .i64 0),(.int .i64 0),(.int .i64 0)]) []]
 (ZR [Zt 7 7 1,
 Zc 8 144 7,
 Zm 6 8,
 Ze 9 0 6,
 Ze 10 1 6,
 Ze 11 2 6,
 u1 3 (.alloc [(.int .i64 0),(.int .i64 0),(.int .i64 0),(.int .i64 0),(.int .i64 0),(.int .i64 0),(.int .i64 0)]) [],
 Zs 7 3 9,
 Zm 4 10,
 Zm 5 11]
 (ZR [Zt 12 7 3,
 Zs 7 2 12]
 .ret)))}
theorem YrS:Yn Yb Tryz.f118=some YdZ:=by kernel_rfl
theorem Ex{t:Int->Bool}:∀(f:Nat)(a b:Int),a<b->a<=KQ f t a b/\KQ f t a b<b
 |0,a,b,h=>⟨Int.le_refl _,h⟩
 |f+1,a,b,h=>by
  rw[KQ]
  split
  ·split
   ·have:=Ex (t:=t) f (a+(b-a)/2) b (by omega);omega
   ·have:=Ex (t:=t) f a (a+(b-a)/2) (by omega);omega
  ·omega
theorem Ok(l:List (Int×Int))(den s:Int): -1000000000000<=(JG l den s).1/\(JG l den s).1<=1000000000000:=by
 unfold JG
 split
 ·simp only;omega
 ·split
  ·simp only;omega
  ·unfold G0
   split
   ·simp only;omega
   ·have:=Ex (t:=isG (l.map (Qp s)) den) 64 (-1000000000000) 1000000000001 (by decide)
    simp only
    omega
def WK(r:Rt)(k:Int):Rt:=⟨r.a-k*r.n,r.b,r.c,r.d,r.e,r.f,r.n⟩
def Jy(r:Rt):Rt×Int×Int:=
 if YY r≠0 then(KT,0,YY r)
 else if(Jr (WK r (JG (Ys r) r.n 1).1)).2≠0 then(KT,0,(Jr (WK r (JG (Ys r) r.n 1).1)).2)
 else((Jr (WK r (JG (Ys r) r.n 1).1)).1,(JG (Ys r) r.n 1).1,0)
def foldC:Ctr:={ alias:=false,of:=fun l=>match l with
 | [.agg [.int .i64 a,.int .i64 b,.int .i64 c,.int .i64 d,.int .i64 e,.int .i64 f,.int .i64 n]]=> .fin (.tup [.agg (Yp (Jy ⟨a,b,c,d,e,f,n⟩).1),.int .i64 (Jy ⟨a,b,c,d,e,f,n⟩).2.1,.int .i64 (Jy ⟨a,b,c,d,e,f,n⟩).2.2]) []
 |_=>noC}
theorem FZ{k:SV->List HO->Prop}{al:Bool}{hp:List HO}{r:Rt}{o e:Int}(h:k (.tup [.agg (Yp r),.int .i64 o,.int .i64 e]) []):Jv al k (.tup [.agg (Yp r),.int .i64 o,.int .i64 e]) hp:=
 Ky (show k _ []from h) (Jq (.tup [.agg (Yp r),.int .i64 o,.int .i64 e]) ⟨⟨trivial,trivial,trivial,trivial,trivial,trivial,trivial,trivial⟩,trivial,trivial,trivial⟩) (fun _=>by simp [Y0,Y4,Yp])
def TF0:Env:={ ct:=fun n=>match n with|82=>some trmC|31=>some flrC|147=>some madeC|_=>none,fn:=fun _=>none,meth:=fun _ _=>none}
theorem CS:TF0.ct 82=some trmC:=rfl
theorem CR:TF0.ct 31=some flrC:=rfl
theorem CQ:TF0.ct 147=some madeC:=rfl
theorem YgB:YE Yb TF0:=by
 refine⟨fun f c h=>?_,fun f vf h=>?_,(fun _ _ _ h=>by cases h),by kernel_rfl,(fun _ h=>by cases h)⟩
 ·simp only[TF0]at h
  split at h
  ·cases h;exact⟨YdD,_,Tryz.func82,rfl,rfl⟩
  ·cases h;exact⟨Ol,_,Tryz.func31,rfl,rfl⟩
  ·cases h;exact⟨L3,_,Tryz.func147,rfl,rfl⟩
  ·cases h
 ·cases h
theorem Yj6:foldC.ok Yb 144:=by
 refine Yv Tryz.func144 Ysh YgB 300 foldC fun args k h=>?_
 simp only[foldC]at h
 split at h
 ·rename_i a b c d e f n
  refine⟨[.agg [.int .i64 a,.int .i64 b,.int .i64 c,.int .i64 d,.int .i64 e,.int .i64 f,.int .i64 n]],by simp [leL,le],?_⟩
  obtain⟨r,hr⟩:∃r:Rt,r=⟨a,b,c,d,e,f,n⟩:=⟨_,rfl⟩
  rw[<-hr]at h
  rw[show a=r.a by rw[hr],show b=r.b by rw[hr],show c=r.c by rw[hr],show d=r.d by rw[hr],show e=r.e by rw[hr],show f=r.f by rw[hr],show n=r.n by rw[hr]]
  clear hr
  have h:k (.tup [.agg (Yp (Jy r).1),.int .i64 (Jy r).2.1,.int .i64 (Jy r).2.2]) []:=h
  dsimp only[Yel,CS,CR,CQ,trmC,flrC,madeC,Yp,go_sem,reduceIte,Ya]
  simp only[Yd,Ya,Ye,reduceCtorEq,Yc]
  rw[show Rt.mk r.a r.b r.c r.d r.e r.f r.n=r from rfl]
  by_cases hc:YY r=0
  ·rw[if_neg (by rw[hc];decide)]
   rw[Jy,if_neg (by rw[hc];decide)]at h
   dsimp only[CS,CR,CQ,trmC,flrC,madeC,Yp,go_sem,reduceIte,Ya]
   simp only[Yd,Ya,Ye,reduceCtorEq,Yc]
   have hk:=Ok (Ys r) r.n 1
   have hn:=ZU hc
   have ha:=Z2 hc (i:=0) (by decide)
   simp only[Rt.num]at ha
   have hm:=Js (x:=(JG (Ys r) r.n 1).1) (y:=r.n) (X:=1000000000000) (Y:=1000) hk (by omega)
   refine fun y=>⟨by decide,by decide,by decide,fun hh=>absurd trivial hh,Ys r,⟨⟨rfl,rfl,fun q _=>Y1 _⟩,by have:=V0 r;omega⟩,?_⟩
   rw[Yg ((JG (Ys r) r.n 1).1*r.n) (by omega),Yg (r.a-(JG (Ys r) r.n 1).1*r.n) (by omega)]
   refine⟨by decide,by decide,by decide,by decide,by decide,⟨by omega,by omega,fun i hi=>?_⟩,by decide,by decide,fun he=>?_,fun he=>?_⟩
   ·have:=Z2 hc hi
    rcases six hi with rfl|rfl|rfl|rfl|rfl|rfl <;> (simp only[Rt.num]at this⊢;omega)
   ·rw[if_pos (show(Jr (WK r (JG (Ys r) r.n 1).1)).2≠0 from he)]at h
    exact FZ (r:=KT) h
   ·rw[if_neg (show¬(Jr (WK r (JG (Ys r) r.n 1).1)).2≠0 from fun hh=>hh he)]at h
    exact(FZ (r:=(Jr (WK r (JG (Ys r) r.n 1).1)).1) h)
  ·rw[if_pos hc]
   rw[Jy,if_pos hc]at h
   dsimp only[CS,CR,CQ,trmC,flrC,madeC,Yp,go_sem,reduceIte,Ya]
   simp only[Yd,Ya,Ye,reduceCtorEq,Yc]
   exact⟨by decide,by decide,by decide,fun _=>FZ (r:=KT) h,fun hh=>absurd hh hc⟩
 ·exact h.1.elim
def H2:Ctr:=Ji 1
def Wo:Ctr:=Ji (-1)
def wholeC:Ctr:={ alias:=false,of:=fun l=>match l with
 | [.int .i64 a,.int .i64 b]=> .fin (.agg (Yp (KP a b).1)) []
 |_=>noC}
def m2C(s:Int):Ctr:={ alias:=false,of:=fun l=>match l with
 | [.agg [.int .i64 a,.int .i64 b,.int .i64 c,.int .i64 d,.int .i64 e,.int .i64 f,.int .i64 n],.agg [.int .i64 a',.int .i64 b',.int .i64 c',.int .i64 d',.int .i64 e',.int .i64 f',.int .i64 n']]=>
   .fin (.agg (Yp (KG ⟨a,b,c,d,e,f,n⟩ ⟨a',b',c',d',e',f',n'⟩ s).1)) []
 |_=>noC}
def folC:Ctr:={ alias:=false,of:=fun l=>match l with
 | [.agg [.int .i64 a,.int .i64 b,.int .i64 c,.int .i64 d,.int .i64 e,.int .i64 f,.int .i64 n]]=> .fin (.agg (Yp (Jy ⟨a,b,c,d,e,f,n⟩).1)) []
 |_=>noC}
def TF1:Env:={ ct:=fun n=>match n with|141=>some ofRC|145=>some H2|81=>some Wo|144=>some foldC|_=>none,fn:=fun _=>none,meth:=fun _ _=>none}
theorem N4:TF1.ct 141=some ofRC:=rfl
theorem N6:TF1.ct 145=some H2:=rfl
theorem N7:TF1.ct 81=some Wo:=rfl
theorem N5:TF1.ct 144=some foldC:=rfl
theorem N8:YE Yb TF1:=by
 refine⟨fun f c h=>?_,fun f vf h=>?_,(fun _ _ _ h=>by cases h),by kernel_rfl,(fun _ h=>by cases h)⟩
 ·simp only[TF1]at h
  split at h
  ·cases h;exact⟨of_c,_,Tryz.func141,rfl,rfl⟩
  ·cases h;exact⟨YmR,_,Tryz.func145,rfl,rfl⟩
  ·cases h;exact⟨IB,_,Tryz.func81,rfl,rfl⟩
  ·cases h;exact⟨Yj6,_,Tryz.func144,rfl,rfl⟩
  ·cases h
 ·cases h
theorem YeM:wholeC.ok Yb 116:=by
 refine Yv Tryz.func116 YrQ N8 300 wholeC fun args k h=>?_
 simp only[wholeC]at h
 split at h
 ·rename_i a b
  refine⟨[.int .i64 a,.int .i64 b],by simp [leL,le],?_⟩
  dsimp only[YdX,N4,N6,N7,N5,ofRC,H2,Wo,Ji,foldC,Yp,go_sem,reduceIte,Ya]
  simp only[Yd,Ya,Ye,reduceCtorEq,Yc]
  exact⟨by decide,by decide,Vu (r:=(KP a b).1) h⟩
 ·exact h.1.elim
theorem Om:folC.ok Yb 118:=by
 refine Yv Tryz.func118 YrS N8 300 folC fun args k h=>?_
 simp only[folC]at h
 split at h
 ·rename_i a b c d e f n
  refine⟨[.agg [.int .i64 a,.int .i64 b,.int .i64 c,.int .i64 d,.int .i64 e,.int .i64 f,.int .i64 n]],by simp [leL,le],?_⟩
  dsimp only[YdZ,N4,N6,N7,N5,ofRC,H2,Wo,Ji,foldC,Yp,go_sem,reduceIte,Ya]
  simp only[Yd,Ya,Ye,reduceCtorEq,Yc]
  exact⟨by decide,by decide,by decide,Vu (r:=(Jy ⟨a,b,c,d,e,f,n⟩).1) h⟩
 ·exact h.1.elim
theorem YdC:(m2C 1).ok Yb 119:=by
 refine Yv Tryz.func119 YrT N8 300 (m2C 1) fun args k h=>?_
 simp only[m2C]at h
 split at h
 ·rename_i a b c d e f n a' b' c' d' e' f' n'
  refine⟨[.agg [.int .i64 a,.int .i64 b,.int .i64 c,.int .i64 d,.int .i64 e,.int .i64 f,.int .i64 n],.agg [.int .i64 a',.int .i64 b',.int .i64 c',.int .i64 d',.int .i64 e',.int .i64 f',.int .i64 n']],by simp [leL,le],?_⟩
  dsimp only[Yd0,N4,N6,N7,N5,ofRC,H2,Wo,Ji,foldC,Yp,go_sem,reduceIte,Ya]
  simp only[Yd,Ya,Ye,reduceCtorEq,Yc]
  exact⟨by decide,by decide,Vu (r:=(KG ⟨a,b,c,d,e,f,n⟩ ⟨a',b',c',d',e',f',n'⟩ 1).1) h⟩
 ·exact h.1.elim
theorem YnN:(m2C (-1)).ok Yb 143:=by
 refine Yv Tryz.func143 Ysg N8 300 (m2C (-1)) fun args k h=>?_
 simp only[m2C]at h
 split at h
 ·rename_i a b c d e f n a' b' c' d' e' f' n'
  refine⟨[.agg [.int .i64 a,.int .i64 b,.int .i64 c,.int .i64 d,.int .i64 e,.int .i64 f,.int .i64 n],.agg [.int .i64 a',.int .i64 b',.int .i64 c',.int .i64 d',.int .i64 e',.int .i64 f',.int .i64 n']],by simp [leL,le],?_⟩
  dsimp only[Yek,N4,N6,N7,N5,ofRC,H2,Wo,Ji,foldC,Yp,go_sem,reduceIte,Ya]
  simp only[Yd,Ya,Ye,reduceCtorEq,Yc]
  exact⟨by decide,by decide,Vu (r:=(KG ⟨a,b,c,d,e,f,n⟩ ⟨a',b',c',d',e',f',n'⟩ (-1)).1) h⟩
 ·exact h.1.elim
def ZW(c:Int):Bool:=(decide (97<=c)&&decide (c<=122)) || (decide (65<=c)&&decide (c<=90))
def VA(c:Int):Bool:=decide (48<=c)&&decide (c<=57)
def okB(b:ByteArray)(i:Nat):Bool:=ZW (Jf b i) || (decide (i≠0)&&(decide (Jf b i=95) || VA (Jf b i)))
def Xz(b:ByteArray):Bool:=decide (1<=b.size)&&decide (b.size<=16)&&(List.range b.size).all (okB b)
theorem Ybf(b:ByteArray)(i:Nat):(!ZW (Jf b i)&&(decide ((i:Int)=0) || !decide (Jf b i=95)&& !VA (Jf b i)))= !okB b i:=by
 unfold okB
 have e:decide ((i:Int)=0)=decide (i=0):=decide_eq_decide.2 (by omega)
 rw[e,decide_not]
 cases ZW (Jf b i) <;> cases decide (i=0) <;> cases decide (Jf b i=95) <;> cases VA (Jf b i) <;> rfl
theorem Ybd{b:ByteArray}(h:∀j,j<b.size->okB b j=true):(List.range b.size).all (okB b)=true:=by
 rw[Vn];intro j hj;exact h j (List.mem_range.1 hj)
theorem Ybe{b:ByteArray}{i:Nat}(hi:i<b.size)(h:okB b i=false):(List.range b.size).all (okB b)=false:=by
 rw[List.all_eq_false];exact⟨i,List.mem_range.2 hi,by simp [h]⟩
theorem YaS{b:ByteArray}{i:Nat}(hi:i<b.size)(h:okB b i=false):Xz b=false:=by
 unfold Xz;rw[Ybe hi h,Bool.and_false]
theorem Ym0{b:ByteArray}(h:∀j,j<b.size->okB b j=true):Xz b=(decide (1<=(b.size:Int))&&decide ((b.size:Int)<=16)):=by
 unfold Xz
 rw[Ybd h,Bool.and_true,show decide (1<=(b.size:Int))=decide (1<=b.size)from decide_eq_decide.2 (by omega),show decide ((b.size:Int)<=16)=decide (b.size<=16)from decide_eq_decide.2 (by omega)]
def okR(b:ByteArray)(i:Nat):Bool:=ZW (Jf b i) || (VA (Jf b i) || decide (Jf b i=95))
theorem Yqh{b:ByteArray}(h:(decide ((b.size:Int)<1) || decide (16<(b.size:Int)) || !ZW (Jf b 0))=true):Xz b=false:=by
 unfold Xz
 by_cases h1:1<=b.size
 ·by_cases h2:b.size<=16
  ·have h3:ZW (Jf b 0)=false:=by
    rw[show decide ((b.size:Int)<1)=false from decide_eq_false (by omega),show decide (16<(b.size:Int))=false from decide_eq_false (by omega)]at h
    simpa using h
   rw[Ybe (i:=0) (by omega) (by simp [okB,h3]),Bool.and_false]
  ·rw[decide_eq_false h2,Bool.and_false,Bool.false_and]
 ·rw[decide_eq_false h1];rfl
theorem Yqi{b:ByteArray}{i:Nat}(hi:i<b.size)(h:okR b i=false):Xz b=false:=by
 refine YaS hi ?_
 unfold okR at h
 unfold okB
 simp only[JH]at h
 rw[h.1,h.2.1,h.2.2]
 simp
theorem Yqk{b:ByteArray}(h:(decide ((b.size:Int)<1) || decide (16<(b.size:Int)) || !ZW (Jf b 0))=false)(ha:∀j,j<b.size->okR b j=true):Xz b=true:=by
 simp only[JH,decide_eq_false_iff_not,Bool.not_eq_false']at h
 obtain⟨⟨h1,h2⟩,h3⟩:=h
 unfold Xz
 rw[decide_eq_true (by omega),decide_eq_true (by omega),Ybd fun j hj=>?_];rfl
 have:=ha j hj
 unfold okR at this
 unfold okB
 by_cases hj0:j=0
 ·subst hj0;rw[h3];rfl
 ·rw[decide_eq_true hj0,Bool.true_and]
  revert this
  cases ZW (Jf b j) <;> cases VA (Jf b j) <;> cases decide (Jf b j=95) <;> simp
theorem Ybh(b:ByteArray)(i:Nat):(!ZW (Jf b i)&& !VA (Jf b i)&& !decide (Jf b i=95))= !okR b i:=by
 unfold okR
 cases ZW (Jf b i) <;> cases decide (Jf b i=95) <;> cases VA (Jf b i) <;> rfl
theorem EC(b:ByteArray)(i:Nat):0<=Jf b i/\Jf b i<=255:=by
 unfold Jf
 have h:=UInt8.toNat_lt (b.data.toList.getD i 0)
 omega
set_option maxRecDepth 100000 in
theorem Ymk{c:Int}(h0:0<=c)(h1:c<=255):(decide (97<=Jw .or .u8 c 32)&&decide (Jw .or .u8 c 32<=122))=ZW c:=by
 have key:∀n:Fin 256,(decide (97<=Jw .or .u8 ((n.val:Nat):Int) 32)&&decide (Jw .or .u8 ((n.val:Nat):Int) 32<=122))=ZW ((n.val:Nat):Int):=by decide
 have:=key ⟨c.toNat,by omega⟩
 have e:((c.toNat:Nat):Int)=c:=by omega
 simp only[e]at this
 exact this
def Yeg:VF:={ ntmps:=11,res:=[.tmp 2],body:=
 (ZR [u1 2 .mov [.cn (.bool false)]]
 (ZR [Zm 3 0,
 u1 4 (.bit .or) [.tm 3,.cn (.int .u8 32)],
 u1 5 (.cmp .geq) [.tm 4,.cn (.int .u8 97)],
 Zm 6 5,
 Zg 7 6 true 0,
 u2 8 6 true (.bit .or) [.tm 7,.cn (.int .u8 32)],
 u2 9 6 true (.cmp .leq) [.tm 8,.cn (.int .u8 122)],
 u1 10 .and [.tm 6,.tm 9],
 Zm 2 10]
 .ret))}
theorem Ysb:Yn Yb Tryz.f139=some Yeg:=by kernel_rfl
def Yeh:VF:={ ntmps:=9,res:=[.tmp 2],body:=
 (ZR [u1 2 .mov [.cn (.bool false)]]
 (ZR [Zm 3 0,
 u1 4 (.cmp .geq) [.tm 3,.cn (.int .u8 48)],
 Zm 5 4,
 Zg 6 5 true 0,
 u2 7 5 true (.cmp .leq) [.tm 6,.cn (.int .u8 57)],
 u1 8 .and [.tm 5,.tm 7],
 Zm 2 8]
 .ret))}
theorem Ysd:Yn Yb Tryz.f140=some Yeh:=by kernel_rfl
def v97:VF:=⟨17,[.tmp 2],(ZR [u1 2 .mov [.cn (.bool false)]] (ZR [Zm 3 0,u1 4 (.cmp .geq) [.tm 3,.cn (.int .u8 97)],Zm 5 4,Zg 6 5 true 0,u2 7 5 true (.cmp .leq) [.tm 6,.cn (.int .u8 122)],u1 8 .and [.tm 5,.tm 7],Zm 9 8,Zg 10 9 false 0,u2 11 9 false (.cmp .geq) [.tm 10,.cn (.int .u8 65)],Zg 12 9 false 11,Zg 13 12 true 0,u2 14 12 true (.cmp .leq) [.tm 13,.cn (.int .u8 90)],u2 15 9 false .and [.tm 12,.tm 14],u1 16 .or [.tm 9,.tm 15],Zm 2 16] .ret))⟩
theorem YtM:Yn Yb Tryz.f97=some v97:=by kernel_rfl
def v98:VF:=⟨9,[.tmp 2],(ZR [u1 2 .mov [.cn (.bool false)]] (ZR [Zm 3 0,u1 4 (.cmp .geq) [.tm 3,.cn (.int .u8 48)],Zm 5 4,Zg 6 5 true 0,u2 7 5 true (.cmp .leq) [.tm 6,.cn (.int .u8 57)],u1 8 .and [.tm 5,.tm 7],Zm 2 8] .ret))⟩
theorem YtN:Yn Yb Tryz.f98=some v98:=by kernel_rfl
def YdW:VF:={ ntmps:=38,res:=[.tmp 2],body:=
 (ZR [u1 2 .mov [.cn (.bool false)]]
 (.seq (ZR [Zm 5 0,
 u1 6 .lenStr [.tm 5],
 Zi 7 0]
 (.block 0 (.loop (ZR [Zr 8 .lss 7 6]
 (.seq (ZC 8 .skip
  (.exit 0))
 (.seq (.block 1 (ZR [Zm 9 7,
 Zm 3 9]
 (ZR [Zm 10 0,
 Zm 11 3,
 u1 12 .idxStr [.tm 10,.tm 11],
 Zm 4 12]
 (ZR [Zm 13 4,
 Zc 14 139 13,
 u1 15 .not [.tm 14],
 Zm 16 15,
 Zg 17 16 true 3,
 u2 18 16 true (.cmp .eql) [.tm 17,.cn (.int .i64 0)],
 Zg 19 16 true 18,
 Zg 20 19 false 4,
 u2 21 19 false (.cmp .neq) [.tm 20,.cn (.int .u8 95)],
 Zg 22 19 false 21,
 Zg 23 22 true 4,
 u2 24 22 true (.call 140) [.tm 23],
 u2 25 22 true .not [.tm 24],
 u2 26 19 false .and [.tm 22,.tm 25],
 u2 27 16 true .or [.tm 19,.tm 26],
 u1 28 .and [.tm 16,.tm 27]]
 (ZC 28 (ZR [u1 2 .mov [.cn (.bool false)]]
 .ret)
  .skip)))))
 (.region [Zp 29 7 1,
 Zm 7 29])))))))
 (ZR [Zm 30 0,
 u1 31 .lenStr [.tm 30],
 Zq 32 .geq 31 1,
 Zm 33 32,
 Zg 34 33 true 0,
 u2 35 33 true .lenStr [.tm 34],
 u2 36 33 true (.cmp .leq) [.tm 35,.cn (.int .i64 16)],
 u1 37 .and [.tm 33,.tm 36],
 Zm 2 37]
 .ret)))}
theorem YrP:Yn Yb Tryz.f115=some YdW:=by kernel_rfl
def v60:VF:=⟨42,[.tmp 2],(ZR [u1 2 .mov [.cn (.bool false)]] (.seq (ZR [Zm 4 0,u1 5 .lenStr [.tm 4],Zq 6 .lss 5 1,Zm 7 6,Zg 8 7 false 0,u2 9 7 false .lenStr [.tm 8],u2 10 7 false (.cmp .gtr) [.tm 9,.cn (.int .i64 16)],u1 11 .or [.tm 7,.tm 10],Zm 12 11,Zg 13 12 false 0,u2 14 12 false .idxStr [.tm 13,.cn (.int .i64 0)],u2 15 12 false (.call 97) [.tm 14],u2 16 12 false .not [.tm 15],u1 17 .or [.tm 12,.tm 16]] (ZC 17 (ZR [u1 2 .mov [.cn (.bool false)]] .ret) .skip)) (.seq (ZR [Zi 3 0] (.block 0 (.loop (.seq (ZR [Zm 18 3,Zm 19 0,u1 20 .lenStr [.tm 19],Zr 21 .lss 18 20] (ZC 21 .skip (.exit 0))) (.seq (.block 1 (ZR [Zm 24 0,Zm 25 3,u1 26 .idxStr [.tm 24,.tm 25],Zc 27 97 26,u1 28 .not [.tm 27],Zm 29 28,Zg 30 29 true 0,Zg 31 29 true 3,u2 32 29 true .idxStr [.tm 30,.tm 31],u2 33 29 true (.call 98) [.tm 32],u2 34 29 true .not [.tm 33],u1 35 .and [.tm 29,.tm 34],Zm 36 35,Zg 37 36 true 0,Zg 38 36 true 3,u2 39 36 true .idxStr [.tm 37,.tm 38],u2 40 36 true (.cmp .neq) [.tm 39,.cn (.int .u8 95)],u1 41 .and [.tm 36,.tm 40]] (ZC 41 (ZR [u1 2 .mov [.cn (.bool false)]] .ret) .skip))) (.region [Zm 22 3,Zp 23 22 1,Zm 3 23])))))) (ZR [u1 2 .mov [.cn (.bool true)]] .ret))))⟩
theorem Ytc:Yn Yb Tryz.f60=some v60:=by kernel_rfl
def letC:Ctr:={ alias:=false,of:=fun l=>match l with
 | [.int .u8 c]=> .pre (0<=c/\c<=255) (.fin (.bool (ZW c)) [])
 |_=>noC}
def digC:Ctr:={ alias:=false,of:=fun l=>match l with
 | [.int .u8 c]=> .fin (.bool (VA c)) []
 |_=>noC}
def NM0:Env:={ ct:=fun _=>none,fn:=fun _=>none,meth:=fun _ _=>none}
theorem NV:YE Yb NM0:=by
 refine⟨fun f c h=>?_,fun f vf h=>?_,(fun _ _ _ h=>by cases h),by kernel_rfl,(fun _ h=>by cases h)⟩
 ·cases h
 ·cases h
theorem Ymj:letC.ok Yb 139:=by
 refine Yv Tryz.func139 Ysb NV 100 letC fun args k h=>⟨args,?_⟩
 simp only[letC]at h
 split at h
 ·refine⟨by simp [leL,le],?_⟩
  dsimp only[Yeg,go_sem,reduceIte,Ya]
  simp only[Yd,Ya,Ye,reduceCtorEq,Yc]
  obtain⟨⟨h0,h1⟩,h⟩:=h
  have h:k _ []:=h
  rw[<-Ymk h0 h1]at h
  exact Qi h
 ·exact h.1.elim
theorem Yjh:digC.ok Yb 140:=by
 refine Yv Tryz.func140 Ysd NV 100 digC fun args k h=>⟨args,?_⟩
 simp only[digC]at h
 split at h
 ·refine⟨by simp [leL,le],?_⟩
  dsimp only[Yeh,go_sem,reduceIte,Ya]
  simp only[Yd,Ya,Ye,reduceCtorEq,Yc]
  have h:k _ []:=h
  unfold VA at h
  exact Qi h
 ·exact h.1.elim
theorem Yqg:letC.ok Yb 97:=by
 refine Yv Tryz.func97 YtM NV 100 letC fun args k h=>⟨args,?_⟩
 simp only[letC]at h
 split at h
 ·refine⟨by simp [leL,le],?_⟩
  dsimp only[v97,go_sem,reduceIte,Ya]
  simp only[Yd,Ya,Ye,reduceCtorEq,Yc]
  obtain⟨⟨h0,h1⟩,h⟩:=h
  have h:k _ []:=h
  unfold ZW at h
  exact⟨fun a b=>by rw[a,decide_eq_true b];rfl,Qi h⟩
 ·exact h.1.elim
theorem YpZ:digC.ok Yb 98:=by
 refine Yv Tryz.func98 YtN NV 100 digC fun args k h=>⟨args,?_⟩
 simp only[digC]at h
 split at h
 ·refine⟨by simp [leL,le],?_⟩
  dsimp only[v98,go_sem,reduceIte,Ya]
  simp only[Yd,Ya,Ye,reduceCtorEq,Yc]
  have h:k _ []:=h
  unfold VA at h
  exact Qi h
 ·exact h.1.elim
def nameC:Ctr:={ alias:=false,of:=fun l=>match l with
 | [.val (.string b)]=> .pre (b.size<=9223372036854775807) (.fin (.bool (Xz b)) [])
 |_=>noC}
def NM1:Env:={ ct:=fun n=>match n with|139=>some letC|140=>some digC|_=>none,fn:=fun _=>none,meth:=fun _ _=>none}
theorem Yfa:NM1.ct 139=some letC:=rfl
theorem Yfb:NM1.ct 140=some digC:=rfl
theorem Yfc:YE Yb NM1:=by
 refine⟨fun f c h=>?_,fun f vf h=>?_,(fun _ _ _ h=>by cases h),by kernel_rfl,(fun _ h=>by cases h)⟩
 ·simp only[NM1]at h
  split at h
  ·cases h;exact⟨Ymj,_,Tryz.func139,rfl,rfl⟩
  ·cases h;exact⟨Yjh,_,Tryz.func140,rfl,rfl⟩
  ·cases h
 ·cases h
theorem YmZ:nameC.ok Yb 115:=by
 refine Yv Tryz.func115 YrP Yfc 200 nameC fun args k h=>⟨args,?_⟩
 simp only[nameC]at h
 split at h
 ·rename_i b
  refine⟨by simp [leL,le,bnd],?_⟩
  obtain⟨hb,h⟩:=h
  have h:k _ []:=h
  dsimp only[YdW,go_sem,reduceIte,Ya]
  simp only[Yd,Ya,Ye,reduceCtorEq,Yc]
  refine Loop.keep [0,4,0,0] Nat (fun i=>[(7,.int .i64 i)]) (fun _=>[]) [] (fun i=>i<=b.size/\∀j,j<i->okB b j=true) (fun i=>b.size-i) ?_ ?_
  ·refine⟨0,⟨JP _,fun j h=>by omega⟩,?_⟩
   dsimp only[go_sem,reduceIte,Ya]
   simp only[Yf]
   simp
  ·rintro i ⟨hi,ha⟩
   dsimp only[Yfa,Yfb,letC,digC,go_sem,reduceIte,Ya]
   simp only[Yd,Ya,Ye,reduceCtorEq,Yc,Yh]
   refine⟨fun hlt=>⟨⟨by omega,hlt⟩,EC b i,fun a c=>by rw[a,decide_eq_false c];rfl,fun a c=>by rw[a,decide_eq_false c];rfl,fun hc=>?_,fun hc=>?_⟩,fun hge=>?_⟩
   ·rw[Ybf]at hc
    rw[YaS (by omega:i<b.size) (by simpa using hc)]at h
    exact Qi h
   ·rw[Ybf]at hc
    refine⟨i+1,⟨by omega,fun j hj=>?_⟩,by omega,?_⟩
    ·rcases YV j i with h'|h'
     ·exact ha j h'
     ·obtain rfl:j=i:=by omega
      simpa using hc
    ·simp only[Yf]
     exact NO (by omega:i<b.size) (by omega)
   ·obtain rfl:i=b.size:=by omega
    rw[Ym0 ha]at h
    exact Qi h
 ·exact h.1.elim
def NM2:Env:={ ct:=fun n=>match n with|97=>some letC|98=>some digC|_=>none,fn:=fun _=>none,meth:=fun _ _=>none}
theorem RU:NM2.ct 97=some letC:=rfl
theorem RV:NM2.ct 98=some digC:=rfl
theorem Yfd:YE Yb NM2:=by
 refine⟨fun f c h=>?_,fun f vf h=>?_,(fun _ _ _ h=>by cases h),by kernel_rfl,(fun _ h=>by cases h)⟩
 ·simp only[NM2]at h
  split at h
  ·cases h;exact⟨Yqg,_,Tryz.func97,rfl,rfl⟩
  ·cases h;exact⟨YpZ,_,Tryz.func98,rfl,rfl⟩
  ·cases h
 ·cases h
theorem Yqj:nameC.ok Yb 60:=by
 refine Yv Tryz.func60 Ytc Yfd 200 nameC fun args k h=>⟨args,?_⟩
 simp only[nameC]at h
 split at h
 ·rename_i b
  refine⟨by simp [leL,le,bnd],?_⟩
  obtain⟨hb,h⟩:=h
  have h:k _ []:=h
  dsimp only[v60,RU,RV,letC,digC,go_sem,reduceIte,Ya]
  simp only[Yd,Ya,Ye,reduceCtorEq,Yc,show Xi 0=0 from rfl]
  have hpos:(decide ((b.size:Int)<1) || decide (16<(b.size:Int)))=false->0<(b.size:Int):=fun h=>by
   simp only[JH,decide_eq_false_iff_not]at h;omega
  refine⟨fun h=>⟨by omega,hpos h⟩,fun _=>EC b 0,fun hc=>?_,fun hc=>?_⟩
  ·rw[Yqh hc]at h;exact Qi h
  refine Loop.keep [0,2] Nat (fun i=>[(3,.int .i64 i)]) (fun _=>[]) [] (fun i=>i<=b.size/\∀j,j<i->okR b j=true) (fun i=>b.size-i) ?_ ?_
  ·refine⟨0,⟨JP _,fun j h=>by omega⟩,?_⟩
   dsimp only[go_sem,reduceIte,Ya]
   simp only[Yf]
   simp
  ·rintro i ⟨hi,ha⟩
   dsimp only[RU,RV,letC,digC,go_sem,reduceIte,Ya]
   simp only[Yd,Ya,Ye,reduceCtorEq,Yc,Yh]
   refine⟨fun hlt=>⟨⟨by omega,hlt⟩,EC b i,fun _=>⟨by omega,hlt⟩,fun _=>⟨by omega,hlt⟩,fun hc2=>?_,fun hc2=>?_⟩,fun hge=>?_⟩
   ·rw[Ybh]at hc2
    rw[Yqi (by omega:i<b.size) (by simpa using hc2)]at h
    exact Qi h
   ·rw[Ybh]at hc2
    refine⟨i+1,⟨by omega,fun j hj=>?_⟩,by omega,?_⟩
    ·rcases YV j i with h'|h'
     ·exact ha j h'
     ·obtain rfl:j=i:=by omega
      simpa using hc2
    ·simp only[Yf]
     exact NO (by omega:i<b.size) (by omega)
   ·obtain rfl:i=b.size:=by omega
    rw[Yqk hc ha]at h
    exact Qi h
 ·exact h.1.elim
def YdV:VF:={ ntmps:=12,res:=[.tmp 4],body:=
 (ZR [Zi 4 0]
 (.seq (.block 0 (.loop (.seq (ZR [Zm 5 1,
 Zq 6 .neq 5 0]
 (ZC 6 .skip
  (.exit 0)))
 (.block 1 (.draw [] [Zu 7 1,
 Zu 8 0,
 Zu 9 1,
 w1 10 .rem [.tm 8,.tm 9],
 Zu 0 7,
 Zu 1 10])))))
 (ZR [Zm 11 0,
 Zm 4 11]
 .ret)))}
theorem YrO:Yn Yb Tryz.f114=some YdV:=by kernel_rfl
def v79:VF:=⟨90,[.tmp 2],(ZR [u1 1 .box [.tm 0],Zi 2 0] (.seq (ZR [Za 7 2 1,Zf 8 1 7,Zq 9 .lss 8 0,Zm 10 9,Zj 11 10 false 2 1,Zh 12 10 false 1 11,u2 13 10 false (.cmp .gtr) [.tm 12,.cn (.int .i64 11)],u1 14 .or [.tm 10,.tm 13]] (ZC 14 (ZR [Zi 2 2] .ret) .skip)) (ZR [u1 3 .mov [.cn (.bool true)],Zi 4 1] (.seq (ZR [Za 15 3 1,Zt 16 24 15,Zi 17 0] (.block 0 (.loop (ZR [Zq 18 .lss 17 12] (.seq (ZC 18 .skip (.exit 0)) (.seq (.block 1 (ZR [u1 19 (.index true 12 2) [.tm 16,.tm 17],Zn 6,Zs 2 6 19] (.seq (ZR [Za 20 1 6,Zf 21 1 20,Zq 22 .lss 21 1,Zm 23 22,Zj 24 23 false 1 6,Zh 25 23 false 1 24,u2 26 23 false (.cmp .gtr) [.tm 25,.cn (.int .i64 24)],u1 27 .or [.tm 23,.tm 26],Zm 28 27,Zj 29 28 false 0 6,Zh 30 28 false 1 29,Zj 31 28 false 1 6,Zh 32 28 false 1 31,u2 33 28 false (.ari .mul) [.cn (.int .i64 (-2)),.tm 32],u2 34 28 false (.cmp .lss) [.tm 30,.tm 33],u1 35 .or [.tm 28,.tm 34],Zm 36 35,Zj 37 36 false 0 6,Zh 38 36 false 1 37,Zj 39 36 false 1 6,Zh 40 36 false 1 39,u2 41 36 false (.ari .mul) [.cn (.int .i64 2),.tm 40],u2 42 36 false (.cmp .gtr) [.tm 38,.tm 41],u1 43 .or [.tm 36,.tm 42]] (ZC 43 (ZR [Zi 2 2] .ret) .skip)) (ZR [Zm 44 3,Zm 45 44,Zj 46 45 true 0 6,Zh 47 45 true 1 46,Zj 48 45 true 0 6,Zh 49 45 true 1 48,u2 50 45 true .neg [.tm 49],u2 51 45 true .max [.tm 47,.tm 50],Zj 52 45 true 1 6,Zh 53 45 true 1 52,u2 54 45 true (.call 114) [.tm 51,.tm 53],u2 55 45 true (.cmp .eql) [.tm 54,.cn (.int .i64 1)],u1 56 .and [.tm 45,.tm 55],Zm 3 56] (ZR [Zm 57 4,Zq 58 .leq 57 120] (ZC 58 (.draw [] [Zu 59 4,Zu 60 4,Zy 61 1 6,Zv 62 1 61,Zy 65 1 6,Zv 66 1 65,Zz 63 114 60 62,w1 64 .quo [.tm 59,.tm 63],w1 67 (.ari .mul) [.tm 64,.tm 66],Zu 4 67]) .skip)))))) (.region [Zp 68 17 1,Zm 17 68]))))))) (.seq (.block 2 (ZR [Za 70 0 1,Zf 71 1 70,Zc 72 115 71,u1 73 .not [.tm 72],Zm 74 73,Zg 75 74 false 3,u2 76 74 false .not [.tm 75],u1 77 .or [.tm 74,.tm 76],Zm 78 77,Zj 79 78 false 2 1,Zh 80 78 false 1 79,Zj 81 78 false 3 1,u2 82 78 false (.idxArr 12 2) [.tm 81,.tm 80],Zj 83 78 false 0 82,Zh 84 78 false 1 83,u2 85 78 false (.cmp .neq) [.tm 84,.cn (.int .i64 0)],u1 86 .or [.tm 78,.tm 85],Zm 69 86] (ZC 69 (ZR [Zi 2 6] .ret) (ZR [Zm 88 4,Zq 89 .gtr 88 120,Zm 87 89] (ZC 87 (ZR [Zi 2 7] .ret) .skip))))) (ZR [Zi 2 0] .ret))))))⟩
theorem Ytv:Yn Yb Tryz.f79=some v79:=by kernel_rfl
structure Tm where
 nm:ByteArray
 syn:Bool
 wolf:Int
 p:Nat->Int×Int
def Xv(p:Nat->Int×Int):List SV:=[.int .i64 (p 0).1,.int .i64 (p 0).2,.int .i64 (p 1).1,.int .i64 (p 1).2,.int .i64 (p 2).1,.int .i64 (p 2).2,.int .i64 (p 3).1,.int .i64 (p 3).2,.int .i64 (p 4).1,.int .i64 (p 4).2,.int .i64 (p 5).1,.int .i64 (p 5).2,.int .i64 (p 6).1,.int .i64 (p 6).2,.int .i64 (p 7).1,.int .i64 (p 7).2,.int .i64 (p 8).1,.int .i64 (p 8).2,.int .i64 (p 9).1,.int .i64 (p 9).2,.int .i64 (p 10).1,.int .i64 (p 10).2,.int .i64 (p 11).1,.int .i64 (p 11).2]
def YW(T:Tm):List SV:= .val (.string T.nm):: .bool T.syn:: .int .i64 T.wolf::Xv T.p
theorem V1{i:Nat}(h:i<12):i=0\/i=1\/i=2\/i=3\/i=4\/i=5\/i=6\/i=7\/i=8\/i=9\/i=10\/i=11:=by omega
theorem E3(p:Nat->Int×Int){i:Nat}(h:i<12):YR 2 (YK (i*2) (Xv p))=[.int .i64 (p i).1,.int .i64 (p i).2]:=by
 rcases V1 h with rfl|rfl|rfl|rfl|rfl|rfl|rfl|rfl|rfl|rfl|rfl|rfl <;> rfl
theorem I1(T:Tm){i:Nat}(h:i<12):YR 1 (YK (3+Kq (i:Int) 2) (YW T))=[.int .i64 (T.p i).1]:=by
 rcases V1 h with rfl|rfl|rfl|rfl|rfl|rfl|rfl|rfl|rfl|rfl|rfl|rfl <;> rfl
theorem I2(T:Tm){i:Nat}(h:i<12):1<=YH (YK (3+Kq (i:Int) 2) (YW T)):=by
 rcases V1 h with rfl|rfl|rfl|rfl|rfl|rfl|rfl|rfl|rfl|rfl|rfl|rfl <;> exact KI rfl
theorem JQ(T:Tm)(m:Nat):Je m (YW T):=by simp [YW,Xv,Je,bnd]
def XH(x:Int×Int):Bool:=decide (x.2<1) || decide (24<x.2) || decide (x.1< -2*x.2) || decide (2*x.2<x.1)
def Un(x:Int×Int):Nat:=YG x.1.natAbs x.2.toNat
def WF(T:Tm)(i:Nat):Bool:=(List.range i).all fun j=>decide (Un (T.p j)=1)
def YQ(T:Tm):Nat->Nat
 |0=>1
 |i+1=>if YQ T i<=120 then YQ T i/YG (YQ T i) (T.p i).2.toNat*(T.p i).2.toNat else YQ T i
def Eu(T:Tm):Bool:=(List.range 12).any fun i=>XH (T.p i)
def Ki(T:Tm):Int:=
 if T.wolf<0\/11<T.wolf then 2 else if Eu T=true then 2
 else if Xz T.nm=false\/WF T 12=false\/(T.p T.wolf.toNat).1≠0 then 6 else if 120<YQ T 12 then 7 else 0
theorem HC{x:Int×Int}(h:XH x=false):(1<=x.2/\x.2<=24)/\ -2*x.2<=x.1/\x.1<=2*x.2:=by
 simp only[XH,JH,decide_eq_false_iff_not]at h;omega
theorem Hz{T:Tm}:∀{i:Nat},(∀j,j<i->XH (T.p j)=false)->1<=YQ T i/\YQ T i<=2880
 |0,_=>⟨Yr _,by simp [YQ]⟩
 |i+1,h=>by
  have ih:=Hz (i:=i) fun j hj=>h j (by omega)
  have hb:=HC (h i (by omega))
  rw[YQ]
  split
  ·rename_i hle
   have hg:1<=YG (YQ T i) (T.p i).2.toNat:=Nat.gcd_pos_of_pos_left _ (by omega)
   have h1:YQ T i/YG (YQ T i) (T.p i).2.toNat<=120:=Yj (QP _ _) hle
   have h2:1<=YQ T i/YG (YQ T i) (T.p i).2.toNat:=Nat.div_pos (Nat.gcd_le_left _ (by omega)) hg
   have h3:(T.p i).2.toNat<=24:=by omega
   have h4:1<=(T.p i).2.toNat:=by omega
   have:=YP h1 h3
   have:=YP h2 h4
   omega
  ·exact ih
theorem TE(x:Int×Int):(decide (x.2<1) || decide (24<x.2) || decide (x.1<IntKind.i64.wrap (-2*x.2)) || decide (IntKind.i64.wrap (2*x.2)<x.1))=XH x:=by
 unfold XH
 by_cases h1:x.2<1
 ·rw[decide_eq_true h1];simp
 ·by_cases h2:24<x.2
  ·rw[decide_eq_true h2];simp
  ·rw[Yg (-2*x.2) (by omega),Yg (2*x.2) (by omega)]
theorem Ymw(T:Tm)(i:Nat):WF T (i+1)=(WF T i&&decide (Un (T.p i)=1)):=by
 unfold WF;rw[List.range_succ,List.all_append];simp
theorem Dq{T:Tm}{i:Nat}(hi:i<12)(h:XH (T.p i)=true):Eu T=true:=List.any_eq_true.2 ⟨i,List.mem_range.2 hi,h⟩
theorem TC{T:Tm}(h:∀i,i<12->XH (T.p i)=false):Eu T=false:=List.any_eq_false.2 fun i hi=>by rw[h i (List.mem_range.1 hi)];decide
def tgcdC:Ctr:={ alias:=false,of:=fun l=>match l with
 | [.int .i64 a,.int .i64 b]=> .ex Nat fun x=> .ex Nat fun y=> .pre (a=x/\b=y/\x<=9223372036854775807/\y<=9223372036854775807) (.fin (.int .i64 (YG x y)) [])
 |_=>noC}
def TG0:Env:={ ct:=fun _=>none,fn:=fun _=>none,meth:=fun _ _=>none}
theorem YgC:YE Yb TG0:=by
 refine⟨fun f c h=>?_,fun f vf h=>?_,(fun _ _ _ h=>by cases h),by kernel_rfl,(fun _ h=>by cases h)⟩
 ·cases h
 ·cases h
theorem Yrp:tgcdC.ok Yb 114:=by
 refine Yv Tryz.func114 YrO YgC 100 tgcdC fun args k h=>?_
 simp only[tgcdC]at h
 split at h
 ·rename_i a b
  obtain⟨x,y,⟨rfl,rfl,hx,hy⟩,h⟩:=h
  refine⟨[.int .i64 x,.int .i64 y],by simp [leL,le],?_⟩
  dsimp only[YdV,go_sem,reduceIte,Ya]
  simp only[Yd,Ya,Ye,reduceCtorEq,Yc]
  refine Loop.keep [4] (Nat×Nat) (fun s=>[(0,.int .i64 s.1),(1,.int .i64 s.2)]) (fun _=>[]) [] (fun s=>YG s.1 s.2=YG x y/\s.1<=9223372036854775807/\s.2<=9223372036854775807) (fun s=>s.2) ?_ ?_
  ·refine⟨(x,y),⟨rfl,hx,hy⟩,?_⟩
   dsimp only[go_sem,reduceIte,Ya]
   simp only[Yf]
  ·rintro⟨p,q⟩ ⟨he,hp,hq⟩
   dsimp only at he hp hq
   dsimp only[go_sem,reduceIte,Ya]
   simp only[Yd,Ya,Ye,reduceCtorEq,Yc]
   refine⟨fun hc=>⟨hc,(q,p%q),⟨?_,by simp only;omega,?_⟩,?_,?_⟩,fun hc=>YX ?_⟩
   ·rw[<-he,Nat.gcd_comm p q]
    show YG q (p%q)=YG q p
    rw[Nat.gcd_comm q (p%q),<-Nat.gcd_rec]
   ·have:=Kj p (by omega:0<q)
    simp only;omega
   ·exact Kj p (by omega:0<q)
   ·have e:(p:Int).tmod q=((p%q:Nat):Int):=Vm rfl rfl
    rw[e]
    simp only[Yf]
   ·obtain rfl:q=0:=by omega
    rw[Nat.gcd_zero_right]at he
    rw[he];exact h
 ·exact h.1.elim
def chkTmC:Ctr:={ alias:=false,of:=fun l=>match l with
 | [.agg cs]=> .ex Tm fun T=> .pre (cs=YW T/\T.nm.size<=9223372036854775807) (.fin (.int .i64 (Ki T)) [])
 |_=>noC}
def TG1:Env:={ ct:=fun n=>match n with|114=>some tgcdC|115=>some nameC|_=>none,fn:=fun _=>none,meth:=fun _ _=>none}
theorem N9:TG1.ct 114=some tgcdC:=rfl
theorem Da:TG1.ct 115=some nameC:=rfl
theorem YgD:YE Yb TG1:=by
 refine⟨fun f c h=>?_,fun f vf h=>?_,(fun _ _ _ h=>by cases h),by kernel_rfl,(fun _ h=>by cases h)⟩
 ·simp only[TG1]at h
  split at h
  ·cases h;exact⟨Yrp,_,Tryz.func114,rfl,rfl⟩
  ·cases h;exact⟨YmZ,_,Tryz.func115,rfl,rfl⟩
  ·cases h
 ·cases h
theorem Yi7:chkTmC.ok Yb 79:=by
 refine Yv Tryz.func79 Ytv YgD 300 chkTmC fun args k h=>?_
 simp only[chkTmC]at h
 split at h
 ·rename_i cs
  obtain⟨T,⟨rfl,hnm⟩,h⟩:=h
  refine⟨[.agg (YW T)],⟨YU _ (JQ T _),trivial⟩,?_⟩
  have h:k (.int .i64 (Ki T)) []:=h
  dsimp only[v79,YW,Xv,N9,Da,tgcdC,nameC,go_sem,reduceIte,Ya]
  simp only[Yd,Ya,Ye,reduceCtorEq,Yc]
  refine⟨rfl,fun hb=>?_,fun hb=>?_⟩
  ·rw[Ki,if_pos (by simpa using hb)]at h;exact YX h
  have hw:0<=T.wolf/\T.wolf<=11:=by simp only[JH,decide_eq_false_iff_not]at hb;omega
  rw[Ki,if_neg (by omega)]at h
  refine Loop.keep [1,0,13] Nat (fun i=>[(3,.bool (WF T i)),(4,.int .i64 (YQ T i:Nat)),(17,.int .i64 i)]) (fun _=>[]) [] (fun i=>i<=12/\∀j,j<i->XH (T.p j)=false) (fun i=>12-i) ?_ ?_
  ·refine⟨0,⟨by omega,fun j hj=>by omega⟩,?_⟩
   dsimp only[go_sem,reduceIte,Ya]
   simp only[Yf]
   exact⟨by decide,rfl,rfl,rfl⟩
  ·rintro i ⟨hi,hall⟩
   obtain⟨r1,r2⟩:=Hz hall
   dsimp only[N9,Da,tgcdC,nameC,Yh,go_sem,reduceIte,Ya]
   simp only[Yd,Ya,Ye,reduceCtorEq,Yc]
   refine⟨fun hlt=>?_,fun hge=>?_⟩
   ·have hi12:i<12:=by omega
    have e:=E3 T.p hi12
    simp only[Xv]at e
    rw[e]
    dsimp only[N9,Da,tgcdC,nameC,Yh,go_sem,reduceIte,Ya]
    simp only[Yd,Ya,Ye,reduceCtorEq,Yc]
    simp only[TE (T.p i)]
    refine⟨⟨by omega,by omega⟩,fun hb=>?_,fun hb=>?_⟩
    ·rw[if_pos (Dq hi12 hb)]at h;exact YX h
    ·obtain⟨⟨x1,x2⟩,x3,x4⟩:=HC hb
     have hsn:(T.p i).2=((T.p i).2.toNat:Int):=by omega
     have hall':∀j,j<i+1->XH (T.p j)=false:=fun j hj=>by
      rcases YV j i with h1|h1
      ·exact hall j h1
      ·obtain rfl:j=i:=by omega
       exact hb
     have hlow:(WF T i&&decide ((((T.p i).1.natAbs).gcd (T.p i).2.toNat:Int)=1))=WF T (i+1):=by
      rw[Ymw];congr 1
      exact decide_eq_decide.2 (by unfold Un;omega)
     refine⟨(T.p i).1.natAbs,(T.p i).2.toNat,fun _=>⟨M1 _ (by omega),hsn,by omega,by omega⟩,fun hle=>⟨YQ T i,(T.p i).2.toNat,⟨rfl,hsn,by omega,by omega⟩,?_,i+1,⟨by omega,hall'⟩,by omega,?_⟩,fun hgt=>⟨i+1,⟨by omega,hall'⟩,by omega,?_⟩⟩
     ·have:=Nat.gcd_pos_of_pos_left (T.p i).2.toNat (by omega:0<YQ T i)
      omega
     ·have r3:=Hz hall'
      have ha:YQ T (i+1)=YQ T i/YG (YQ T i) (T.p i).2.toNat*(T.p i).2.toNat:=by rw[YQ,if_pos (by omega)]
      have e1:((YQ T i:Nat):Int).tdiv ((YG (YQ T i) (T.p i).2.toNat:Nat):Int)=((YQ T i/YG (YQ T i) (T.p i).2.toNat:Nat):Int):=Wt rfl rfl
      have hd:=QP (YQ T i) (YG (YQ T i) (T.p i).2.toNat)
      have e2:IntKind.i64.wrap ((YQ T i/YG (YQ T i) (T.p i).2.toNat:Nat):Int)=((YQ T i/YG (YQ T i) (T.p i).2.toNat:Nat):Int):=by
       generalize YQ T i/YG (YQ T i) (T.p i).2.toNat=q at hd
       exact Yg _ (by omega)
      have e3:((YQ T i/YG (YQ T i) (T.p i).2.toNat:Nat):Int)*(T.p i).2=(YQ T (i+1):Nat):=by rw[ha,JV,<-hsn]
      rw[e1,e2,e3,Yg (YQ T (i+1):Int) (by omega),Yg ((i:Int)+1) (by omega)]
      simp only[Yf]
      exact⟨by decide,hlow,by simp⟩
     ·have ha:YQ T (i+1)=YQ T i:=by rw[YQ,if_neg (by omega)]
      rw[ha,Yg ((i:Int)+1) (by omega)]
      simp only[Yf]
      exact⟨by decide,hlow,by simp⟩
   ·obtain rfl:i=12:=by omega
    rw[if_neg (by rw[TC hall];decide)]at h
    obtain⟨w,hwe⟩:∃w:Nat,T.wolf=(w:Int):=⟨T.wolf.toNat,by omega⟩
    have hw12:w<12:=by omega
    have e:=I1 T hw12
    have el:=I2 T hw12
    simp only[YW,Xv,hwe]at e el
    rw[hwe,Yh]at h
    simp only[Kw,hwe]
    rw[e]
    dsimp only[N9,Da,tgcdC,nameC,Yh,go_sem,reduceIte,Ya]
    simp only[Yd,Ya,Ye,reduceCtorEq,Yc]
    refine⟨hnm,fun _=>⟨by omega,by omega⟩,fun _=>el,fun hc=>?_,fun hc=>?_⟩
    ·rw[if_pos (by simpa [or_assoc]using hc)]at h;exact YX h
    ·rw[if_neg (by simpa [or_assoc,and_assoc]using hc)]at h
     refine⟨fun ha=>?_,fun ha=>?_⟩
     ·rw[if_pos (by omega)]at h;exact YX h
     ·rw[if_neg (by omega)]at h;exact YX h
 ·exact h.1.elim
def YdY:VF:={ ntmps:=58,res:=[.cell 2 true 84],body:=
 (ZR [u1 2 (.allocArr 12 7 [(.int .i64 0),(.int .i64 0),(.int .i64 0),(.int .i64 0),(.int .i64 0),(.int .i64 0),(.int .i64 0),(.int .i64 0),(.int .i64 0),(.int .i64 0),(.int .i64 0),(.int .i64 0),(.int .i64 0),(.int .i64 0),(.int .i64 0),(.int .i64 0),(.int .i64 0),(.int .i64 0),(.int .i64 0),(.int .i64 0),(.int .i64 0),(.int .i64 0),(.int .i64 0),(.int .i64 0),(.int .i64 0),(.int .i64 0),(.int .i64 0),(.int .i64 0),(.int .i64 0),(.int .i64 0),(.int .i64 0),(.int .i64 0),(.int .i64 0),(.int .i64 0),(.int .i64 0),(.int .i64 0),(.int .i64 0),(.int .i64 0),(.int .i64 0),(.int .i64 0),(.int .i64 0),(.int .i64 0),(.int .i64 0),(.int .i64 0),(.int .i64 0),(.int .i64 0),(.int .i64 0),(.int .i64 0),(.int .i64 0),(.int .i64 0),(.int .i64 0),(.int .i64 0),(.int .i64 0),(.int .i64 0),(.int .i64 0),(.int .i64 0),(.int .i64 0),(.int .i64 0),(.int .i64 0),(.int .i64 0),(.int .i64 0),(.int .i64 0),(.int .i64 0),(.int .i64 0),(.int .i64 0),(.int .i64 0),(.int .i64 0),(.int .i64 0),(.int .i64 0),(.int .i64 0),(.int .i64 0),(.int .i64 0),(.int .i64 0),(.int .i64 0),(.int .i64 0),(.int .i64 0),(.int .i64 0),(.int .i64 0),(.int .i64 0),(.int .i64 0),(.int .i64 0),(.int .i64 0),(.int .i64 0),(.int .i64 0)]) []]
 (ZR [u1 10 (.call 116) [.cn (.int .i64 531441),.cn (.int .i64 524288)],
 u1 3 (.alloc [(.int .i64 0),(.int .i64 0),(.int .i64 0),(.int .i64 0),(.int .i64 0),(.int .i64 0),(.int .i64 0)]) [],
 Zs 7 3 10]
 (.seq (ZR [Zm 11 0,
 u1 12 .nilCheck [.tm 11],
 Za 13 1 12,
 Zf 14 1 13]
 (ZC 14 (.region [u1 15 (.call 116) [.cn (.int .i64 81),.cn (.int .i64 80)],
 Zs 7 3 15])
  .skip))
 (ZR [u1 4 (.allocArr 12 7 [(.int .i64 0),(.int .i64 0),(.int .i64 0),(.int .i64 0),(.int .i64 0),(.int .i64 0),(.int .i64 0),(.int .i64 0),(.int .i64 0),(.int .i64 0),(.int .i64 0),(.int .i64 0),(.int .i64 0),(.int .i64 0),(.int .i64 0),(.int .i64 0),(.int .i64 0),(.int .i64 0),(.int .i64 0),(.int .i64 0),(.int .i64 0),(.int .i64 0),(.int .i64 0),(.int .i64 0),(.int .i64 0),(.int .i64 0),(.int .i64 0),(.int .i64 0),(.int .i64 0),(.int .i64 0),(.int .i64 0),(.int .i64 0),(.int .i64 0),(.int .i64 0),(.int .i64 0),(.int .i64 0),(.int .i64 0),(.int .i64 0),(.int .i64 0),(.int .i64 0),(.int .i64 0),(.int .i64 0),(.int .i64 0),(.int .i64 0),(.int .i64 0),(.int .i64 0),(.int .i64 0),(.int .i64 0),(.int .i64 0),(.int .i64 0),(.int .i64 0),(.int .i64 0),(.int .i64 0),(.int .i64 0),(.int .i64 0),(.int .i64 0),(.int .i64 0),(.int .i64 0),(.int .i64 0),(.int .i64 0),(.int .i64 0),(.int .i64 0),(.int .i64 0),(.int .i64 0),(.int .i64 0),(.int .i64 0),(.int .i64 0),(.int .i64 0),(.int .i64 0),(.int .i64 0),(.int .i64 0),(.int .i64 0),(.int .i64 0),(.int .i64 0),(.int .i64 0),(.int .i64 0),(.int .i64 0),(.int .i64 0),(.int .i64 0),(.int .i64 0),(.int .i64 0),(.int .i64 0),(.int .i64 0),(.int .i64 0)]) []]
 (ZR [u1 16 (.call 116) [.cn (.int .i64 128),.cn (.int .i64 1)],
 u1 5 (.alloc [(.int .i64 0),(.int .i64 0),(.int .i64 0),(.int .i64 0),(.int .i64 0),(.int .i64 0),(.int .i64 0)]) [],
 Zs 7 5 16]
 (.seq (ZR [Zm 17 0,
 u1 18 .nilCheck [.tm 17],
 Za 19 3 18,
 Zt 20 24 19,
 Zi 21 0]
 (.block 0 (.loop (ZR [Zq 22 .lss 21 12]
 (.seq (ZC 22 .skip
  (.exit 0))
 (.seq (.block 1 (ZR [Zm 23 21,
 u1 24 (.index true 12 2) [.tm 20,.tm 21],
 Zn 7,
 Zm 6 23,
 Zs 2 7 24]
 (ZR [Zm 25 6,
 Zm 26 0,
 u1 27 .nilCheck [.tm 26],
 Za 28 2 27,
 Zf 29 1 28,
 Zr 30 .neq 25 29]
 (ZC 30 (ZR [Zt 32 7 3,
 Za 33 0 7,
 Zf 34 1 33,
 Za 35 1 7,
 Zf 36 1 35,
 u1 37 (.call 142) [.tm 32,.tm 34,.tm 36],
 Zm 31 37,
 Ze 38 0 31,
 Ze 39 1 31,
 u1 8 (.alloc [(.int .i64 0),(.int .i64 0),(.int .i64 0),(.int .i64 0),(.int .i64 0),(.int .i64 0),(.int .i64 0)]) [],
 Zs 7 8 38,
 Zm 9 39]
 (.seq (.draw [] [Zu 40 6,
 Zw 42 7 8,
 w1 41 (.call 116) [.cn (.int .i64 3),.cn (.int .i64 2)],
 Zz 43 143 41 42,
 w1 44 (.idxArr 12 7) [.tm 4,.tm 40],
 ZS 7 44 43])
 (.draw [] [Zw 45 7 5,
 Zu 46 6,
 w1 47 (.idxArr 12 7) [.tm 4,.tm 46],
 Zw 48 7 47,
 Zz 49 143 45 48,
 ZS 7 5 49])))
  .skip))))
 (.region [Zp 50 21 1,
 Zm 21 50])))))))
 (.seq (.draw [] [Zu 51 0,
 w1 52 .nilCheck [.tm 51],
 Zy 53 2 52,
 Zv 54 1 53,
 Zw 55 7 5,
 w1 56 (.idxArr 12 7) [.tm 4,.tm 54],
 ZS 7 56 55])
 (ZR [Zt 57 84 4,
 Zs 84 2 57]
 .ret))))))))}
theorem YrR:Yn Yb Tryz.f117=some YdY:=by kernel_rfl
def v80:VF:=⟨25,[.cell 2 true 84],(ZR [u1 2 (.allocArr 12 7 [(.int .i64 0),(.int .i64 0),(.int .i64 0),(.int .i64 0),(.int .i64 0),(.int .i64 0),(.int .i64 0),(.int .i64 0),(.int .i64 0),(.int .i64 0),(.int .i64 0),(.int .i64 0),(.int .i64 0),(.int .i64 0),(.int .i64 0),(.int .i64 0),(.int .i64 0),(.int .i64 0),(.int .i64 0),(.int .i64 0),(.int .i64 0),(.int .i64 0),(.int .i64 0),(.int .i64 0),(.int .i64 0),(.int .i64 0),(.int .i64 0),(.int .i64 0),(.int .i64 0),(.int .i64 0),(.int .i64 0),(.int .i64 0),(.int .i64 0),(.int .i64 0),(.int .i64 0),(.int .i64 0),(.int .i64 0),(.int .i64 0),(.int .i64 0),(.int .i64 0),(.int .i64 0),(.int .i64 0),(.int .i64 0),(.int .i64 0),(.int .i64 0),(.int .i64 0),(.int .i64 0),(.int .i64 0),(.int .i64 0),(.int .i64 0),(.int .i64 0),(.int .i64 0),(.int .i64 0),(.int .i64 0),(.int .i64 0),(.int .i64 0),(.int .i64 0),(.int .i64 0),(.int .i64 0),(.int .i64 0),(.int .i64 0),(.int .i64 0),(.int .i64 0),(.int .i64 0),(.int .i64 0),(.int .i64 0),(.int .i64 0),(.int .i64 0),(.int .i64 0),(.int .i64 0),(.int .i64 0),(.int .i64 0),(.int .i64 0),(.int .i64 0),(.int .i64 0),(.int .i64 0),(.int .i64 0),(.int .i64 0),(.int .i64 0),(.int .i64 0),(.int .i64 0),(.int .i64 0),(.int .i64 0),(.int .i64 0)]) []] (ZR [u1 3 (.allocArr 12 7 [(.int .i64 0),(.int .i64 0),(.int .i64 0),(.int .i64 0),(.int .i64 0),(.int .i64 0),(.int .i64 0),(.int .i64 0),(.int .i64 0),(.int .i64 0),(.int .i64 0),(.int .i64 0),(.int .i64 0),(.int .i64 0),(.int .i64 0),(.int .i64 0),(.int .i64 0),(.int .i64 0),(.int .i64 0),(.int .i64 0),(.int .i64 0),(.int .i64 0),(.int .i64 0),(.int .i64 0),(.int .i64 0),(.int .i64 0),(.int .i64 0),(.int .i64 0),(.int .i64 0),(.int .i64 0),(.int .i64 0),(.int .i64 0),(.int .i64 0),(.int .i64 0),(.int .i64 0),(.int .i64 0),(.int .i64 0),(.int .i64 0),(.int .i64 0),(.int .i64 0),(.int .i64 0),(.int .i64 0),(.int .i64 0),(.int .i64 0),(.int .i64 0),(.int .i64 0),(.int .i64 0),(.int .i64 0),(.int .i64 0),(.int .i64 0),(.int .i64 0),(.int .i64 0),(.int .i64 0),(.int .i64 0),(.int .i64 0),(.int .i64 0),(.int .i64 0),(.int .i64 0),(.int .i64 0),(.int .i64 0),(.int .i64 0),(.int .i64 0),(.int .i64 0),(.int .i64 0),(.int .i64 0),(.int .i64 0),(.int .i64 0),(.int .i64 0),(.int .i64 0),(.int .i64 0),(.int .i64 0),(.int .i64 0),(.int .i64 0),(.int .i64 0),(.int .i64 0),(.int .i64 0),(.int .i64 0),(.int .i64 0),(.int .i64 0),(.int .i64 0),(.int .i64 0),(.int .i64 0),(.int .i64 0),(.int .i64 0)]) []] (ZR [u1 7 (.call 116) [.cn (.int .i64 1),.cn (.int .i64 1)],u1 4 (.alloc [(.int .i64 0),(.int .i64 0),(.int .i64 0),(.int .i64 0),(.int .i64 0),(.int .i64 0),(.int .i64 0)]) [],Zs 7 4 7] (.seq (ZR [Zm 8 0,Zc 9 117 8,Zi 10 0] (.block 0 (.loop (ZR [Zq 11 .lss 10 12] (.seq (ZC 11 .skip (.exit 0)) (.seq (.block 1 (ZR [Zm 12 10,u1 13 (.index true 12 7) [.tm 9,.tm 10],u1 6 (.alloc [(.int .i64 0),(.int .i64 0),(.int .i64 0),(.int .i64 0),(.int .i64 0),(.int .i64 0),(.int .i64 0)]) [],Zm 5 12,Zs 7 6 13] (ZR [Zm 14 5,u1 15 (.ari .mul) [.cn (.int .i64 7),.tm 14],u1 16 .rem [.tm 15,.cn (.int .i64 12)],Zt 17 7 4,Zc 18 118 17,u1 19 (.idxArr 12 7) [.tm 3,.tm 16],Zs 7 19 18] (.region [Zt 20 7 4,Zt 21 7 6,Zd 22 119 20 21,Zs 7 4 22])))) (.region [Zp 23 10 1,Zm 10 23]))))))) (ZR [Zt 24 84 3,Zs 84 2 24] .ret)))))⟩
theorem Ytw:Yn Yb Tryz.f80=some v80:=by kernel_rfl
def v45:VF:=⟨13,[.tmp 2,.tmp 3],(ZR [u1 1 .box [.tm 0],u1 2 .mov [.cn .nil],Zi 3 0] (.seq (ZR [Zt 6 27 1,Zc 7 79 6,Zm 4 7] (ZR [Zm 8 4,Zq 9 .neq 8 0] (ZC 9 (ZR [Zm 10 4,u1 2 .mov [.cn .nil],Zm 3 10] .ret) .skip))) (ZR [Zc 11 80 1,u1 5 (.allocArr 12 7 [(.int .i64 0),(.int .i64 0),(.int .i64 0),(.int .i64 0),(.int .i64 0),(.int .i64 0),(.int .i64 0),(.int .i64 0),(.int .i64 0),(.int .i64 0),(.int .i64 0),(.int .i64 0),(.int .i64 0),(.int .i64 0),(.int .i64 0),(.int .i64 0),(.int .i64 0),(.int .i64 0),(.int .i64 0),(.int .i64 0),(.int .i64 0),(.int .i64 0),(.int .i64 0),(.int .i64 0),(.int .i64 0),(.int .i64 0),(.int .i64 0),(.int .i64 0),(.int .i64 0),(.int .i64 0),(.int .i64 0),(.int .i64 0),(.int .i64 0),(.int .i64 0),(.int .i64 0),(.int .i64 0),(.int .i64 0),(.int .i64 0),(.int .i64 0),(.int .i64 0),(.int .i64 0),(.int .i64 0),(.int .i64 0),(.int .i64 0),(.int .i64 0),(.int .i64 0),(.int .i64 0),(.int .i64 0),(.int .i64 0),(.int .i64 0),(.int .i64 0),(.int .i64 0),(.int .i64 0),(.int .i64 0),(.int .i64 0),(.int .i64 0),(.int .i64 0),(.int .i64 0),(.int .i64 0),(.int .i64 0),(.int .i64 0),(.int .i64 0),(.int .i64 0),(.int .i64 0),(.int .i64 0),(.int .i64 0),(.int .i64 0),(.int .i64 0),(.int .i64 0),(.int .i64 0),(.int .i64 0),(.int .i64 0),(.int .i64 0),(.int .i64 0),(.int .i64 0),(.int .i64 0),(.int .i64 0),(.int .i64 0),(.int .i64 0),(.int .i64 0),(.int .i64 0),(.int .i64 0),(.int .i64 0),(.int .i64 0)]) [],Zs 84 5 11] (ZR [u1 12 (.sliceArr 12 7 false false) [.tm 5],Zm 2 12,Zi 3 0] .ret))))⟩
theorem YsX:Yn Yb Tryz.f45=some v45:=by kernel_rfl
def Xu(L:Nat->Rt):List SV:=Yp (L 0)++(Yp (L 1)++(Yp (L 2)++(Yp (L 3)++(Yp (L 4)++(Yp (L 5)++(Yp (L 6)++(Yp (L 7)++(Yp (L 8)++(Yp (L 9)++(Yp (L 10)++(Yp (L 11)++[])))))))))))
theorem Yoj{get:Nat->List SV}:Wk 12 0 get=get 0++(get 1++(get 2++(get 3++(get 4++(get 5++(get 6++(get 7++(get 8++(get 9++(get 10++(get 11++[]))))))))))):=rfl
attribute [go_sem] Yoj
theorem I0(L:Nat->Rt){i:Nat}(h:i<12):YR 7 (YK (i*7) (Xu L))=Yp (L i):=by
 rcases V1 h with rfl|rfl|rfl|rfl|rfl|rfl|rfl|rfl|rfl|rfl|rfl|rfl <;> rfl
theorem RN{k:Nat}(h:k<12):Jp 7 [SV.int .i64 0,SV.int .i64 0,SV.int .i64 0,SV.int .i64 0,SV.int .i64 0,SV.int .i64 0,SV.int .i64 0,SV.int .i64 0,SV.int .i64 0,SV.int .i64 0,SV.int .i64 0,SV.int .i64 0,SV.int .i64 0,SV.int .i64 0,SV.int .i64 0,SV.int .i64 0,SV.int .i64 0,SV.int .i64 0,SV.int .i64 0,SV.int .i64 0,SV.int .i64 0,SV.int .i64 0,SV.int .i64 0,SV.int .i64 0,SV.int .i64 0,SV.int .i64 0,SV.int .i64 0,SV.int .i64 0,SV.int .i64 0,SV.int .i64 0,SV.int .i64 0,SV.int .i64 0,SV.int .i64 0,SV.int .i64 0,SV.int .i64 0,SV.int .i64 0,SV.int .i64 0,SV.int .i64 0,SV.int .i64 0,SV.int .i64 0,SV.int .i64 0,SV.int .i64 0,SV.int .i64 0,SV.int .i64 0,SV.int .i64 0,SV.int .i64 0,SV.int .i64 0,SV.int .i64 0,SV.int .i64 0,SV.int .i64 0,SV.int .i64 0,SV.int .i64 0,SV.int .i64 0,SV.int .i64 0,SV.int .i64 0,SV.int .i64 0,SV.int .i64 0,SV.int .i64 0,SV.int .i64 0,SV.int .i64 0,SV.int .i64 0,SV.int .i64 0,SV.int .i64 0,SV.int .i64 0,SV.int .i64 0,SV.int .i64 0,SV.int .i64 0,SV.int .i64 0,SV.int .i64 0,SV.int .i64 0,SV.int .i64 0,SV.int .i64 0,SV.int .i64 0,SV.int .i64 0,SV.int .i64 0,SV.int .i64 0,SV.int .i64 0,SV.int .i64 0,SV.int .i64 0,SV.int .i64 0,SV.int .i64 0,SV.int .i64 0,SV.int .i64 0,SV.int .i64 0] k=Yp KT:=by
 rcases V1 h with rfl|rfl|rfl|rfl|rfl|rfl|rfl|rfl|rfl|rfl|rfl|rfl <;> rfl
theorem Zk{a b:Nat}(r:Rt):leL a b (Yp r) (Yp r):=YU _ ⟨trivial,trivial,trivial,trivial,trivial,trivial,trivial,trivial⟩
theorem XB(x:Rt):Rt.mk x.a x.b x.c x.d x.e x.f x.n=x:=rfl
def ZT(T:Tm):Rt:=if T.syn=true then(KP 81 80).1 else(KP 531441 524288).1
def Wy(T:Tm)(i:Nat):Rt:=(KG (KP 3 2).1 (Xc (ZT T) (T.p i).1 (T.p i).2).1 (-1)).1
def K2(T:Tm):Nat->Rt
 |0=>(KP 128 1).1
 |i+1=>if(i:Int)=T.wolf then K2 T i else(KG (K2 T i) (Wy T i) (-1)).1
def Qy(T:Tm)(i k:Nat):Rt:=if k<i then(if(k:Int)=T.wolf then KT else Wy T k)else KT
def X7(T:Tm)(k:Nat):Rt:=if k=T.wolf.toNat then K2 T 12 else Qy T 12 k
theorem Lb(T:Tm)(j:Nat):(if j=T.wolf.toNat then [SV.int .i64 (K2 T 12).a,SV.int .i64 (K2 T 12).b,SV.int .i64 (K2 T 12).c,SV.int .i64 (K2 T 12).d,SV.int .i64 (K2 T 12).e,SV.int .i64 (K2 T 12).f,SV.int .i64 (K2 T 12).n]else [SV.int .i64 (Qy T 12 j).a,SV.int .i64 (Qy T 12 j).b,SV.int .i64 (Qy T 12 j).c,SV.int .i64 (Qy T 12 j).d,SV.int .i64 (Qy T 12 j).e,SV.int .i64 (Qy T 12 j).f,SV.int .i64 (Qy T 12 j).n])=Yp (X7 T j):=by
 unfold X7;split <;> rfl
theorem La(T:Tm)(k:Nat):Qy T 0 k=KT:=if_neg (QC _)
theorem IZ(L:Nat->Rt)(m:Nat):Je m (Xu L):=by simp [Xu,Yp,Je,bnd]
theorem Eb{k:SV->List HO->Prop}{al:Bool}{hp:List HO}{L:Nat->Rt}(h:k (.agg (Xu L)) []):Jv al k (.agg (Xu L)) hp:=
 Ky (show k _ []from h) (Jq (.agg (Xu L)) (IZ L _)) (fun _=>by simp [Y0,Y4,Xu,Yp])
theorem E8{T:Tm}{i:Nat}(h:¬(i:Int)=T.wolf):Qy T (i+1) i=Wy T i:=by
 unfold Qy;rw[if_pos (by omega),if_neg h]
theorem Bs{T:Tm}{i k:Nat}(h:¬k=i):Qy T (i+1) k=Qy T i k:=by
 unfold Qy
 by_cases h1:k<i
 ·rw[if_pos h1,if_pos (by omega)]
 ·rw[if_neg h1,if_neg (by omega)]
theorem E9{T:Tm}{i k:Nat}(h:(i:Int)=T.wolf):Qy T (i+1) k=Qy T i k:=by
 by_cases hk:k=i
 ·subst hk;unfold Qy;rw[if_pos (by omega),if_pos h,if_neg (by omega)]
 ·exact Bs hk
def fifC:Ctr:={ alias:=false,of:=fun l=>match l with
 | [.xp _ cs]=> .ex Tm fun T=> .pre (cs=YW T/\Ki T=0) (.fin (.agg (Xu (X7 T))) [])
 |_=>noC}
theorem EM{T:Tm}(h:Ki T=0):(0<=T.wolf/\T.wolf<=11)/\(∀i,i<12->XH (T.p i)=false):=by
 unfold Ki at h
 split at h
 ·cases h
 ·split at h
  ·cases h
  ·rename_i h1 h2
   refine⟨by omega,fun i hi=>?_⟩
   cases hb:XH (T.p i)with
   |false=>rfl
   |true=>exact absurd (Dq hi hb) h2
def mc1:Ctr:=m2C 1
def mcm:Ctr:=m2C (-1)
def TH0:Env:={ ct:=fun n=>match n with|116=>some wholeC|143=>some mcm|119=>some mc1|142=>some powRC|118=>some folC|_=>none,fn:=fun _=>none,meth:=fun _ _=>none}
theorem GH:TH0.ct 116=some wholeC:=rfl
theorem GL:TH0.ct 143=some mcm:=rfl
theorem GJ:TH0.ct 119=some mc1:=rfl
theorem GK:TH0.ct 142=some powRC:=rfl
theorem GI:TH0.ct 118=some folC:=rfl
theorem YgE:YE Yb TH0:=by
 refine⟨fun f c h=>?_,fun f vf h=>?_,(fun _ _ _ h=>by cases h),by kernel_rfl,(fun _ h=>by cases h)⟩
 ·simp only[TH0]at h
  split at h
  ·cases h;exact⟨YeM,_,Tryz.func116,rfl,rfl⟩
  ·cases h;exact⟨YnN,_,Tryz.func143,rfl,rfl⟩
  ·cases h;exact⟨YdC,_,Tryz.func119,rfl,rfl⟩
  ·cases h;exact⟨YnY,_,Tryz.func142,rfl,rfl⟩
  ·cases h;exact⟨Om,_,Tryz.func118,rfl,rfl⟩
  ·cases h
 ·cases h
theorem Yj2:fifC.ok Yb 117:=by
 refine Yv Tryz.func117 YrR YgE 300 fifC fun args k h=>?_
 simp only[fifC]at h
 split at h
 ·rename_i tt cs
  obtain⟨T,⟨rfl,hT⟩,h⟩:=h
  refine⟨[.xp tt (YW T)],by simp only[Yf],?_⟩
  obtain⟨hw,hp⟩:=EM hT
  dsimp only[YdY,YW,Xv,Yp,XB,GH,GL,GJ,GK,GI,wholeC,mc1,mcm,m2C,powRC,folC,go_sem,reduceIte,Ya]
  simp only[Yd,Ya,Ye,reduceCtorEq,Yc]
  refine⟨fun hs=>?_,fun hs=>?_⟩
  ·have hC:ZT T=(KP 81 80).1:=if_pos hs
   obtain⟨C,hCe⟩:∃C,C=(KP 81 80).1:=⟨_,rfl⟩
   rw[<-hCe]at hC⊢
   clear hCe hs
   refine Loop.keep [0,1,0,0,0,14] Nat (fun i=>[(21,.int .i64 i)]) (fun i=>[(2,.own false 7 12 (fun k=>Yp (Qy T i k))),(3,.box (Yp (K2 T i)))]) [] (fun i=>i<=12) (fun i=>12-i) ?_ ?_
   ·refine⟨0,by omega,?_⟩
    dsimp only[Yp,go_sem,reduceIte,Ya]
    simp only[Yf]
    refine⟨⟨by decide,by decide,by decide,by decide,rfl⟩,fun k hk=>?_,rfl,rfl,rfl,rfl,rfl,rfl,rfl⟩
    rw[RN hk,La]
    exact Zk KT
   ·rintro i hi
    dsimp only[XB,GH,GL,GJ,GK,GI,wholeC,mc1,mcm,m2C,powRC,folC,Yp,Yh,go_sem,reduceIte,Ya]
    simp only[Yd,Ya,Ye,reduceCtorEq,Yc]
    refine⟨fun hlt=>?_,fun hge=>?_⟩
    ·have hi12:i<12:=by omega
     have e:=E3 T.p hi12
     simp only[Xv]at e
     rw[e]
     dsimp only[XB,GH,GL,GJ,GK,GI,wholeC,mc1,mcm,m2C,powRC,folC,Yp,Yh,go_sem,reduceIte,Ya]
     simp only[Yd,Ya,Ye,reduceCtorEq,Yc]
     have hF:(KG (KP 3 2).1 (Xc C (T.p i).1 (T.p i).2).1 (-1)).1=Wy T i:=by rw[Wy,hC]
     simp only[if_true,XB,hF]
     dsimp only[XB,GH,GL,GJ,GK,GI,wholeC,mc1,mcm,m2C,powRC,folC,Yp,Yh,go_sem,reduceIte,Ya]
     simp only[Yd,Ya,Ye,reduceCtorEq,Yc]
     refine⟨⟨by omega,by omega⟩,fun hne=>⟨by decide,by decide,⟨by omega,by omega⟩,hi12,⟨by omega,by omega⟩,hi12,i+1,by omega,by omega,?_⟩,fun heq=>⟨i+1,by omega,by omega,?_⟩⟩
     ·have hR:K2 T (i+1)=(KG (K2 T i) (Wy T i) (-1)).1:=by rw[K2,if_neg hne]
      rw[hR,Yg ((i:Int)+1) (by omega)]
      simp only[Yf]
      refine⟨⟨by decide,by decide,by decide,by decide,by simp⟩,fun k hk=>?_⟩
      split
      ·rename_i hki
       subst hki
       rw[E8 hne]
       exact Zk _
      ·rename_i hki
       rw[Bs hki]
       exact Zk _
     ·have hR:K2 T (i+1)=K2 T i:=by rw[K2,if_pos heq]
      rw[hR,Yg ((i:Int)+1) (by omega)]
      simp only[Yf]
      refine⟨⟨by decide,by decide,by decide,by decide,by simp⟩,fun k hk=>?_⟩
      rw[E9 heq]
      exact⟨rfl,rfl,rfl,rfl,rfl,rfl,rfl⟩
    ·obtain rfl:i=12:=by omega
     simp only[Lb]
     dsimp only[Yp,go_sem,reduceIte,Ya]
     simp only[Yd,Ya,Ye,reduceCtorEq,Yc]
     exact⟨⟨by omega,by omega⟩,by omega,by decide,Eb (L:=X7 T) h⟩
  ·have hC:ZT T=(KP 531441 524288).1:=if_neg (by rw[hs];decide)
   obtain⟨C,hCe⟩:∃C,C=(KP 531441 524288).1:=⟨_,rfl⟩
   rw[<-hCe]at hC⊢
   clear hCe hs
   refine Loop.keep [0,1,0,0,0,14] Nat (fun i=>[(21,.int .i64 i)]) (fun i=>[(2,.own false 7 12 (fun k=>Yp (Qy T i k))),(3,.box (Yp (K2 T i)))]) [] (fun i=>i<=12) (fun i=>12-i) ?_ ?_
   ·refine⟨0,by omega,?_⟩
    dsimp only[Yp,go_sem,reduceIte,Ya]
    simp only[Yf]
    refine⟨⟨by decide,by decide,by decide,by decide,rfl⟩,fun k hk=>?_,rfl,rfl,rfl,rfl,rfl,rfl,rfl⟩
    rw[RN hk,La]
    exact Zk KT
   ·rintro i hi
    dsimp only[XB,GH,GL,GJ,GK,GI,wholeC,mc1,mcm,m2C,powRC,folC,Yp,Yh,go_sem,reduceIte,Ya]
    simp only[Yd,Ya,Ye,reduceCtorEq,Yc]
    refine⟨fun hlt=>?_,fun hge=>?_⟩
    ·have hi12:i<12:=by omega
     have e:=E3 T.p hi12
     simp only[Xv]at e
     rw[e]
     dsimp only[XB,GH,GL,GJ,GK,GI,wholeC,mc1,mcm,m2C,powRC,folC,Yp,Yh,go_sem,reduceIte,Ya]
     simp only[Yd,Ya,Ye,reduceCtorEq,Yc]
     have hF:(KG (KP 3 2).1 (Xc C (T.p i).1 (T.p i).2).1 (-1)).1=Wy T i:=by rw[Wy,hC]
     simp only[if_true,XB,hF]
     dsimp only[XB,GH,GL,GJ,GK,GI,wholeC,mc1,mcm,m2C,powRC,folC,Yp,Yh,go_sem,reduceIte,Ya]
     simp only[Yd,Ya,Ye,reduceCtorEq,Yc]
     refine⟨⟨by omega,by omega⟩,fun hne=>⟨by decide,by decide,⟨by omega,by omega⟩,hi12,⟨by omega,by omega⟩,hi12,i+1,by omega,by omega,?_⟩,fun heq=>⟨i+1,by omega,by omega,?_⟩⟩
     ·have hR:K2 T (i+1)=(KG (K2 T i) (Wy T i) (-1)).1:=by rw[K2,if_neg hne]
      rw[hR,Yg ((i:Int)+1) (by omega)]
      simp only[Yf]
      refine⟨⟨by decide,by decide,by decide,by decide,by simp⟩,fun k hk=>?_⟩
      split
      ·rename_i hki
       subst hki
       rw[E8 hne]
       exact Zk _
      ·rename_i hki
       rw[Bs hki]
       exact Zk _
     ·have hR:K2 T (i+1)=K2 T i:=by rw[K2,if_pos heq]
      rw[hR,Yg ((i:Int)+1) (by omega)]
      simp only[Yf]
      refine⟨⟨by decide,by decide,by decide,by decide,by simp⟩,fun k hk=>?_⟩
      rw[E9 heq]
      exact⟨rfl,rfl,rfl,rfl,rfl,rfl,rfl⟩
    ·obtain rfl:i=12:=by omega
     simp only[Lb]
     dsimp only[Yp,go_sem,reduceIte,Ya]
     simp only[Yd,Ya,Ye,reduceCtorEq,Yc]
     exact⟨⟨by omega,by omega⟩,by omega,by decide,Eb (L:=X7 T) h⟩
 ·exact h.1.elim
theorem Yc4(n:Nat)(L:Nat->Rt):XR n (Xu L)=Xu L:=rfl
theorem YlG{a b:Nat}(L:Nat->Rt):leL a b (Xu L) (Xu L):=YU _ (IZ L _)
def Uy(L:Nat->Rt)(i:Nat)(r:Rt):Nat->Rt:=fun k=>if k=i then r else L k
def Jj(T:Tm):Nat->(Nat->Rt)×Rt
 |0=>(fun _=>KT,(KP 1 1).1)
 |i+1=>(Uy (Jj T i).1 (7*i%12) (Jy (Jj T i).2).1,(KG (Jj T i).2 (X7 T i) 1).1)
def Y6(T:Tm):Nat->Rt:=(Jj T 12).1
def notC:Ctr:={ alias:=false,of:=fun l=>match l with
 | [.xp _ cs]=> .ex Tm fun T=> .pre (cs=YW T/\Ki T=0) (.fin (.agg (Xu (Y6 T))) [])
 |_=>noC}
def TH1:Env:={ ct:=fun n=>match n with|116=>some wholeC|119=>some mc1|118=>some folC|117=>some fifC|_=>none,fn:=fun _=>none,meth:=fun _ _=>none}
theorem CT:TH1.ct 116=some wholeC:=rfl
theorem CW:TH1.ct 119=some mc1:=rfl
theorem CV:TH1.ct 118=some folC:=rfl
theorem CU:TH1.ct 117=some fifC:=rfl
theorem YgF:YE Yb TH1:=by
 refine⟨fun f c h=>?_,fun f vf h=>?_,(fun _ _ _ h=>by cases h),by kernel_rfl,(fun _ h=>by cases h)⟩
 ·simp only[TH1]at h
  split at h
  ·cases h;exact⟨YeM,_,Tryz.func116,rfl,rfl⟩
  ·cases h;exact⟨YdC,_,Tryz.func119,rfl,rfl⟩
  ·cases h;exact⟨Om,_,Tryz.func118,rfl,rfl⟩
  ·cases h;exact⟨Yj2,_,Tryz.func117,rfl,rfl⟩
  ·cases h
 ·cases h
theorem Ynk:notC.ok Yb 80:=by
 refine Yv Tryz.func80 Ytw YgF 300 notC fun args k h=>?_
 simp only[notC]at h
 split at h
 ·rename_i tt cs
  obtain⟨T,⟨rfl,hT⟩,h⟩:=h
  refine⟨[.xp tt (YW T)],by simp only[Yf],?_⟩
  dsimp only[v80,Yp,XB,CT,CW,CV,CU,wholeC,mc1,mcm,m2C,folC,fifC,go_sem,reduceIte,Ya]
  simp only[Yd,Ya,Ye,reduceCtorEq,Yc]
  refine⟨T,⟨rfl,hT⟩,?_⟩
  refine Loop.keep [2,0,0,4] Nat (fun i=>[(10,.int .i64 i)]) (fun i=>[(1,.own false 7 12 (fun k=>Yp ((Jj T i).1 k))),(2,.box (Yp (Jj T i).2))]) [] (fun i=>i<=12) (fun i=>12-i) ?_ ?_
  ·refine⟨0,by omega,?_⟩
   dsimp only[Yp,Xu,go_sem,reduceIte,Ya]
   simp only[Yf]
   refine⟨⟨by decide,by decide,by decide,rfl⟩,fun k hk=>?_,rfl,rfl,rfl,rfl,rfl,rfl,rfl⟩
   rw[RN hk]
   exact Zk KT
  ·rintro i hi
   dsimp only[Yp,Yh,XB,CT,CW,CV,CU,wholeC,mc1,mcm,m2C,folC,fifC,go_sem,reduceIte,Ya]
   simp only[Yd,Ya,Ye,reduceCtorEq,Yc]
   refine⟨fun hlt=>?_,fun hge=>?_⟩
   ·have hi12:i<12:=by omega
    have e7:(IntKind.i64.wrap (7*(i:Int))).tmod 12=((7*i%12:Nat):Int):=by
     rw[Yg _ (by omega),UF (by omega)];omega
    simp only[Yc4,I0 (X7 T) hi12,e7,Yh]
    dsimp only[Yp,Yh,XB,CT,CW,CV,CU,wholeC,mc1,mcm,m2C,folC,fifC,go_sem,reduceIte,Ya]
    simp only[Yd,Ya,Ye,reduceCtorEq,Yc]
    have hS:Jj T (i+1)=(Uy (Jj T i).1 (7*i%12) (Jy (Jj T i).2).1,(KG (Jj T i).2 (X7 T i) 1).1):=rfl
    refine⟨⟨by omega,by omega,rfl⟩,by decide,⟨by omega,by omega⟩,by omega,i+1,by omega,by omega,?_⟩
    rw[hS,Yg ((i:Int)+1) (by omega)]
    simp only[Yf]
    refine⟨⟨by decide,by decide,by decide,YlG _,by simp⟩,fun k hk=>?_⟩
    unfold Uy
    split
    ·exact Zk _
    ·exact Zk _
   ·obtain rfl:i=12:=by omega
    exact⟨by decide,Eb (L:=Y6 T) h⟩
 ·exact h.1.elim
theorem ZA(T:Tm):Jk (YW T):=by simp [YW,Xv,Jk,one];rfl
theorem YnG(L:Nat->Rt):Jk (Xu L):=by simp [Xu,Yp,Jk,one]
theorem Yh8{k:SV->List HO->Prop}{al:Bool}{hp:List HO}{e:Int}(h:k (.tup [.nil,.int .i64 e]) []):Jv al k (.tup [.nil,.int .i64 e]) hp:=
 Ky h (Jq (.tup [.nil,.int .i64 e]) ⟨trivial,trivial,trivial⟩) (fun _=>by simp [Y0,Y4])
theorem Yh7{k:SV->List HO->Prop}{x:HO}{e:Int}{L:Nat->Rt}(h:k (.tup [.vs true false 12 7 (fun k=>Yp (L k)),.int .i64 e]) []):Jv false k (.tup [.own 1 0 12 7,.int .i64 e]) [x,.own false 7 12 (Jp 7 (XR 1 (Xu L)))]:=by
 refine Ky h ?_ (fun _=>by simp [Y0,Y4,Yp])
 dsimp only[QE,go_sem,reduceIte,Ya]
 simp only[Yf]
 intro q hq
 rw[Yc4,I0 L hq]
 exact Y1 _
def NotC:Ctr:={ alias:=false,of:=fun l=>match l with
 | [.agg cs]=> .ex Tm fun T=> .pre (cs=YW T/\T.nm.size<=9223372036854775807) (if Ki T≠0 then .fin (.tup [.nil,.int .i64 (Ki T)]) []else .fin (.tup [.vs true false 12 7 (fun k=>Yp (Y6 T k)),.int .i64 0]) [])
 |_=>noC}
def TH2:Env:={ ct:=fun n=>match n with|79=>some chkTmC|80=>some notC|_=>none,fn:=fun _=>none,meth:=fun _ _=>none}
theorem YgG:TH2.ct 79=some chkTmC:=rfl
theorem YgH:TH2.ct 80=some notC:=rfl
theorem YgI:YE Yb TH2:=by
 refine⟨fun f c h=>?_,fun f vf h=>?_,(fun _ _ _ h=>by cases h),by kernel_rfl,(fun _ h=>by cases h)⟩
 ·simp only[TH2]at h
  split at h
  ·cases h;exact⟨Yi7,_,Tryz.func79,rfl,rfl⟩
  ·cases h;exact⟨Ynk,_,Tryz.func80,rfl,rfl⟩
  ·cases h
 ·cases h
theorem Yfe:NotC.ok Yb 45:=by
 refine Yv Tryz.func45 YsX YgI 300 NotC fun args k h=>?_
 simp only[NotC]at h
 split at h
 ·rename_i cs
  obtain⟨T,⟨rfl,hnm⟩,h⟩:=h
  refine⟨[.agg (YW T)],⟨YU _ (JQ T _),trivial⟩,?_⟩
  dsimp only[v45,YgG,YgH,chkTmC,notC,go_sem,reduceIte,Ya]
  simp only[Yd,Ya,Ye,reduceCtorEq,Yc]
  refine⟨ZA T,Yr 27,T,⟨rfl,hnm⟩,fun hc=>?_,fun hc=>⟨T,⟨rfl,hc⟩,⟨rfl,YnG _,by decide⟩,?_⟩⟩
  ·rw[if_pos hc]at h
   exact Yh8 (show k _ []from h)
  ·rw[if_neg (by rw[hc];decide)]at h
   exact Yh7 (show k _ []from h)
 ·exact h.1.elim
end Go.Proofs.YtlhmikjnholpnaaGreatDoor
