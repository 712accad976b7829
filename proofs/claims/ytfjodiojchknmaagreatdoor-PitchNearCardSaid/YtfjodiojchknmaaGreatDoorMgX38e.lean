/- Signs of the program, walked: base. -/
import Derived.Test.YtfjodiojchknmaaGreatDoorMgX38d
import Derived.Test.YtfjodiojchknmaaGreatDoorProg
open And renaming intro->YEU
open Bool renaming and_eq_true->YEI,or_eq_false_iff->YE9,or_eq_true->YFn
open Int renaming mul_le_mul_of_nonneg_left->YEM,mul_le_mul_of_nonneg_right->YE1,mul_nonneg->YEL,natCast_mul->YFe,toNat_natCast->YEB,toNat_of_nonneg->YFa
open Go.IntWalk renaming i64_in->YED
open List renaming getD_eq_getElem?_getD->YER,getElem?_take->YFs,length_append->YE8,length_cons->YFb,length_nil->YFh,length_take->YFd,mem_append->YE3,mem_map->YFz,mem_singleton->YFg,take_length->YFF
open Nat renaming div_add_mod->YFB,eq_zero_or_pos->YFk,gcd->YFt,le_of_ble_eq_true->YFi,le_refl->YEK,le_trans->YEQ,lt_or_ge->YFf,mod_lt->YFD,mul_assoc->YEH,mul_comm->YEJ,mul_le_mul->YEV,mul_le_mul_left->YEG,mul_le_mul_right->YEF,mul_one->YFI,pow_succ->YE2,reduceAdd->YEx,reduceEqDiff->YEy,reduceLeDiff->YEz,zero_add->YFv
open Go.Proofs.Tryz renaming prog->YEC
set_option linter.all false
namespace Go.Proofs.YtfjodiojchknmaaGreatDoor
open Go Go.Vx
set_option maxRecDepth 100000
set_option maxHeartbeats 4000000
def v106:VF:=⟨73,[.tmp 2],(ZR [u1 2 .mov [.cn .nil]] (ZR [u1 3 .mov [.cn .nil]] (.seq (ZR [Zm 11 0,Zl 12 11,Zi 13 0] (.block 0 (.loop (ZR [Zr 14 .lss 13 12] (.seq (ZC 14 .skip (.exit 0)) (.seq (.block 1 (ZR [Zx 15 2 11 13,Zt 16 2 15,Zn 5,Zs 2 5 16] (.scope (ZR [Za 17 0 5,Zf 18 1 17,u1 19 (.buildSlice 1 1 [(.int .i64 0)] [(0,1)]) [.tm 18],Zm 6 19] (.seq .skip (.block 2 (.loop (.seq (ZR [Zm 20 6,Zl 21 20,Zq 22 .gtr 21 0] (ZC 22 .skip (.exit 2))) (.block 3 (ZR [Zm 23 6,Zm 24 6,Zl 25 24,u1 26 (.ari .sub) [.tm 25,.cn (.int .i64 1)],Zx 27 1 23 26,Zf 28 1 27,Zm 7 28] (ZR [Zm 29 6,Zm 30 6,Zl 31 30,u1 32 (.ari .sub) [.tm 31,.cn (.int .i64 1)],u1 33 (.slice 1 false true) [.tm 29,.tm 32],Zm 6 33] (.seq (ZR [Zm 34 7,Zq 35 .eql 34 1] (ZC 35 (.exit 3) .skip)) (.seq (ZR [Zm 36 3,Zl 37 36,Zi 38 0] (.block 4 (.loop (ZR [Zr 39 .lss 38 37] (.seq (ZC 39 .skip (.exit 4)) (.seq (.block 5 (ZR [Zm 40 38,Zx 41 1 36 38,Zf 42 1 41,Zm 8 40,Zm 9 42] (ZR [Zm 43 9,Zm 44 7,Zd 45 114 43 44,Zm 10 45] (ZR [Zm 46 10,Zq 47 .gtr 46 1] (ZC 47 (.seq (.draw [] [Zu 48 3,Zu 49 8,w1 50 (.slice 1 false true) [.tm 48,.tm 49],Zu 51 3,Zu 52 8,w1 53 (.ari .add) [.tm 52,.cn (.int .i64 1)],w1 54 (.slice 1 true false) [.tm 51,.tm 53],w1 55 (.append 1 8 [(.int .i64 0)]) [.tm 50,.tm 54],Zu 3 55]) (.seq (.draw [] [Zu 56 6,Zu 57 10,Zu 58 9,Zu 59 10,w1 60 .quo [.tm 58,.tm 59],Zu 61 7,Zu 62 10,w1 63 .quo [.tm 61,.tm 62],w1 64 (.buildSlice 1 3 [(.int .i64 0)] [(0,1),(1,1),(2,1)]) [.tm 57,.tm 60,.tm 63],w1 65 (.append 1 8 [(.int .i64 0)]) [.tm 56,.tm 64],Zu 6 65]) (.exit 3))) .skip))))) (.region [Zp 66 38 1,Zm 38 66]))))))) (.region [Zm 67 3,Zm 68 7,u1 69 (.buildSlice 1 1 [(.int .i64 0)] [(0,1)]) [.tm 68],u1 70 (.append 1 8 [(.int .i64 0)]) [.tm 67,.tm 69],Zm 3 70])))))))))))))) (.region [Zp 71 13 1,Zm 13 71]))))))) (ZR [Zm 72 3,Zm 2 72] .ret))))⟩
theorem Yzl:Yi YEC Tryz.f106=some v106:=by kernel_rfl
def baseC:Ctr:={ alias:=false,of:=fun l=>match l with
 | [.vs _ _ n sz get]=> .ex (List (Int×Int)) fun l=> .pre (lsP 2 enc2 n sz get l/\(∀x,x∈l->okT x)/\n<=20) (.all Bool fun y=> .fin (.vs true y (YiQ l).length 1 (fun k=>encB ((YiQ l).getD k 0))) [])
 |_=>noC}
def RA8:Env:={ ct:=fun n=>match n with|114=>some gcdC|_=>none,fn:=fun _=>none,meth:=fun _ _=>none}
theorem Yj7:RA8.ct 114=some gcdC:=rfl
theorem YAp:Ys YEC RA8:=by
 refine⟨fun f c h=>?_,fun f vf h=>?_,(fun _ _ _ h=>by cases h),by kernel_rfl,(fun _ h=>by cases h)⟩
 . simp only[RA8]at h
   split at h
   . cases h;exact⟨YxB,Tryz.f114,Tryz.func114,by kernel_rfl,by kernel_rfl⟩
   . cases h
 . cases h
structure DSt where
 f:Nat
 W:List Nat
 n:Nat
 out:List Nat
 yw:Bool
 yo:Bool
theorem YqF{f:Nat}:∀{wait out:List Nat},(Ycz f wait out).length<=out.length+f:=by
 induction f with
 |zero=>intro wait out;rw[Ycz];omega
 |succ f ih=>
   intro wait out
   rw[Ycz]
   split
   . omega
   . split
     . have:= @ih (wait.take (wait.length-1)) out;omega
     . split
       . rename_i hh
         refine YEQ ih ?_
         rw[YE8,YFd,List.length_drop]
         omega
       . refine YEQ ih ?_
         rw[YE8]
         simp only[YFb,YFh]
         omega
theorem YBj:baseC.ok YEC 106:=by
 refine Yc Tryz.func106 Yzl YAp 800 baseC fun args k h=>?_
 simp only[baseC]at h
 split at h
 . rename_i tt z n sz get
   obtain⟨l,⟨⟨rfl,rfl,hg⟩,hl,hn⟩,h⟩:=h
   refine⟨[.vs tt z l.length 2 (fun k=>enc2 (l.getD k default))],⟨⟨id,rfl,rfl,rfl,hg⟩,trivial⟩,?_⟩
   dsimp only[v106,enc2,go_sem,reduceIte,YEx]
   simp only[Yd,YEx,YEz,reduceCtorEq,YEy]
   refine Loop.keep [0,10,0] (Nat×List Nat×Bool) (fun s=>[(3,.own 0 0 s.2.1.length 1),(13,.int .i64 s.1)]) (fun s=>[(0,.own s.2.2 1 s.2.1.length (fun k=>encB (s.2.1.getD k 0)))]) [.gone] (fun s=>s.1<=l.length/\s.2.1=(l.take s.1).foldl Ybj []/\(∀x,x∈s.2.1->2<=x/\x<=1099511627776)/\Yy (Yw s.2.1)<=40*s.1+1/\s.2.1.length<=3000*s.1/\(s.2.2=true->s.2.1.length=0)) (fun s=>l.length-s.1) ?_ ?_
   . refine⟨(0,[],true),⟨by simp only;omega,rfl,⟨fun x hx=>absurd hx (by simp),by decide,YEK _,fun _=>rfl⟩⟩,?_⟩
     dsimp only[YFh,go_sem,reduceIte,YEx]
     simp only[Ya]
     simp
   . rintro⟨i,out,yo⟩ ⟨hi,hG,hok,hbp,hlen,hyo⟩
     dsimp only at hi hG hok hbp hlen hyo
     dsimp only[enc2,YEB,go_sem,reduceIte,YEx]
     simp only[Yd,YEx,YEz,reduceCtorEq,YEy]
     refine⟨fun hlt=>?_,fun hge=>?_⟩
     . have hx:=hl _ (YN (by omega:i<l.length))
       have hstep:(l.take (i+1)).foldl Ybj []=Ybj out (l.getD i default):=by
         rw[YF (by omega),<-hG]
       generalize l.getD i default=x at hx hstep⊢
       obtain⟨q0,q1,q2,q3⟩:=hx
       obtain⟨N,hN⟩:∃N:Nat,x.1=(N:Int):=⟨x.1.toNat,by omega⟩
       have hR:Ybj out x=Ycz 3000 [N] out:=by rw[Ybj,hN,YEB]
       obtain⟨R,hRR⟩:∃R,R=Ybj out x:=⟨_,rfl⟩
       rw[<-hRR]at hR hstep
       rw[hN]
       have hmu:DrOk (40*(i+1)+1) 3000 [N] out:=DrOk.start (by omega) (by omega) hok hbp (by omega)
       refine⟨⟨by omega,by omega⟩,by decide,?_⟩
       refine Loop.keep [0,10,0,0] DSt (fun s=>[(3,.own 0 0 s.out.length 1),(6,.own 2 0 s.n 1)]) (fun s=>[(0,.own s.yo 1 s.out.length (fun k=>encB (s.out.getD k 0))),(2,.own s.yw 1 s.W.length (fun k=>encB (s.W.getD k 0)))]) [] (fun s=>s.n<=s.W.length/\DrOk (40*(i+1)+1) s.f (s.W.take s.n) s.out/\R=Ycz s.f (s.W.take s.n) s.out/\s.out.length+s.f<=3000*(i+1)/\(s.yo=true->s.out.length=0)) (fun s=>s.f) ?_ ?_
       . refine⟨⟨3000,[N],1,out,false,yo⟩,⟨YEK _,hmu,hR,by simp only;omega,hyo⟩,?_⟩
         dsimp only[YFh,YFb,go_sem,reduceIte,YEx]
         simp only[Ya]
         refine⟨by decide,fun k hk=>⟨⟨rfl,rfl⟩,trivial⟩,fun k hk=>?_⟩
         obtain rfl:k=0:=by omega
         exact⟨⟨rfl,rfl⟩,trivial⟩
       . rintro⟨f,W,n,out,yw,yo⟩ ⟨hnW,hmu,hR,hlen,hyo⟩
         dsimp only at hnW hmu hR hlen hyo
         dsimp only[Yj7,gcdC,encB,YEB,go_sem,reduceIte,YEx]
         simp only[Yd,YEx,YEz,reduceCtorEq,YEy]
         have hwl:(W.take n).length=n:=by rw[YFd];omega
         refine⟨fun hpos=>?_,fun hz=>?_⟩
         . have hwn:(W.take n).length≠0:=by omega
           have hgl:(W.take n).getD ((W.take n).length-1) 0=W.getD (n-1) 0:=by
             rw[hwl,YER,YER,YFs,if_pos (by omega)]
           have htl:(W.take n).take ((W.take n).length-1)=W.take (n-1):=by
             rw[hwl,List.take_take];congr 1;omega
           obtain⟨g,rfl⟩:∃g,f=g+1:=⟨f-1,by have:=hmu.mu;omega⟩
           have hnf:n<=70000:=by have:=hmu.mu;omega
           rw[YR (by omega) (by omega),YEB]
           rw[Ycz,if_neg hwn,hgl,htl]at hR
           obtain⟨v,hv⟩:∃v,v=W.getD (n-1) 0:=⟨_,rfl⟩
           have hvr:1<=v/\v<=1099511627776:=by
             have:=hmu.wp _ (YN (l:=W.take n) (i:=(W.take n).length-1) (by omega))
             rw[show(W.take n).getD ((W.take n).length-1) default=W.getD (n-1) 0 from hgl,<-hv]at this
             exact this
           refine⟨⟨by omega,by omega⟩,by omega,⟨by omega,by omega⟩,fun h1=>?_,fun h1=>?_⟩
           . have h1':W.getD (n-1) 0=1:=by omega
             obtain⟨g',hg',hd⟩:=hmu.pop hwn (by rw[hgl];exact h1')
             obtain rfl:g=g':=by omega
             rw[if_pos h1']at hR
             rw[htl]at hd
             refine⟨⟨g,W,n-1,out,yw,yo⟩,⟨by simp only;omega,hd,hR,by simp only;omega,hyo⟩,by simp only;omega,?_⟩
             simp only[Ya]
             exact⟨by decide,by decide⟩
           . have h1':W.getD (n-1) 0≠1:=by omega
             rw[if_neg h1']at hR
             rw[<-hv]at hR h1'⊢
             refine Loop.keep [0,2,2,0,3,0,0,22,0] Nat (fun t=>[(38,.int .i64 t)]) (fun t=>[]) [] (fun t=>t<=out.length/\∀j,j<t->¬1<YFt (out.getD j 0) v) (fun t=>out.length-t) ?_ ?_
             . refine⟨0,⟨by omega,fun j hj=>by omega⟩,?_⟩
               dsimp only[go_sem,reduceIte,YEx]
               simp only[Ya]
               exact⟨by decide,by decide,by decide,rfl⟩
             . rintro t ⟨ht,hno⟩
               dsimp only[Yj7,gcdC,encB,YEB,go_sem,reduceIte,YEx]
               simp only[Yd,YEx,YEz,reduceCtorEq,YEy]
               refine⟨fun hlt2=>?_,fun hge2=>?_⟩
               . have hb:2<=out.getD t 0/\out.getD t 0<=1099511627776:=hmu.op _ (YN (l:=out) (i:=t) (by omega))
                 have w1:IntKind.i64.wrap ((t:Int)+1)=((t+1:Nat):Int):=by rw[YED _ (by omega)];simp
                 rw[w1,YEB]
                 refine⟨⟨by omega,by omega⟩,by omega,out.getD t 0,v,⟨rfl,rfl,by omega,by omega⟩,fun hgt=>?_,fun hng=>?_⟩
                 . have hgt':1<YFt (out.getD t 0) v:=by omega
                   have hh:hitF out v=t:=YkW (fun j hj=>decide_eq_false (hno j hj)) (by omega) (fun _=>decide_eq_true hgt')
                   obtain⟨g',hg',hd⟩:=hmu.hit hwn (i:=t) (by omega) (by rw[hgl,<-hv];exact hgt')
                   obtain rfl:g=g':=by omega
                   rw[hh,if_pos (by omega)]at hR
                   rw[hgl,htl,<-hv]at hd
                   obtain⟨b,hbd⟩:∃b,b=out.getD t 0:=⟨_,rfl⟩
                   rw[<-hbd]at hR hd hb hgt hgt'⊢
                   obtain⟨G,hG'⟩:∃G,G=YFt b v:=⟨_,rfl⟩
                   rw[<-hG']at hR hd hgt hgt'⊢
                   have e1:IntKind.i64.wrap ((b:Int).tdiv (G:Int))=((b/G:Nat):Int):=by
                     have:(b:Int).tdiv (G:Int)=((b/G:Nat):Int):=IntWalk.up_tdiv rfl rfl
                     have h2:b/G<=b:=Nat.div_le_self _ _
                     rw[this]
                     generalize b/G=q at h2⊢
                     exact YED _ (by omega)
                   have e2:IntKind.i64.wrap ((v:Int).tdiv (G:Int))=((v/G:Nat):Int):=by
                     have:(v:Int).tdiv (G:Int)=((v/G:Nat):Int):=IntWalk.up_tdiv rfl rfl
                     have h2:v/G<=v:=Nat.div_le_self _ _
                     rw[this]
                     generalize v/G=q at h2⊢
                     exact YED _ (by omega)
                   rw[e1,e2]
                   have hsub:YjQ out.length (t+1)=out.length-(t+1):=by unfold YjQ;rfl
                   rw[hsub]
                   have hWt:(W.take (n-1)++[G,b/G,v/G]).length=n-1+3:=by rw[YE8,YFd];simp only[YFb,YFh];omega
                   have hol:(out.take t++out.drop (t+1)).length=t+(out.length-(t+1)):=by rw[YE8,YFd,List.length_drop];omega
                   refine⟨⟨by omega,by omega⟩,⟨by omega,by omega⟩,by unfold YW;omega,by omega,by omega,by decide,⟨by unfold YW;omega,fun k hk=>?_⟩,⟨g,W.take (n-1)++[G,b/G,v/G],n-1+3,out.take t++out.drop (t+1),yw&&decide False,yo&&decide (out.length-(t+1)=0)⟩,⟨?_,?_,?_,?_,?_⟩,by simp only;omega,?_⟩
                   . match k,hk with
                     |0,_=>exact⟨rfl,trivial,trivial⟩
                     |1,_=>exact⟨rfl,trivial,trivial⟩
                     |2,_=>exact⟨rfl,trivial,trivial⟩
                   . simp only;omega
                   . simp only;rw[<-hWt,YFF];exact hd
                   . simp only;rw[<-hWt,YFF];exact hR
                   . simp only;omega
                   . simp only
                     intro hy
                     rw[YEI]at hy
                     have:=hyo hy.1
                     omega
                   . simp only[hol,hWt]
                     simp only[Ya]
                     refine⟨by decide,fun k hk=>?_,fun k hk=>?_⟩
                     . rw[YdG]
                       by_cases hkt:k<t
                       . rw[if_pos hkt,YER (l:=_++_),List.getElem?_append_left (by rw[YFd];omega),YFs,if_pos hkt,<-YER]
                         exact⟨⟨rfl,rfl⟩,trivial⟩
                       . rw[if_neg hkt,YER (l:=_++_),List.getElem?_append_right (by rw[YFd];omega),YFd,List.getElem?_drop,<-YER,show t+1+(k-min t out.length)=t+1+(k-t)by omega]
                         exact⟨⟨rfl,rfl⟩,trivial⟩
                     . by_cases hkt:k<n-1
                       . rw[if_pos hkt,YER (l:=_++_),List.getElem?_append_left (by rw[YFd];omega),YFs,if_pos hkt,<-YER]
                         exact⟨⟨rfl,rfl⟩,trivial⟩
                       . rw[if_neg hkt,YER (l:=_++_),List.getElem?_append_right (by rw[YFd];omega),YFd,show k-min (n-1) W.length=k-(n-1)by omega]
                         obtain⟨q,hq⟩:∃q,q=k-(n-1):=⟨_,rfl⟩
                         rw[<-hq]
                         have hq3:q<3:=by omega
                         match q,hq3 with
                         |0,_=>exact⟨⟨rfl,rfl⟩,trivial⟩
                         |1,_=>exact⟨⟨rfl,rfl⟩,trivial⟩
                         |2,_=>exact⟨⟨rfl,rfl⟩,trivial⟩
                 . refine⟨t+1,⟨by omega,fun j hj=>?_⟩,by omega,?_⟩
                   . rcases YFf j t with h'|h'
                     . exact hno j h'
                     . obtain rfl:j=t:=by omega
                       exact fun hh=>hng (by omega)
                   . simp only[Ya]
                     exact⟨by decide,by decide,by decide⟩
               . obtain rfl:t=out.length:=by omega
                 have hh:hitF out v=out.length:=YkW (fun j hj=>decide_eq_false (hno j hj)) (YEK _) (fun hlt=>absurd hlt (Nat.lt_irrefl _))
                 obtain⟨g',hg',hd⟩:=hmu.push hwn (by rw[hgl,<-hv];exact h1')
                 obtain rfl:g=g':=by omega
                 rw[hh,if_neg (Nat.lt_irrefl _)]at hR
                 rw[hgl,htl,<-hv]at hd
                 have hol:(out++[v]).length=out.length+1:=by rw[YE8];rfl
                 refine⟨by decide,⟨by unfold YW;omega,fun k hk=>?_⟩,⟨g,W,n-1,out++[v],yw,yo&&decide False⟩,⟨by simp only;omega,hd,hR,by simp only;omega,?_⟩,by simp only;omega,?_⟩
                 . obtain rfl:k=0:=by omega
                   exact⟨rfl,trivial,trivial⟩
                 . simp
                 . simp only[hol]
                   simp only[Ya]
                   refine⟨by decide,fun k hk=>?_⟩
                   by_cases hkt:k<out.length
                   . rw[if_pos hkt,YER (l:=_++_),List.getElem?_append_left hkt,<-YER]
                     exact⟨⟨rfl,rfl⟩,trivial⟩
                   . obtain rfl:k=out.length:=by omega
                     rw[if_neg hkt,YER (l:=_++_),List.getElem?_append_right (YEK _),Nat.sub_self]
                     exact⟨⟨rfl,rfl⟩,trivial⟩
         . obtain rfl:n=0:=by omega
           rw[List.take_zero]at hR hmu
           have hRo:R=out:=by
             rw[hR]
             cases f with
             |zero=>rfl
             |succ f=>rw[Ycz,if_pos YFh]
           have hpb:=hmu.pb
           rw[show Yw out*Yw []=Yw out from YFI _]at hpb
           refine⟨(i+1,out,yo),⟨by simp only;omega,by rw[hstep,hRo],hmu.op,hpb,by simp only;omega,hyo⟩,by simp only;omega,?_⟩
           rw[YED ((i:Int)+1) (by omega)]
           simp only[Ya]
           exact⟨by decide,by simp⟩
     . obtain rfl:i=l.length:=by omega
       rw[YFF]at hG
       have hG:YiQ l=out:=hG.symm
       rw[hG]at h
       refine YI (show k (.vs true yo out.length 1 (fun k=>encB (out.getD k 0))) []from h yo) ?_ (fun _=>by simp [Ym,encB,Yo])
       have e:expo [HO.own yo 1 out.length fun k=>encB (out.getD k 0)] (SV.own 0 0 out.length 1)= .vs true yo out.length 1 (fun k=>encB (out.getD k 0)):=by
         simp [expo,view,Yct,viewN,getH,YlF,encB]
       rw[e]
       exact YV _ trivial
 . exact h.1.elim
def v86:VF:=⟨39,[.tmp 2],(ZR [u1 2 .mov [.cn (.bool false)]] (.seq (ZR [Zm 9 0,Zc 10 106 9,Zl 11 10,Zi 12 0] (.block 0 (.loop (ZR [Zr 13 .lss 12 11] (.seq (ZC 13 .skip (.exit 0)) (.seq (.block 1 (ZR [Zx 14 1 10 12,Zf 15 1 14,Zm 4 15] (ZR [Zi 5 0] (.seq (ZR [Zm 16 0,Zl 17 16,Zi 18 0] (.block 2 (.loop (ZR [Zr 19 .lss 18 17] (.seq (ZC 19 .skip (.exit 2)) (.seq (.block 3 (ZR [Zx 20 2 16 18,Zt 21 2 20,Zn 7,Zs 2 7 21] (ZR [Za 22 0 7,Zf 23 1 22,Zm 8 23] (.block 4 (.loop (.seq (ZR [Zm 24 8,Zm 25 4,u1 26 .rem [.tm 24,.tm 25],Zq 27 .eql 26 0] (ZC 27 .skip (.exit 4))) (.seq (.block 5 (.region [Zm 31 5,Za 32 1 7,Zf 33 1 32,Zo 34 .add 31 33,Zm 5 34])) (.region [Zm 28 8,Zm 29 4,u1 30 .quo [.tm 28,.tm 29],Zm 8 30])))))))) (.region [Zp 35 18 1,Zm 18 35]))))))) (ZR [Zm 36 5,Zq 37 .neq 36 0] (ZC 37 (ZR [u1 2 .mov [.cn (.bool false)]] .ret) .skip)))))) (.region [Zp 38 12 1,Zm 12 38]))))))) (ZR [u1 2 .mov [.cn (.bool true)]] .ret)))⟩
theorem YEj:Yi YEC Tryz.f86=some v86:=by kernel_rfl
def divL:Nat->Int->Int->Int->Int->Int
 |0,_,_,_,s=>s
 |f+1,b,n,num,s=>if n.tmod b=0 then divL f b (IntKind.i64.wrap (n.tdiv b)) num (IntKind.i64.wrap (s+num))else s
def sumB(l:List (Int×Int))(b:Nat):Int:=l.foldl (fun s x=>divL 64 b x.1 x.2 s) 0
def oneF(l:List (Int×Int)):Bool:=(YiQ l).all fun b=>decide (sumB l b=0)
theorem Yc3{B:Nat}:∀{f:Nat}{wait out:List Nat},DrOk B f wait out->(∀x,x∈Ycz f wait out->2<=x/\x<=1099511627776)/\Yy (Yw (Ycz f wait out))<=B
 |0,wait,out,h=>by
   rw[Ycz]
   have hw:wait=[]:=List.length_eq_zero_iff.1 (by have:=h.mu;omega)
   have:=h.pb
   rw[hw,show Yw out*Yw []=Yw out from YFI _]at this
   exact⟨h.op,this⟩
 |f+1,wait,out,h=>by
   rw[Ycz]
   by_cases hw:wait.length=0
   . rw[if_pos hw]
     have hw:wait=[]:=List.length_eq_zero_iff.1 hw
     have:=h.pb
     rw[hw,show Yw out*Yw []=Yw out from YFI _]at this
     exact⟨h.op,this⟩
   . rw[if_neg hw]
     by_cases h1:wait.getD (wait.length-1) 0=1
     . rw[if_pos h1]
       obtain⟨g,hg,hd⟩:=h.pop hw h1
       obtain rfl:f=g:=by omega
       exact Yc3 hd
     . rw[if_neg h1]
       by_cases h2:hitF out (wait.getD (wait.length-1) 0)<out.length
       . rw[if_pos h2]
         have hs:=(YcG (f:=fun i=>decide (1<YFt (out.getD i 0) (wait.getD (wait.length-1) 0))) out.length 0).2.2.2 (by simpa [hitF]using h2)
         obtain⟨g,hg,hd⟩:=h.hit hw h2 (of_decide_eq_true hs)
         obtain rfl:f=g:=by omega
         exact Yc3 hd
       . rw[if_neg h2]
         obtain⟨g,hg,hd⟩:=h.push hw h1
         obtain rfl:f=g:=by omega
         exact Yc3 hd
theorem YgC{l:List (Int×Int)}(hl:∀x,x∈l->okT x)(hn:l.length<=20):∀x,x∈YiQ l->2<=x/\x<=1099511627776:=by
 have key:∀i,i<=l.length->(∀x,x∈(l.take i).foldl Ybj []->2<=x/\x<=1099511627776)/\Yy (Yw ((l.take i).foldl Ybj []))<=40*i+1:=fun i=>by
   induction i with
   |zero=>exact fun _=>⟨fun x hx=>absurd hx (by simp),by simp [Yw];decide⟩
   |succ i ih=>
     intro hi
     obtain⟨h1,h2⟩:=ih (by omega)
     have hx:=hl _ (YN (by omega:i<l.length))
     rw[YF (by omega)]
     obtain⟨q0,q1,q2,q3⟩:=hx
     exact Yc3 (DrOk.start (by omega) (by omega) h1 h2 (by omega))
 have:=(key l.length (YEK _)).1
 rwa [YFF]at this
theorem Yqb(l:List (Int×Int)):(YiQ l).length<=3000*l.length:=by
 have key:∀(l:List (Int×Int))(out:List Nat),(l.foldl Ybj out).length<=out.length+3000*l.length:=fun l=>by
   induction l with
   |nil=>intro out;simp
   |cons x l ih=>
     intro out
     have h1:=ih (Ybj out x)
     have h2:(Ybj out x).length<=out.length+3000:=YqF
     rw[List.foldl_cons,YFb]
     omega
 have h:=key l []
 rw[YFh,YFv]at h
 exact h
def oneC:Ctr:={ alias:=false,of:=fun l=>match l with
 | [.vs _ _ n sz get]=> .ex (List (Int×Int)) fun l=> .pre (lsP 2 enc2 n sz get l/\(∀x,x∈l->okT x)/\n<=20) (.fin (.bool (oneF l)) [])
 |_=> .pre False (.fin (.bool false) [])}
def RA9:Env:={ ct:=fun n=>match n with|106=>some baseC|_=>none,fn:=fun _=>none,meth:=fun _ _=>none}
theorem Yj8:RA9.ct 106=some baseC:=rfl
theorem YAq:Ys YEC RA9:=by
 refine⟨fun f c h=>?_,fun f vf h=>?_,(fun _ _ _ h=>by cases h),by kernel_rfl,(fun _ h=>by cases h)⟩
 . simp only[RA9]at h
   split at h
   . cases h;exact⟨YBj,Tryz.f106,Tryz.func106,by kernel_rfl,by kernel_rfl⟩
   . cases h
 . cases h
theorem Yyn:oneC.ok YEC 86:=by
 refine Yc Tryz.func86 YEj YAq 500 oneC fun args k h=>?_
 simp only[oneC]at h
 split at h
 . rename_i tt z n sz get
   obtain⟨l,⟨⟨rfl,rfl,hg⟩,hl,hn⟩,h⟩:=h
   refine⟨[.vs tt z l.length 2 (fun k=>enc2 (l.getD k default))],⟨⟨id,rfl,rfl,rfl,hg⟩,trivial⟩,?_⟩
   dsimp only[v86,Yj8,baseC,enc2,go_sem,reduceIte,YEx]
   simp only[Yd,YEx,YEz,reduceCtorEq,YEy]
   refine⟨l,⟨⟨rfl,rfl,fun k hk=>Yb _⟩,hl,hn⟩,fun y=>?_⟩
   have hbr:=YgC hl hn
   have hbl:=Yqb l
   obtain⟨B,hB⟩:∃B,B=YiQ l:=⟨_,rfl⟩
   rw[<-hB]at hbr hbl⊢
   have hone:oneF l=B.all fun b=>decide (sumB l b=0):=by rw[hB];rfl
   refine Loop.keep [0,9,0] Nat (fun i=>[(12,.int .i64 i)]) (fun _=>[]) [] (fun i=>i<=B.length/\((B.take i).all fun b=>decide (sumB l b=0))=true) (fun i=>B.length-i) ?_ ?_
   . refine⟨0,⟨by omega,rfl⟩,?_⟩
     dsimp only[go_sem,reduceIte,YEx]
     simp only[Ya]
     rfl
   . rintro i ⟨hi,hall⟩
     dsimp only[Yj8,baseC,encB,enc2,YEB,go_sem,reduceIte,YEx]
     simp only[Yd,YEx,YEz,reduceCtorEq,YEy]
     refine⟨fun hlt=>⟨⟨by omega,by omega⟩,?_⟩,fun hge=>?_⟩
     . have hb:2<=B.getD i 0/\B.getD i 0<=1099511627776:=hbr _ (YN (l:=B) (i:=i) (by omega))
       have hsucc:((B.take (i+1)).all fun b=>decide (sumB l b=0))=decide (sumB l (B.getD i 0)=0):=by
         rw[YjT (by omega),hall,Bool.true_and];rfl
       have hmemb:B.getD i 0∈B:=YN (l:=B) (i:=i) (by omega)
       obtain⟨b,hbe⟩:∃b,b=B.getD i 0:=⟨_,rfl⟩
       rw[<-hbe]at hb hsucc hmemb⊢
       refine Loop.keep [0,3,5,0,0,3,0] (Nat×Int) (fun s=>[(5,.int .i64 s.2),(18,.int .i64 s.1)]) (fun _=>[]) [] (fun s=>s.1<=l.length/\s.2=(l.take s.1).foldl (fun s x=>divL 64 b x.1 x.2 s) 0) (fun s=>l.length-s.1) ?_ ?_
       . refine⟨(0,0),⟨by simp only;omega,rfl⟩,?_⟩
         dsimp only[go_sem,reduceIte,YEx]
         simp only[Ya]
         rfl
       . rintro⟨t,S⟩ ⟨ht,hS⟩
         dsimp only at ht hS
         dsimp only[enc2,YEB,go_sem,reduceIte,YEx]
         simp only[Yd,YEx,YEz,reduceCtorEq,YEy]
         refine⟨fun hlt2=>⟨⟨by omega,by omega⟩,?_⟩,fun hge2=>?_⟩
         . have hx:=hl _ (YN (by omega:t<l.length))
           have hst:(l.take (t+1)).foldl (fun s x=>divL 64 b x.1 x.2 s) 0=divL 64 b (l.getD t default).1 (l.getD t default).2 S:=by
             rw[YF (by omega),<-hS]
           generalize l.getD t default=x at hx hst⊢
           obtain⟨q0,q1,q2,q3⟩:=hx
           obtain⟨R,hR⟩:∃R,R=divL 64 b x.1 x.2 S:=⟨_,rfl⟩
           rw[<-hR]at hst
           refine Loop.keep [0,3,2,2,0,0,3,0,0] (Nat×Int×Int) (fun s=>[(5,.int .i64 s.2.2),(8,.int .i64 s.2.1)]) (fun _=>[]) [] (fun s=>R=divL s.1 b s.2.1 x.2 s.2.2/\1<=s.2.1/\s.2.1<2^s.1/\s.2.1<=1000000000001) (fun s=>s.1) ?_ ?_
           . refine⟨(64,x.1,S),⟨hR,q0,by simp only;omega,q1⟩,?_⟩
             dsimp only[go_sem,reduceIte,YEx]
             simp only[Ya]
             decide
           . rintro⟨f,n,S'⟩ ⟨hf,n0,n1,n2⟩
             dsimp only at hf n0 n1 n2
             dsimp only[go_sem,reduceIte,YEx]
             simp only[Yd,YEx,YEz,reduceCtorEq,YEy]
             obtain⟨m,rfl⟩:=Int.eq_ofNat_of_zero_le (by omega:0<=n)
             obtain⟨g,rfl⟩:∃g,f=g+1:=by
               cases f with
               |zero=>simp at n1;omega
               |succ g=>exact⟨g,rfl⟩
             rw[divL]at hf
             refine⟨by omega,fun hc=>⟨by omega,?_⟩,fun hc=>?_⟩
             . rw[if_pos hc]at hf
               have e1:(m:Int).tmod (b:Int)=((m%b:Nat):Int):=IntWalk.up_tmod rfl rfl
               have e2:(m:Int).tdiv (b:Int)=((m/b:Nat):Int):=IntWalk.up_tdiv rfl rfl
               rw[e1]at hc
               have hdm:=YFB m b
               rw[show m%b=0 by omega,Nat.add_zero]at hdm
               have hq1:1<=m/b:=Nat.pos_of_ne_zero fun hh=>by rw[hh,Nat.mul_zero]at hdm;omega
               have hq2:2*(m/b)<=m:=by
                 have:2*(m/b)<=b*(m/b):=YEF _ hb.1
                 omega
               rw[e2]at hf⊢
               generalize m/b=q at hq1 hq2 hf⊢
               have eq:IntKind.i64.wrap (q:Int)=(q:Int):=YED _ (by omega)
               rw[eq]at hf⊢
               have n1':m<2^g*2:=by rw[<-YE2];exact_mod_cast n1
               refine⟨(g,q,IntKind.i64.wrap (S'+x.2)),⟨hf,by simp only;omega,?_,by simp only;omega⟩,by simp only;omega,?_⟩
               . show(q:Int)<2^g
                 have:q<2^g:=by omega
                 exact_mod_cast this
               . simp only[Ya]
                 decide
             . rw[if_neg hc]at hf
               refine⟨(t+1,S'),⟨by simp only;omega,by rw[hst,hf]⟩,by simp only;omega,?_⟩
               rw[YED ((t:Int)+1) (by omega)]
               simp only[Ya]
               simp
         . obtain rfl:t=l.length:=by omega
           rw[YFF]at hS
           have hS:S=sumB l b:=hS
           refine⟨fun hc=>?_,fun hc=>⟨i+1,⟨by omega,?_⟩,by omega,?_⟩⟩
           . have:oneF l=false:=by
               rw[hone,List.all_eq_false]
               exact⟨b,hmemb,by rw[<-hS];simpa using hc⟩
             rw[this]at h
             exact YC h
           . rw[hsucc,<-hS];exact decide_eq_true hc
           . rw[YED ((i:Int)+1) (by omega)]
             simp only[Ya]
             simp
     . obtain rfl:i=B.length:=by omega
       rw[YFF]at hall
       rw[hone,hall]at h
       exact YC h
 . exact h.1.elim
def v84:VF:=⟨39,[.tmp 2],(ZR [Zi 2 0] (.seq (ZR [Zm 9 0,Zc 10 103 9,Zm 8 10,Ze 11 0 8,Ze 12 1 8,Zm 3 11,Zm 4 12] (ZR [Zm 13 4] (ZC 13 (ZR [Zm 14 3,Zm 2 14] .ret) .skip))) (.seq (ZR [Zm 15 0,Zc 16 86 15] (ZC 16 (ZR [Zi 2 0] .ret) .skip)) (.seq (ZR [Zi 5 64] (.block 0 (.loop (.seq (ZR [Zm 17 5,Zq 18 .leq 17 2048] (ZC 18 .skip (.exit 0))) (.seq (.block 1 (ZR [Zm 22 0,Zm 23 5,Zd 24 104 22 23,Zm 21 24,Ze 25 0 21,Ze 26 1 21,u1 6 (.alloc [.nil,.nil]) [],u1 7 (.alloc [.nil,.nil]) [],Zs 2 6 25,Zs 2 7 26] (.block 2 (ZR [Za 28 0 6,Zf 29 1 28,Za 30 1 7,Zf 31 1 30,Zd 32 105 29 31,Zm 27 32] (ZC 27 (ZR [Zi 2 1] .ret) (ZR [Za 34 0 7,Zf 35 1 34,Za 36 1 6,Zf 37 1 36,Zd 38 105 35 37,Zm 33 38] (ZC 33 (ZR [Zi 2 (-1)] .ret) .skip))))))) (.region [Zm 19 5,u1 20 (.ari .mul) [.tm 19,.cn (.int .i64 2)],Zm 5 20])))))) (ZR [Zi 2 0] .ret)))))⟩
theorem YEi:Yi YEC Tryz.f84=some v84:=by kernel_rfl
def v81:VF:=⟨33,[.tmp 2],(ZR [Zi 2 0] (.seq (ZR [Zm 5 0,Zl 6 5,Zq 7 .gtr 6 16] (ZC 7 (ZR [Zi 2 3] .ret) .skip)) (.seq (ZR [Zm 8 0,Zl 9 8,Zi 10 0] (.block 0 (.loop (ZR [Zr 11 .lss 10 9] (.seq (ZC 11 .skip (.exit 0)) (.seq (.block 1 (ZR [Zx 12 2 8 10,Zt 13 2 12,Zn 4,Zs 2 4 13] (ZR [Za 14 0 4,Zf 15 1 14,Zq 16 .lss 15 1,Zm 17 16,Zj 18 17 false 0 4,Zh 19 17 false 1 18,u2 20 17 false (.cmp .gtr) [.tm 19,.cn (.int .i64 1000000000000)],u1 21 .or [.tm 17,.tm 20],Zm 22 21,Zj 23 22 false 1 4,Zh 24 22 false 1 23,u2 25 22 false (.cmp .lss) [.tm 24,.cn (.int .i64 (-1000000000))],u1 26 .or [.tm 22,.tm 25],Zm 27 26,Zj 28 27 false 1 4,Zh 29 27 false 1 28,u2 30 27 false (.cmp .gtr) [.tm 29,.cn (.int .i64 1000000000)],u1 31 .or [.tm 27,.tm 30]] (ZC 31 (ZR [Zi 2 2] .ret) .skip)))) (.region [Zp 32 10 1,Zm 10 32]))))))) (ZR [Zi 2 0] .ret))))⟩
theorem YEf:Yi YEC Tryz.f81=some v81:=by kernel_rfl
def Ycn:Nat->List (Int×Int)->Nat->Int
 |0,_,_=>0
 |f+1,l,p=>if(Yco l p).dh<(Yco l p).ul then 1 else if(Yco l p).uh<(Yco l p).dl then -1 else Ycn f l (2*p)
def Yaz(l:List (Int×Int)):Int:=if(YgR l).2=true then(YgR l).1 else if oneF l=true then 0 else Ycn 6 l 64
def signC:Ctr:={ alias:=false,of:=fun l=>match l with
 | [.vs _ _ n sz get]=> .ex (List (Int×Int)) fun l=> .pre (lsP 2 enc2 n sz get l/\(∀x,x∈l->okT x)/\n<=20) (.fin (.int .i64 (Yaz l)) [])
 |_=> .pre False (.fin (.int .i64 0) [])}
def okT0(x:Int×Int):Bool:=decide (x.1<1) || decide (1000000000000<x.1) || decide (x.2< -1000000000) || decide (1000000000<x.2)
def Ycx(l:List (Int×Int)):Int:=if 16<l.length then 3 else if l.any okT0=true then 2 else 0
def chkTC:Ctr:={ alias:=false,of:=fun l=>match l with
 | [.vs _ _ n sz get]=> .ex (List (Int×Int)) fun l=> .pre (lsP 2 enc2 n sz get l/\n<=9223372036854775807) (.fin (.int .i64 (Ycx l)) [])
 |_=>noC}
theorem Yvn(l:List (Int×Int))(p:Nat):(Yco l p).ok:=by
 have key:∀(l:List (Int×Int))(s:Bnd),s.ok->(l.foldl (Ydy p) s).ok:=fun l=>by
   induction l with
   |nil=>intro s h;exact h
   |cons x l ih=>intro s h;exact ih _ (YjS p s x h)
 exact key l _ (by simp [Bnd.ok,nl_0])
def RB0:Env:={ ct:=fun n=>match n with|103=>some guessC|86=>some oneC|104=>some sumsC|105=>some aboveC|_=>none,fn:=fun _=>none,meth:=fun _ _=>none}
theorem Ypw:RB0.ct 103=some guessC:=rfl
theorem Ys4:RB0.ct 86=some oneC:=rfl
theorem Ypx:RB0.ct 104=some sumsC:=rfl
theorem Ypy:RB0.ct 105=some aboveC:=rfl
theorem YAr:Ys YEC RB0:=by
 refine⟨fun f c h=>?_,fun f vf h=>?_,(fun _ _ _ h=>by cases h),by kernel_rfl,(fun _ h=>by cases h)⟩
 . simp only[RB0]at h
   split at h
   . cases h;exact⟨YxE,Tryz.f103,Tryz.func103,by kernel_rfl,by kernel_rfl⟩
   . cases h;exact⟨Yyn,Tryz.f86,Tryz.func86,by kernel_rfl,by kernel_rfl⟩
   . cases h;exact⟨YDB,Tryz.f104,Tryz.func104,by kernel_rfl,by kernel_rfl⟩
   . cases h;exact⟨YlE,Tryz.f105,Tryz.func105,by kernel_rfl,by kernel_rfl⟩
   . cases h
 . cases h
theorem Ysu:signC.ok YEC 84:=by
 refine Yc Tryz.func84 YEi YAr 500 signC fun args k h=>?_
 simp only[signC]at h
 split at h
 . rename_i tt z n sz get
   obtain⟨l,⟨⟨rfl,rfl,hg⟩,hl,hn⟩,h⟩:=h
   refine⟨[.vs tt z l.length 2 (fun k=>enc2 (l.getD k default))],⟨⟨id,rfl,rfl,rfl,hg⟩,trivial⟩,?_⟩
   dsimp only[v84,Ypw,Ys4,guessC,oneC,enc2,go_sem,reduceIte,YEx]
   simp only[Yd,YEx,YEz,reduceCtorEq,YEy]
   have hself:lsP 2 enc2 l.length 2 (fun k=>[SV.int IntKind.i64 (l.getD k default).fst,SV.int IntKind.i64 (l.getD k default).snd]) l:=⟨rfl,rfl,fun k _=>Yb _⟩
   refine⟨l,⟨hself,hl,by omega⟩,by decide,by decide,fun hc=>?_,fun hc=>⟨l,⟨hself,hl,hn⟩,fun hd=>?_,fun hd=>?_⟩⟩
   . rw[Yaz,if_pos hc]at h;exact Yp h
   . rw[Yaz,if_neg (by rw[hc];decide),if_pos hd]at h;exact Yp h
   . rw[Yaz,if_neg (by rw[hc];decide),if_neg (by rw[hd];decide)]at h
     obtain⟨R,hR⟩:∃R,R=Ycn 6 l 64:=⟨_,rfl⟩
     rw[<-hR]at h
     refine Loop.keep [0] (Nat×Nat) (fun s=>[(5,.int .i64 s.2)]) (fun _=>[]) [] (fun s=>R=Ycn s.1 l s.2/\s.2*2^s.1=4096/\64<=s.2) (fun s=>s.1) ?_ ?_
     . refine⟨(6,64),⟨hR,by decide,by decide⟩,?_⟩
       dsimp only[go_sem,reduceIte,YEx]
       simp only[Ya]
       rfl
     . rintro⟨f,p⟩ ⟨hf,hp,hp64⟩
       dsimp only at hf hp hp64
       dsimp only[Ypx,Ypy,sumsC,aboveC,natS,go_sem,reduceIte,YEx]
       simp only[Yd,YEx,YEz,reduceCtorEq,YEy]
       obtain⟨k1,k2,k3,k4⟩:=Yvn l p
       have hfd:p<=2048->∃g,f=g+1:=fun hpl=>by
         rcases YFk f with h0|h0
         . rw[h0,Nat.pow_zero,YFI]at hp;omega
         . exact⟨f-1,by omega⟩
       have hf0:¬p<=2048->f=0:=fun hpl=>by
         rcases YFk f with h0|h0
         . exact h0
         . obtain⟨g,rfl⟩:∃g,f=g+1:=⟨f-1,by omega⟩
           rw[YE2]at hp
           have:1<=2^g:=Yaa g
           have:p*2<=p*(2^g*2):=YEG _ (by omega)
           omega
       refine⟨fun hc=>⟨l,p,⟨hself,hl,by omega,rfl,by omega⟩,fun y1 y2 y3 y4=>⟨by decide,by decide,(Yco l p).ul,(Yco l p).dh,⟨Yl k1,Yl k4⟩,fun hd=>?_,fun hd=>⟨(Yco l p).dl,(Yco l p).uh,⟨Yl k3,Yl k2⟩,fun he=>?_,fun he=>?_⟩⟩⟩,fun hc=>?_⟩
       . obtain⟨g,rfl⟩:=hfd (by omega)
         rw[Ycn,if_pos hd]at hf
         rw[hf]at h;exact Yp h
       . obtain⟨g,rfl⟩:=hfd (by omega)
         rw[Ycn,if_neg hd,if_pos he]at hf
         rw[hf]at h;exact Yp h
       . obtain⟨g,rfl⟩:=hfd (by omega)
         rw[Ycn,if_neg hd,if_neg he]at hf
         rw[YE2]at hp
         have hp2:2*p*2^g=4096:=by rw[<-hp,YEJ 2 p,YEH,YEJ 2]
         refine⟨(g,2*p),⟨hf,hp2,by simp only;omega⟩,by simp only;omega,?_⟩
         rw[show IntKind.i64.wrap ((p:Int)*2)=((2*p:Nat):Int)by rw[YED _ (by omega)];omega]
         simp only[Ya]
       . obtain rfl:=hf0 (by omega)
         rw[Ycn]at hf
         rw[hf]at h;exact Yp h
 . exact h.1.elim
def RB1:Env:={ ct:=fun _=>none,fn:=fun _=>none,meth:=fun _ _=>none}
theorem YAs:Ys YEC RB1:=by
 refine⟨fun f c h=>?_,fun f vf h=>?_,(fun _ _ _ h=>by cases h),by kernel_rfl,(fun _ h=>by cases h)⟩
 . cases h
 . cases h
theorem Yqu:chkTC.ok YEC 81:=by
 refine Yc Tryz.func81 YEf YAs 500 chkTC fun args k h=>?_
 simp only[chkTC]at h
 split at h
 . rename_i tt z n sz get
   obtain⟨l,⟨⟨rfl,rfl,hg⟩,hn⟩,h⟩:=h
   refine⟨[.vs tt z l.length 2 (fun k=>enc2 (l.getD k default))],⟨⟨id,rfl,rfl,rfl,hg⟩,trivial⟩,?_⟩
   dsimp only[v81,enc2,go_sem,reduceIte,YEx]
   simp only[Yd,YEx,YEz,reduceCtorEq,YEy]
   refine⟨fun hc=>?_,fun hc=>?_⟩
   . rw[Ycx,if_pos (by omega)]at h;exact Yp h
   . rw[Ycx,if_neg (by omega)]at h
     refine Loop.keep [0,7,0] Nat (fun i=>[(10,.int .i64 i)]) (fun _=>[]) [] (fun i=>i<=l.length/\(l.take i).any okT0=false) (fun i=>l.length-i) ?_ ?_
     . refine⟨0,⟨by omega,rfl⟩,?_⟩
       dsimp only[go_sem,reduceIte,YEx]
       simp only[Ya]
       rfl
     . rintro i ⟨hi,hall⟩
       dsimp only[enc2,YEB,go_sem,reduceIte,YEx]
       simp only[Yd,YEx,YEz,reduceCtorEq,YEy]
       refine⟨fun hlt=>⟨⟨by omega,by omega⟩,fun hc=>?_,fun hc=>⟨i+1,⟨by omega,?_⟩,by omega,?_⟩⟩,fun hge=>?_⟩
       . have:l.any okT0=true:=List.any_eq_true.2 ⟨_,YN (by omega:i<l.length),hc⟩
         rw[if_pos this]at h
         exact Yp h
       . rw[YjU (by omega),hall,Bool.false_or];exact hc
       . rw[YED ((i:Int)+1) (by omega)]
         simp only[Ya]
         simp
       . obtain rfl:i=l.length:=by omega
         rw[YFF]at hall
         rw[if_neg (by rw[hall];decide)]at h
         exact Yp h
 . exact h.1.elim
def v74:VF:=⟨54,[.tmp 6,.tmp 7,.tmp 8],(ZR [u1 5 .box [.tm 2],Zi 6 0,u1 7 .mov [.cn (.bool false)],Zi 8 0] (.seq (ZR [Zm 13 1,Zc 14 81 13,Zm 9 14] (ZR [Zm 15 9,Zq 16 .neq 15 0] (ZC 16 (ZR [Zm 17 9,Zi 6 0,u1 7 .mov [.cn (.bool false)],Zm 8 17] .ret) .skip))) (.seq (ZR [Zf 18 1 5,Zq 19 .lss 18 1,Zm 20 19,Zh 21 20 false 1 5,u2 22 20 false (.cmp .gtr) [.tm 21,.cn (.int .i64 1000000)],u1 23 .or [.tm 20,.tm 22],Zm 24 23,Zg 25 24 false 0,u2 26 24 false (.cmp .lss) [.tm 25,.cn (.int .i64 1)],u1 27 .or [.tm 24,.tm 26],Zm 28 27,Zg 29 28 false 0,u2 30 28 false (.cmp .gtr) [.tm 29,.cn (.int .i64 1000000000000)],u1 31 .or [.tm 28,.tm 30]] (ZC 31 (ZR [Zi 6 0,u1 7 .mov [.cn (.bool false)],Zi 8 2] .ret) .skip)) (.seq (.drawT [(10,.box [.nil])] (.ops [Zu 32 1] (.ops [Zu 34 0] (.ops [Zv 35 1 5] (.ops [w1 36 (.build [(.int .i64 0),(.int .i64 0)] [(0,1),(1,1)]) [.tm 34,.tm 35]] (.ops [] (.br (.ops [⟨u1 33 (.append 2 16 [(.int .i64 0),(.int .i64 0)]) [.cn .nil,.tm 32],[.tm 0,.tm 34,.tm 5,.tm 35,.tm 34,.tm 35,.tm 36]⟩] (.ops [w1 37 (.buildSlice 2 1 [(.int .i64 0),(.int .i64 0)] [(0,2)]) [.tm 36]] (.ops [w1 38 (.append 2 16 [(.int .i64 0),(.int .i64 0)]) [.tm 33,.tm 37]] (.ops [ZS 1 10 38] .leaf)))) (.ops [w1 37 (.buildSlice 2 1 [(.int .i64 0),(.int .i64 0)] [(0,2)]) [.tm 36]] (.ops [⟨u1 33 (.append 2 16 [(.int .i64 0),(.int .i64 0)]) [.cn .nil,.tm 32],[.tm 0,.tm 34,.tm 5,.tm 35,.tm 34,.tm 35,.tm 36]⟩] (.ops [w1 38 (.append 2 16 [(.int .i64 0),(.int .i64 0)]) [.tm 33,.tm 37]] (.ops [ZS 1 10 38] .leaf))))))))))) (ZR [u1 39 (.mkfn (.func 96) 0) [.tm 10,.tm 5],u1 11 (.alloc [(.val .nilFunc)]) [],Zs 1 11 39] (ZR [u1 40 (.mkfn (.func 97) 0) [.tm 11],Zm 12 40] (.seq (ZR [Zm 41 12,u1 42 .callv [.tm 41,.cn (.int .i64 1000000000001)]] (ZC 42 (ZR [Zi 6 0,u1 7 .mov [.cn (.bool false)],Zi 8 7] .ret) .skip)) (ZR [Zm 43 12,u1 44 (.call 85) [.cn (.int .i64 0),.cn (.int .i64 1000000000001),.tm 43],Zm 6 44] (ZR [Zm 45 6,Zm 46 6,Zq 47 .gtr 46 0,Zm 48 47,Zh 49 48 true 1 11,Zg 50 48 true 6,u2 51 48 true .callv [.tm 49,.tm 50],u2 52 48 true (.call 86) [.tm 51],u1 53 .and [.tm 48,.tm 52],Zm 6 45,Zm 7 53,Zi 8 0] .ret)))))))))⟩
theorem YD8:Yi YEC Tryz.f74=some v74:=by kernel_rfl
def v96:VF:=⟨17,[.tmp 4],(ZR [u1 4 .mov [.cn .nil]] (.seq (.draw [] [Zv 5 1 1,Zv 6 1 1,w1 7 .len [.tm 6],Zv 8 1 1,w1 9 .len [.tm 8],w1 10 (.slice3 2) [.tm 5,.tm 7,.tm 9],Zu 11 0,Zv 12 1 2,w1 13 .neg [.tm 12],w1 14 (.build [(.int .i64 0),(.int .i64 0)] [(0,1),(1,1)]) [.tm 11,.tm 13],w1 15 (.buildSlice 2 1 [(.int .i64 0),(.int .i64 0)] [(0,2)]) [.tm 14],w1 16 (.append 2 16 [(.int .i64 0),(.int .i64 0)]) [.tm 10,.tm 15],Zu 4 16]) .ret))⟩
theorem YEm:Yi YEC Tryz.f96=some v96:=by kernel_rfl
def v97:VF:=⟨13,[.tmp 3],(ZR [u1 3 .mov [.cn (.bool false)]] (ZR [Zm 4 0,Zq 5 .eql 4 0,Zm 6 5,Zh 7 6 false 1 1,Zg 8 6 false 0,u2 9 6 false .callv [.tm 7,.tm 8],u2 10 6 false (.call 84) [.tm 9],u2 11 6 false (.cmp .geq) [.tm 10,.cn (.int .i64 0)],u1 12 .or [.tm 6,.tm 11],Zm 3 12] .ret))⟩
theorem YEn:Yi YEC Tryz.f97=some v97:=by kernel_rfl
def v85:VF:=⟨24,[.tmp 6],(ZR [Zi 6 0] (.seq (.block 0 (.loop (.seq (ZR [Zm 8 1,Zm 9 0,Zo 10 .sub 8 9,Zq 11 .gtr 10 1] (ZC 11 .skip (.exit 0))) (.block 1 (ZR [Zm 12 0,Zm 13 1,Zm 14 0,Zo 15 .sub 13 14,u1 16 .quo [.tm 15,.cn (.int .i64 2)],Zo 17 .add 12 16,Zm 7 17] (ZR [Zm 18 2,Zm 19 7,u1 20 .callv [.tm 18,.tm 19]] (ZC 20 (.region [Zm 21 7,Zm 0 21]) (.region [Zm 22 7,Zm 1 22])))))))) (ZR [Zm 23 0,Zm 6 23] .ret)))⟩
theorem YwB:Yi YEC Tryz.f85=some v85:=by kernel_rfl
def bisL:Nat->(Int->Bool)->Int->Int->Int
 |0,_,a,_=>a
 |f+1,t,a,b=>if 1<b-a then(if t (a+(b-a)/2)=true then bisL f t (a+(b-a)/2) b else bisL f t a (a+(b-a)/2))else a
def atF(all:List (Int×Int))(den k:Int):List (Int×Int):=all++[(k, -den)]
def isF(all:List (Int×Int))(den k:Int):Bool:=decide (k=0) || decide (0<=Yaz (atF all den k))
def Yu1(s:Int)(l:List (Int×Int))(den:Int):Int×Bool×Int:=
 if isF (l++[(s,den)]) den 1000000000001=true then(0,false,7)
 else(bisL 64 (isF (l++[(s,den)]) den) 0 1000000000001,decide (0<bisL 64 (isF (l++[(s,den)]) den) 0 1000000000001)&&oneF (atF (l++[(s,den)]) den (bisL 64 (isF (l++[(s,den)]) den) 0 1000000000001)),0)
def YiP(s den:Int):Bool:=decide (den<1) || (decide (1000000<den) || (decide (s<1) || decide (1000000000000<s)))
def Yd8(s:Int)(l:List (Int×Int))(den:Int):Int×Bool×Int:=
 if Ycx l≠0 then(0,false,Ycx l)else if YiP s den=true then(0,false,2)else Yu1 s l den
theorem YwV{s den:Int}(h:YiP s den=false):(1<=s/\s<=1000000000000)/\1<=den/\den<=1000000:=by
 simp only[YiP,YE9,decide_eq_false_iff_not]at h;omega
theorem YiW{l:List (Int×Int)}(h:Ycx l=0):(∀x,x∈l->okT0 x=false)/\l.length<=16:=by
 unfold Ycx at h
 split at h
 . cases h
 . split at h
   . cases h
   . rename_i h1 h2
     rw[Bool.not_eq_true,List.any_eq_false]at h2
     exact⟨fun x hx=>by simpa using h2 x hx,by omega⟩
def prodC:Ctr:={ alias:=false,of:=fun l=>match l with
 | [.int .i64 s,.vs _ _ n sz get,.int .i64 den]=> .ex (List (Int×Int)) fun l=> .pre (lsP 2 enc2 n sz get l/\1<=n/\n<=1000000000000) (.fin (.tup [.int .i64 (Yd8 s l den).1,.bool (Yd8 s l den).2.1,.int .i64 (Yd8 s l den).2.2]) [])
 |_=>noC}
theorem YBe{l:List (Int×Int)}{s den kk:Int}{hp:List HO}{r:List SV->List SV}{i k:Nat}(hk:k<l.length+1+1):
   leXL (Yct false hp r (if k<l.length+1 then if k<l.length then [SV.int IntKind.i64 (l.getD k default).fst,SV.int IntKind.i64 (l.getD k default).snd]else Yk i (Yx 2 (Yt ((k-l.length)*2) [SV.int IntKind.i64 s,SV.int IntKind.i64 den]))else Yx 2 (Yt ((k-(l.length+1))*2) [SV.int IntKind.i64 kk,SV.int IntKind.i64 (-den)]))) (enc2 ((atF (l++[(s,den)]) den kk).getD k default)):=by
 unfold atF
 rw[List.append_assoc]
 by_cases h1:k<l.length
 . rw[if_pos (by omega),if_pos h1,YER (l:=_++_),List.getElem?_append_left h1,<-YER]
   exact Yb _
 . rw[YER (l:=_++_),List.getElem?_append_right (by omega),if_neg h1]
   by_cases h2:k<l.length+1
   . rw[if_pos h2,show k-l.length=0 by omega]
     exact Yb _
   . rw[if_neg h2,show k-(l.length+1)=0 by omega,show k-l.length=1 by omega]
     exact Yb _
theorem Yvd{l:List (Int×Int)}{s den:Int}{i k a b:Nat}(hk:k<l.length+1):leL a b (if k<l.length then [SV.int IntKind.i64 (l.getD k default).fst,SV.int IntKind.i64 (l.getD k default).snd]else Yk i (Yx 2 (Yt ((k-l.length)*2) [SV.int IntKind.i64 s,SV.int IntKind.i64 den]))) (if k<l.length then [SV.int IntKind.i64 (l.getD k default).fst,SV.int IntKind.i64 (l.getD k default).snd]else Yk i (Yx 2 (Yt ((k-l.length)*2) [SV.int IntKind.i64 s,SV.int IntKind.i64 den]))):=by
 by_cases h1:k<l.length
 . rw[if_pos h1];exact⟨⟨rfl,rfl⟩,⟨rfl,rfl⟩,trivial⟩
 . rw[if_neg h1,show k-l.length=0 by omega];exact⟨⟨rfl,rfl⟩,⟨rfl,rfl⟩,trivial⟩
theorem Yy3{s den:Int}{i k a b:Nat}(hk:k<1):leL a b (Yk i (Yx 2 (Yt (k*2) [SV.int IntKind.i64 s,SV.int IntKind.i64 den]))) (Yk i (Yx 2 (Yt (k*2) [SV.int IntKind.i64 s,SV.int IntKind.i64 den]))):=by
 obtain rfl:k=0:=by omega
 exact⟨⟨rfl,rfl⟩,⟨rfl,rfl⟩,trivial⟩
theorem Yy4{l:List (Int×Int)}{s den kk dd:Int}{i k a b:Nat}(hk:k<l.length+1+1):leL a b (if k<l.length+1 then if k<l.length then [SV.int IntKind.i64 (l.getD k default).fst,SV.int IntKind.i64 (l.getD k default).snd]else Yk i (Yx 2 (Yt ((k-l.length)*2) [SV.int IntKind.i64 s,SV.int IntKind.i64 den]))else Yx 2 (Yt ((k-(l.length+1))*2) [SV.int IntKind.i64 kk,SV.int IntKind.i64 dd])) (if k<l.length+1 then if k<l.length then [SV.int IntKind.i64 (l.getD k default).fst,SV.int IntKind.i64 (l.getD k default).snd]else Yk i (Yx 2 (Yt ((k-l.length)*2) [SV.int IntKind.i64 s,SV.int IntKind.i64 den]))else Yx 2 (Yt ((k-(l.length+1))*2) [SV.int IntKind.i64 kk,SV.int IntKind.i64 dd])):=by
 by_cases h1:k<l.length+1
 . rw[if_pos h1];exact Yvd h1
 . rw[if_neg h1,show k-(l.length+1)=0 by omega];exact⟨⟨rfl,rfl⟩,⟨rfl,rfl⟩,trivial⟩
theorem YwT{l:List (Int×Int)}{s den kk:Int}{hp:List HO}{r:List SV->List SV}{i:Nat}:
   lsP 2 enc2 (l.length+1+1) 2 (fun k=>Yct false hp r (if k<l.length+1 then if k<l.length then [SV.int IntKind.i64 (l.getD k default).fst,SV.int IntKind.i64 (l.getD k default).snd]else Yk i (Yx 2 (Yt ((k-l.length)*2) [SV.int IntKind.i64 s,SV.int IntKind.i64 den]))else Yx 2 (Yt ((k-(l.length+1))*2) [SV.int IntKind.i64 kk,SV.int IntKind.i64 (-den)]))) (atF (l++[(s,den)]) den kk):=
 ⟨rfl,by simp [atF],fun k hk=>YBe hk⟩
theorem YwU{l:List (Int×Int)}{s den kk:Int}(hl:∀x,x∈l->okT0 x=false)(hs:1<=s/\s<=1000000000000)(hd:1<=den/\den<=1000000)(hk:1<=kk/\kk<=1000000000001):∀x,x∈atF (l++[(s,den)]) den kk->okT x:=by
 intro x hx
 unfold atF at hx
 rw[YE3,YE3,YFg,YFg]at hx
 rcases hx with(hx|rfl) |rfl
 . have:=hl x hx
   unfold okT0 at this
   simp only[YE9,decide_eq_false_iff_not]at this
   unfold okT
   omega
 . simp only[okT];omega
 . simp only[okT];omega
theorem Yp9{l:List (Int×Int)}{s den:Int}{i k:Nat}(hk:k<l.length+1):lenL (if k<l.length then [SV.int IntKind.i64 (l.getD k default).fst,SV.int IntKind.i64 (l.getD k default).snd]else Yk i (Yx 2 (Yt ((k-l.length)*2) [SV.int IntKind.i64 s,SV.int IntKind.i64 den])))=2/\ones (if k<l.length then [SV.int IntKind.i64 (l.getD k default).fst,SV.int IntKind.i64 (l.getD k default).snd]else Yk i (Yx 2 (Yt ((k-l.length)*2) [SV.int IntKind.i64 s,SV.int IntKind.i64 den]))):=by
 by_cases h1:k<l.length
 . rw[if_pos h1];exact⟨rfl,trivial,trivial,trivial⟩
 . rw[if_neg h1,show k-l.length=0 by omega];exact⟨rfl,trivial,trivial,trivial⟩
theorem YjA{a b:Int}{k:Nat}(hk:k<1):lenL (Yx 2 (Yt (k*2) [SV.int IntKind.i64 a,SV.int IntKind.i64 b]))=2/\ones (Yx 2 (Yt (k*2) [SV.int IntKind.i64 a,SV.int IntKind.i64 b])):=by
 obtain rfl:k=0:=by omega
 exact⟨rfl,trivial,trivial,trivial⟩
def RB2:Env:={ ct:=fun n=>match n with|81=>some chkTC|84=>some signC|86=>some oneC|_=>none,fn:=fun n=>match n with|96=>some v96|97=>some v97|85=>some v85|_=>none,meth:=fun _ _=>none}
theorem Ys5:RB2.ct 81=some chkTC:=rfl
theorem Ymw:RB2.ct 84=some signC:=rfl
theorem Ys7:RB2.ct 86=some oneC:=rfl
theorem Ymx:RB2.ct 96=none:=rfl
theorem Ymz:RB2.fn 96=some v96:=rfl
theorem Ymy:RB2.ct 97=none:=rfl
theorem YmA:RB2.fn 97=some v97:=rfl
theorem Ys6:RB2.ct 85=none:=rfl
theorem Ys8:RB2.fn 85=some v85:=rfl
theorem YAt:Ys YEC RB2:=by
 refine⟨fun f c h=>?_,fun f vf h=>?_,(fun _ _ _ h=>by cases h),by kernel_rfl,(fun _ h=>by cases h)⟩
 . simp only[RB2]at h
   split at h
   . cases h;exact⟨Yqu,Tryz.f81,Tryz.func81,by kernel_rfl,by kernel_rfl⟩
   . cases h;exact⟨Ysu,Tryz.f84,Tryz.func84,by kernel_rfl,by kernel_rfl⟩
   . cases h;exact⟨Yyn,Tryz.f86,Tryz.func86,by kernel_rfl,by kernel_rfl⟩
   . cases h
 . simp only[RB2]at h
   split at h
   . cases h;exact⟨Tryz.f96,Tryz.func96,YEm,Tryz.f96,Tryz.func96,by kernel_rfl,by kernel_rfl⟩
   . cases h;exact⟨Tryz.f97,Tryz.func97,YEn,Tryz.f97,Tryz.func97,by kernel_rfl,by kernel_rfl⟩
   . cases h;exact⟨Tryz.f85,Tryz.func85,YwB,Tryz.f85,Tryz.func85,by kernel_rfl,by kernel_rfl⟩
   . cases h
theorem Yd9{k:SV->List HO->Prop}{al:Bool}{hp:List HO}{κ κ':IntKind}{x e:Int}{b:Bool}(h:k (.tup [.int κ x,.bool b,.int κ' e]) []):YO al k (.tup [.int κ x,.bool b,.int κ' e]) hp:=
 YI (show k _ []from h) (YV (.tup [.int κ x,.bool b,.int κ' e]) ⟨trivial,trivial,trivial,trivial⟩) (fun _=>by simp [Ym,Yo])
theorem YCF:prodC.ok YEC 74:=by
 refine Yc Tryz.func74 YD8 YAt 800 prodC fun args k h=>?_
 simp only[prodC]at h
 split at h
 . rename_i s tt z n sz get den
   obtain⟨l,⟨⟨rfl,rfl,hg⟩,hn1,hnb⟩,h⟩:=h
   refine⟨[.int .i64 s,.vs tt z l.length 2 (fun k=>enc2 (l.getD k default)),.int .i64 den],⟨⟨rfl,rfl⟩,⟨id,rfl,rfl,rfl,hg⟩,⟨rfl,rfl⟩,trivial⟩,?_⟩
   dsimp only[v74,Ys5,chkTC,enc2,go_sem,reduceIte,YEx]
   simp only[Yd,YEx,YEz,reduceCtorEq,YEy]
   refine⟨l,⟨⟨rfl,rfl,fun k _=>Yb _⟩,by omega⟩,fun hh=>by rw[Yd8,if_pos hh]at h;exact Yd9 h,fun hchk=>?_⟩
   obtain⟨hl,hn⟩:=YiW hchk
   rw[Yd8,if_neg (by rw[hchk];decide)]at h
   refine⟨fun hh=>?_,fun hb=>?_⟩
   . rw[if_pos (show YiP s den=true by rw[YiP];simpa [Bool.or_assoc]using hh)]at h
     exact Yd9 h
   have hb:YiP s den=false:=by rw[YiP];simpa [Bool.or_assoc]using hb
   rw[if_neg (by rw[hb];decide)]at h
   obtain⟨hs,hd⟩:=YwV hb
   have hnd:IntKind.i64.wrap (0-den)= -den:=by rw[YED _ (by omega)];omega
   refine⟨⟨by unfold YW;omega,by decide,⟨by unfold YW;omega,fun k hk=>?_⟩,?_⟩,by decide,by unfold YW;omega,⟨by unfold YW;omega,fun k hk=>?_⟩,?_⟩
   all_goals (try exact YjA hk)
   all_goals
     dsimp only[Ymy,YmA,v97,Ymx,Ymz,v96,Ymw,signC,go_sem,reduceIte,YEx]
     simp only[Yd,YEx,YEz,reduceCtorEq,YEy]
     rw[hnd]
     simp only[YEB]
     have hK:(1:Int)<=1000000000001/\(1000000000001:Int)<=1000000000001:=by decide
     refine⟨fun _=>⟨⟨by omega,by omega⟩,by decide,⟨by decide,by unfold YW;omega,fun k hk=>Yp9 hk,fun k hk=>YjA hk⟩,atF (l++[(s,den)]) den 1000000000001,fun _=>⟨YwT,YwU hl hs ⟨hd.1,hd.2⟩ hK,by omega⟩,fun hc=>?_,fun hc=>?_⟩,fun hh=>absurd hh (by decide)⟩
     . have hc:isF (l++[(s,den)]) den 1000000000001=true:=hc
       rw[Yu1,if_pos hc]at h
       exact Yd9 h
     . have hc:isF (l++[(s,den)]) den 1000000000001=false:=hc
       rw[Yu1,if_neg (by rw[hc];decide)]at h
       dsimp only[Ys6,Ys8,v85,go_sem,reduceIte,YEx]
       simp only[Yd,YEx,YEz,reduceCtorEq,YEy]
       obtain⟨t,ht⟩:∃t,t=isF (l++[(s,den)]) den:=⟨_,rfl⟩
       obtain⟨R,hR⟩:∃R,R=bisL 64 t 0 1000000000001:=⟨_,rfl⟩
       rw[<-ht,<-hR]at h
       refine Loop.keep [2] (Nat×Int×Int) (fun s=>[(0,.int .i64 s.2.1),(1,.int .i64 s.2.2)]) (fun _=>[]) [] (fun s=>R=bisL s.1 t s.2.1 s.2.2/\0<=s.2.1/\s.2.1<s.2.2/\s.2.2<=1000000000001/\s.2.2-s.2.1<=2^s.1) (fun s=>s.1) ?_ ?_
       . refine⟨(64,0,1000000000001),⟨hR,by decide,by decide,by decide,by decide⟩,?_⟩
         dsimp only[go_sem,reduceIte,YEx]
         simp only[Ya]
         repeat' apply YEU
         all_goals first|decide| (intro k hk;first|exact Yvd hk|exact Yy3 hk|exact Yy4 hk)
       . rintro⟨f,lo,hi⟩ ⟨hf,b0,b1,b2,b3⟩
         dsimp only at hf b0 b1 b2 b3
         dsimp only[Ymy,YmA,v97,Ymx,Ymz,v96,Ymw,Ys7,signC,oneC,go_sem,reduceIte,YEx]
         simp only[Yd,YEx,YEz,reduceCtorEq,YEy]
         rw[hnd]
         simp only[YEB]
         have ed:IntKind.i64.wrap (hi-lo)=hi-lo:=YED _ (by omega)
         have e2:IntKind.i64.wrap ((hi-lo).tdiv 2)=(hi-lo)/2:=by
           rw[Int.tdiv_eq_ediv_of_nonneg (by omega),YED _ (by omega)]
         have e3:IntKind.i64.wrap (lo+(hi-lo)/2)=lo+(hi-lo)/2:=YED _ (by omega)
         rw[ed,e2,e3]
         refine⟨fun hc1=>?_,fun hc1=>?_⟩
         . obtain⟨m,hm⟩:∃m,m=lo+(hi-lo)/2:=⟨_,rfl⟩
           rw[<-hm]
           obtain⟨g,rfl⟩:∃g,f=g+1:=by
             cases f with
             |zero=>simp at b3;omega
             |succ g=>exact⟨g,rfl⟩
           rw[bisL,if_pos hc1,<-hm]at hf
           have b4:hi-lo<=2^g*2:=by rw[<-Int.pow_succ];exact b3
           have hm0:¬m=0:=by omega
           refine⟨by decide,fun _=>⟨⟨by omega,by omega⟩,by decide,⟨by decide,by unfold YW;omega,fun k hk=>Yp9 hk,fun k hk=>YjA hk⟩,atF (l++[(s,den)]) den m,fun _=>⟨YwT,YwU hl hs ⟨hd.1,hd.2⟩ (by omega),by omega⟩,fun hd1=>?_,fun hd1=>?_⟩,fun hh=>absurd hh hm0⟩
           . have hd1:t m=true:=by rw[ht];exact hd1
             rw[if_pos hd1]at hf
             refine⟨(g,m,hi),⟨hf,by simp only;omega,by simp only;omega,b2,by simp only;omega⟩,by simp only;omega,?_⟩
             simp only[Ya]
             repeat' apply YEU
             all_goals first|decide| (intro k hk;first|exact Yvd hk|exact Yy3 hk|exact Yy4 hk)
           . have hd1:t m=false:=by rw[ht];exact hd1
             rw[if_neg (by rw[hd1];decide)]at hf
             refine⟨(g,lo,m),⟨hf,by simp only;omega,by simp only;omega,by simp only;omega,by simp only;omega⟩,by simp only;omega,?_⟩
             simp only[Ya]
             repeat' apply YEU
             all_goals first|decide| (intro k hk;first|exact Yvd hk|exact Yy3 hk|exact Yy4 hk)
         . have hRlo:R=lo:=by
             cases f with
             |zero=>exact hf
             |succ g=>rw[hf,bisL,if_neg hc1]
           subst hRlo
           refine⟨fun hp=>⟨⟨by omega,by omega⟩,by decide,⟨by decide,by unfold YW;omega,fun k hk=>Yp9 hk,fun k hk=>YjA hk⟩,atF (l++[(s,den)]) den R,fun _=>⟨YwT,YwU hl hs ⟨hd.1,hd.2⟩ (by omega),by omega⟩,Yd9 h⟩,fun hp=>⟨fun hh=>absurd hh hp,?_⟩⟩
           rw[decide_eq_false hp,Bool.false_and]at h⊢
           exact Yd9 h
 . exact h.1.elim
structure Rt where
 a:Int
 b:Int
 c:Int
 d:Int
 e:Int
 f:Int
 n:Int
 deriving Inhabited,DecidableEq
def encR(r:Rt):List SV:=[.int .i64 r.a,.int .i64 r.b,.int .i64 r.c,.int .i64 r.d,.int .i64 r.e,.int .i64 r.f,.int .i64 r.n]
def badN(n:Int):Bool:=decide (n< -100000) || decide (100000<n)
def gcdR(r:Rt):Nat:=((((((r.n.toNat).gcd r.a.natAbs).gcd r.b.natAbs).gcd r.c.natAbs).gcd r.d.natAbs).gcd r.e.natAbs).gcd r.f.natAbs
def chkR(r:Rt):Int:=
 if r.n<1\/1000<r.n then 2 else if badN r.a|| (badN r.b|| (badN r.c|| (badN r.d|| (badN r.e|| badN r.f))))then 2 else if 1<gcdR r then 6 else 0
def YaN:Rt:=⟨0,0,0,0,0,0,0⟩
def divR(r:Rt)(g:Int):Rt:=⟨r.a.tdiv g,r.b.tdiv g,r.c.tdiv g,r.d.tdiv g,r.e.tdiv g,r.f.tdiv g,r.n.tdiv g⟩
def YcW(r:Rt):Rt×Int:=if chkR (divR r (gcdR r))=0 then(divR r (gcdR r),0)else(YaN,7)
def Ya6(x y:Rt)(by':Int):Rt×Int:=
 if chkR x≠0 then(YaN,chkR x)else if chkR y≠0 then(YaN,chkR y)
 else YcW ⟨x.a*y.n+by'*y.a*x.n,x.b*y.n+by'*y.b*x.n,x.c*y.n+by'*y.c*x.n,x.d*y.n+by'*y.d*x.n,x.e*y.n+by'*y.e*x.n,x.f*y.n+by'*y.f*x.n,x.n*y.n⟩
def tm1(p n:Int):List (Int×Int):=if n=0 then []else [(p,n)]
def Yg(r:Rt):List (Int×Int):=tm1 2 r.a++(tm1 3 r.b++(tm1 5 r.c++(tm1 7 r.d++(tm1 11 r.e++tm1 13 r.f))))
theorem YbB(r:Rt):(Yg r).length<=6:=by
 have h:∀p n:Int,(tm1 p n).length<=1:=fun p n=>by unfold tm1;split <;> simp
 have:=h 2 r.a;have:=h 3 r.b;have:=h 5 r.c;have:=h 7 r.d;have:=h 11 r.e;have:=h 13 r.f
 simp only[Yg,YE8];omega
theorem Yff{r:Rt}(h:chkR r=0):(1<=r.n/\r.n<=1000)/\badN r.a=false/\badN r.b=false/\badN r.c=false/\badN r.d=false/\badN r.e=false/\badN r.f=false/\gcdR r<=1:=by
 unfold chkR at h
 split at h
 . cases h
 . split at h
   . cases h
   . split at h
     . cases h
     . rename_i h1 h2 h3
       simp only[YFn,not_or,Bool.not_eq_true]at h2
       exact⟨by omega,h2.1,h2.2.1,h2.2.2.1,h2.2.2.2.1,h2.2.2.2.2.1,h2.2.2.2.2.2,by omega⟩
theorem YbY{n:Int}(h:badN n=false): -100000<=n/\n<=100000:=by
 simp only[badN,YE9,decide_eq_false_iff_not]at h;omega
theorem Yam{x y X Y:Int}(hx: -X<=x/\x<=X)(hy: -Y<=y/\y<=Y): -(X*Y)<=x*y/\x*y<=X*Y:=by
 have h0:0<=X:=by omega
 have h1:0<=Y:=by omega
 have a1:=YEL (show 0<=X-x by omega) (show 0<=Y+y by omega)
 have a2:=YEL (show 0<=X+x by omega) (show 0<=Y-y by omega)
 have a3:=YEL (show 0<=X-x by omega) (show 0<=Y-y by omega)
 have a4:=YEL (show 0<=X+x by omega) (show 0<=Y+y by omega)
 rw[Int.sub_mul,Int.mul_add,Int.mul_add]at a1
 rw[Int.add_mul,Int.mul_sub,Int.mul_sub]at a2
 rw[Int.sub_mul,Int.mul_sub,Int.mul_sub]at a3
 rw[Int.add_mul,Int.mul_add,Int.mul_add]at a4
 omega
def v115:VF:=⟨7,[.tmp 2],(ZR [Zi 2 0] (ZR [Zm 3 0,Zm 4 0,u1 5 .neg [.tm 4],u1 6 .max [.tm 3,.tm 5],Zm 2 6] .ret))⟩
theorem Yzr:Yi YEC Tryz.f115=some v115:=by kernel_rfl
def v102:VF:=⟨34,[.tmp 2],(ZR [u1 1 .box [.tm 0],Zi 2 0] (.seq (ZR [Za 6 6 1,Zf 7 1 6,Zq 8 .lss 7 1,Zm 9 8,Zj 10 9 false 6 1,Zh 11 9 false 1 10,u2 12 9 false (.cmp .gtr) [.tm 11,.cn (.int .i64 1000)],u1 13 .or [.tm 9,.tm 12]] (ZC 13 (ZR [Zi 2 2] .ret) .skip)) (ZR [Za 14 6 1,Zf 15 1 14,Zm 3 15] (.seq (ZR [Za 16 0 1,Zt 17 6 16,Zi 18 0] (.block 0 (.loop (ZR [Zq 19 .lss 18 6] (.seq (ZC 19 .skip (.exit 0)) (.seq (.block 1 (ZR [u1 20 (.index false 6 1) [.tm 17,.tm 18],Zm 5 20] (.seq (ZR [Zm 21 5,Zq 22 .lss 21 (-100000),Zm 23 22,Zg 24 23 false 5,u2 25 23 false (.cmp .gtr) [.tm 24,.cn (.int .i64 100000)],u1 26 .or [.tm 23,.tm 25]] (ZC 26 (ZR [Zi 2 2] .ret) .skip)) (.region [Zm 27 3,Zm 28 5,Zc 29 115 28,Zd 30 114 27 29,Zm 3 30])))) (.region [Zp 31 18 1,Zm 18 31]))))))) (.seq (ZR [Zm 32 3,Zq 33 .gtr 32 1] (ZC 33 (ZR [Zi 2 6] .ret) .skip)) (ZR [Zi 2 0] .ret))))))⟩
theorem Yzh:Yi YEC Tryz.f102=some v102:=by kernel_rfl
def v113:VF:=⟨43,[.cell 4 true 7,.tmp 5],(ZR [u1 2 .box [.tm 0],u1 4 (.alloc [(.int .i64 0),(.int .i64 0),(.int .i64 0),(.int .i64 0),(.int .i64 0),(.int .i64 0),(.int .i64 0)]) [],Zi 5 0] (ZR [Zm 12 1,Zm 6 12] (.seq (ZR [Zt 13 6 2,Zi 14 0] (.block 0 (.loop (ZR [Zq 15 .lss 14 6] (.seq (ZC 15 .skip (.exit 0)) (.seq (.block 1 (ZR [u1 16 (.index false 6 1) [.tm 13,.tm 14],Zm 8 16] (.region [Zm 17 6,Zm 18 8,Zc 19 115 18,Zd 20 114 17 19,Zm 6 20]))) (.region [Zp 21 14 1,Zm 14 21]))))))) (ZR [Zm 22 1,Zm 23 6,u1 24 .quo [.tm 22,.tm 23],u1 25 (.build [(.int .i64 0),(.int .i64 0),(.int .i64 0),(.int .i64 0),(.int .i64 0),(.int .i64 0),(.int .i64 0)] [(6,1)]) [.tm 24],u1 9 (.alloc [(.int .i64 0),(.int .i64 0),(.int .i64 0),(.int .i64 0),(.int .i64 0),(.int .i64 0),(.int .i64 0)]) [],Zs 7 9 25] (.seq (ZR [Zt 26 6 2,Zi 27 0] (.block 2 (.loop (ZR [Zq 28 .lss 27 6] (.seq (ZC 28 .skip (.exit 2)) (.seq (.block 3 (ZR [Zm 29 27,u1 30 (.index false 6 1) [.tm 26,.tm 27],Zm 10 29,Zm 11 30] (.region [Zm 31 10,Zm 32 11,Zm 33 6,u1 34 .quo [.tm 32,.tm 33],Za 35 0 9,u1 36 (.idxArr 6 1) [.tm 35,.tm 31],Zs 1 36 34]))) (.region [Zp 37 27 1,Zm 27 37]))))))) (.seq (ZR [Zt 38 7 9,Zc 39 102 38,Zq 40 .neq 39 0] (ZC 40 (ZR [u1 41 (.build [(.int .i64 0),(.int .i64 0),(.int .i64 0),(.int .i64 0),(.int .i64 0),(.int .i64 0),(.int .i64 0)] []) [],Zs 7 4 41,Zi 5 7] .ret) .skip)) (ZR [Zt 42 7 9,Zs 7 4 42,Zi 5 0] .ret)))))))⟩
theorem Yzp:Yi YEC Tryz.f113=some v113:=by kernel_rfl
def v112:VF:=⟨5,[.tmp 2],(ZR [Zi 2 0] (ZR [Zm 3 0,Zc 4 133 3,Zm 2 4] .ret))⟩
theorem Yzo:Yi YEC Tryz.f112=some v112:=by kernel_rfl
def v133:VF:=⟨18,[.tmp 2],(ZR [Zi 2 0] (ZR [Zi 3 0] (.seq (ZR [Zm 6 0,Zl 7 6,Zi 8 0] (.block 0 (.loop (ZR [Zr 9 .lss 8 7] (.seq (ZC 9 .skip (.exit 0)) (.seq (.block 1 (ZR [Zx 10 1 6 8,Zf 11 1 10,Zm 5 11] (ZR [Zm 12 5,Zm 13 3,Zr 14 .neq 12 13] (ZC 14 (ZR [Zm 15 5,Zm 2 15] .ret) .skip)))) (.region [Zp 16 8 1,Zm 8 16]))))))) (ZR [Zm 17 3,Zm 2 17] .ret))))⟩
theorem YzG:Yi YEC Tryz.f133=some v133:=by kernel_rfl
def v101:VF:=⟨53,[.cell 6 true 7,.tmp 7],(ZR [u1 3 .box [.tm 0],u1 4 .box [.tm 1],u1 6 (.alloc [(.int .i64 0),(.int .i64 0),(.int .i64 0),(.int .i64 0),(.int .i64 0),(.int .i64 0),(.int .i64 0)]) [],Zi 7 0] (.seq (.seq (.draw [] [Zw 11 7 3,Zw 13 7 4,w1 12 (.call 102) [.tm 11],w1 14 (.call 102) [.tm 13],w1 15 (.buildSlice 1 2 [(.int .i64 0)] [(0,1),(1,1)]) [.tm 12,.tm 14],w1 16 (.call 112) [.tm 15],Zu 8 16]) (ZR [Zm 17 8,Zq 18 .neq 17 0] (ZC 18 (ZR [u1 19 (.build [(.int .i64 0),(.int .i64 0),(.int .i64 0),(.int .i64 0),(.int .i64 0),(.int .i64 0),(.int .i64 0)] []) [],Zm 20 8,Zs 7 6 19,Zm 7 20] .ret) .skip))) (ZR [u1 9 (.allocArr 6 1 [(.int .i64 0),(.int .i64 0),(.int .i64 0),(.int .i64 0),(.int .i64 0),(.int .i64 0)]) []] (.seq (ZR [Zi 21 0] (.block 0 (.loop (ZR [Zq 22 .lss 21 6] (.seq (ZC 22 .skip (.exit 0)) (.seq (.block 1 (ZR [Zm 23 21,Zm 10 23] (.draw [] [Zu 24 10,Zu 25 10,Zy 26 0 3,w1 27 (.idxArr 6 1) [.tm 26,.tm 25],Zv 28 1 27,Zy 29 6 4,Zv 30 1 29,w1 31 (.ari .mul) [.tm 28,.tm 30],Zu 32 2,Zu 33 10,Zy 34 0 4,w1 35 (.idxArr 6 1) [.tm 34,.tm 33],Zv 36 1 35,w1 37 (.ari .mul) [.tm 32,.tm 36],Zy 38 6 3,Zv 39 1 38,w1 40 (.ari .mul) [.tm 37,.tm 39],w1 41 (.ari .add) [.tm 31,.tm 40],w1 42 (.idxArr 6 1) [.tm 9,.tm 24],ZS 1 42 41]))) (.region [Zp 43 21 1,Zm 21 43]))))))) (ZR [Zt 44 6 9,Za 45 6 3,Zf 46 1 45,Za 47 6 4,Zf 48 1 47,Zo 49 .mul 46 48,Zd 50 113 44 49,Ze 51 0 50,Ze 52 1 50,Zs 7 6 51,Zm 7 52] .ret)))))⟩
theorem Yzg:Yi YEC Tryz.f101=some v101:=by kernel_rfl
def v147:VF:=⟨11,[.cell 4 true 7,.tmp 5],(ZR [u1 2 .box [.tm 0],u1 3 .box [.tm 1],u1 4 (.alloc [(.int .i64 0),(.int .i64 0),(.int .i64 0),(.int .i64 0),(.int .i64 0),(.int .i64 0),(.int .i64 0)]) [],Zi 5 0] (ZR [Zt 6 7 2,Zt 7 7 3,u1 8 (.call 101) [.tm 6,.tm 7,.cn (.int .i64 1)],Ze 9 0 8,Ze 10 1 8,Zs 7 4 9,Zm 5 10] .ret))⟩
theorem YzT:Yi YEC Tryz.f147=some v147:=by kernel_rfl
def v79:VF:=⟨11,[.cell 4 true 7,.tmp 5],(ZR [u1 2 .box [.tm 0],u1 3 .box [.tm 1],u1 4 (.alloc [(.int .i64 0),(.int .i64 0),(.int .i64 0),(.int .i64 0),(.int .i64 0),(.int .i64 0),(.int .i64 0)]) [],Zi 5 0] (ZR [Zt 6 7 2,Zt 7 7 3,u1 8 (.call 101) [.tm 6,.tm 7,.cn (.int .i64 (-1))],Ze 9 0 8,Ze 10 1 8,Zs 7 4 9,Zm 5 10] .ret))⟩
theorem YEd:Yi YEC Tryz.f79=some v79:=by kernel_rfl
theorem YCR{hp:List HO}{n size j:Nat}{k:IntKind}{i:Int}:YbI hp n size [.ptr j 3,.int k i]=Yun (getH hp j) n size j 3 i:=rfl
theorem q_fl6{get:Nat->List SV}:Yfg 6 0 get=get 0++(get 1++(get 2++(get 3++(get 4++(get 5++[]))))):=rfl
theorem YCS{hp:List HO}{n size:Nat}{t:Bool}{cs:List SV}{k:IntKind}{i:Int}:YbI hp n size [.xp t cs,.int k i]=Yz (0<=i/\i<n/\n*size<=lenL cs) (.xp t (Yt (i.toNat*size) cs)):=rfl
attribute [go_sem] YCR YCS q_fl6
def Rt.num(r:Rt):Nat->Int
 |0=>r.a
 |1=>r.b
 |2=>r.c
 |3=>r.d
 |4=>r.e
 |_=>r.f
theorem six{i:Nat}(h:i<6):i=0\/i=1\/i=2\/i=3\/i=4\/i=5:=by omega
theorem YeF(r:Rt){i:Nat}(h:i<6):Yx 1 (Yt (i*1) [.int .i64 r.a,.int .i64 r.b,.int .i64 r.c,.int .i64 r.d,.int .i64 r.e,.int .i64 r.f])=[.int .i64 (r.num i)]:=by
 rcases six h with rfl|rfl|rfl|rfl|rfl|rfl <;> rfl
theorem YnB(r:Rt){i:Nat}(h:i<6):Yx 1 (Yt (idxN (i:Int) 1) [.int .i64 r.a,.int .i64 r.b,.int .i64 r.c,.int .i64 r.d,.int .i64 r.e,.int .i64 r.f,.int .i64 r.n])=[.int .i64 (r.num i)]:=by
 rcases six h with rfl|rfl|rfl|rfl|rfl|rfl <;> rfl
theorem YnA(r:Rt){i:Nat}(h:i<6):1<=lenL (Yt (idxN (i:Int) 1) [.int .i64 r.a,.int .i64 r.b,.int .i64 r.c,.int .i64 r.d,.int .i64 r.e,.int .i64 r.f,.int .i64 r.n]):=by
 rcases six h with rfl|rfl|rfl|rfl|rfl|rfl <;> exact YFi rfl
def gP(r:Rt):Nat->Nat
 |0=>r.n.toNat
 |i+1=>YFt (gP r i) (r.num i).natAbs
theorem gP_6(r:Rt):gP r 6=gcdR r:=rfl
theorem Yxz(r:Rt):∀i,gP r i<=r.n.toNat\/r.n.toNat=0
 |0=> .inl (YEK _)
 |i+1=>by
   rcases Yxz r i with h|h
   . rcases YFk (gP r i)with h0|h0
     . right
       have key:∀j,gP r j=0->r.n.toNat=0:=fun j=>by
         induction j with
         |zero=>exact id
         |succ j ih=>intro hj;exact ih (Nat.gcd_eq_zero_iff.1 hj).1
       exact key i h0
     . left;exact YEQ (Nat.gcd_le_left _ h0) h
   . exact .inr h
theorem YvV{r:Rt}(h:1<=r.n):∀i,1<=gP r i
 |0=>by show 1<=r.n.toNat;omega
 |i+1=>Nat.gcd_pos_of_pos_left _ (YvV h i)
def bad6(r:Rt):Bool:=badN r.a|| (badN r.b|| (badN r.c|| (badN r.d|| (badN r.e|| badN r.f))))
theorem YBi{r:Rt}{i:Nat}(h:i<6)(hb:badN (r.num i)=true):bad6 r=true:=by
 unfold bad6
 rcases six h with rfl|rfl|rfl|rfl|rfl|rfl <;> (simp only[Rt.num]at hb;rw[hb];simp)
theorem YBh{r:Rt}(h:∀i,i<6->badN (r.num i)=false):bad6 r=false:=by
 unfold bad6
 have h0:=h 0 (by decide);have h1:=h 1 (by decide);have h2:=h 2 (by decide);have h3:=h 3 (by decide);have h4:=h 4 (by decide);have h5:=h 5 (by decide)
 simp only[Rt.num]at h0 h1 h2 h3 h4 h5
 rw[h0,h1,h2,h3,h4,h5];rfl
theorem Yw8(r:Rt):chkR r=if r.n<1\/1000<r.n then 2 else if bad6 r=true then 2 else if 1<gcdR r then 6 else 0:=rfl
theorem Yfn(x:Int)(h: -9000000000000000000<=x/\x<=9000000000000000000):max x (IntKind.i64.wrap (0-x))=(x.natAbs:Int):=by
 rw[YED (0-x) (by omega)]
 omega
def absC:Ctr:={ alias:=false,of:=fun l=>match l with
 | [.int .i64 x]=> .pre (-9000000000000000000<=x/\x<=9000000000000000000) (.fin (.int .i64 (x.natAbs:Nat)) [])
 |_=>noC}
def TB0:Env:={ ct:=fun _=>none,fn:=fun _=>none,meth:=fun _ _=>none}
theorem YAw:Ys YEC TB0:=by
 refine⟨fun f c h=>?_,fun f vf h=>?_,(fun _ _ _ h=>by cases h),by kernel_rfl,(fun _ h=>by cases h)⟩
 . cases h
 . cases h
theorem YA8:absC.ok YEC 115:=by
 refine Yc Tryz.func115 Yzr YAw 100 absC fun args k h=>?_
 simp only[absC]at h
 split at h
 . rename_i x
   obtain⟨hx,h⟩:=h
   refine⟨[.int .i64 x],by simp [leL,le],?_⟩
   dsimp only[v115,go_sem,reduceIte,YEx]
   simp only[Yd,YEx,YEz,reduceCtorEq,YEy]
   rw[Yfn x hx]
   exact Yp h
 . exact h.1.elim
def chkRC:Ctr:={ alias:=false,of:=fun l=>match l with
 | [.agg [.int .i64 a,.int .i64 b,.int .i64 c,.int .i64 d,.int .i64 e,.int .i64 f,.int .i64 n]]=> .fin (.int .i64 (chkR ⟨a,b,c,d,e,f,n⟩)) []
 |_=>noC}
def TB1:Env:={ ct:=fun n=>match n with|115=>some absC|114=>some gcdC|_=>none,fn:=fun _=>none,meth:=fun _ _=>none}
theorem Yka:TB1.ct 115=some absC:=rfl
theorem Yj9:TB1.ct 114=some gcdC:=rfl
theorem YAx:Ys YEC TB1:=by
 refine⟨fun f c h=>?_,fun f vf h=>?_,(fun _ _ _ h=>by cases h),by kernel_rfl,(fun _ h=>by cases h)⟩
 . simp only[TB1]at h
   split at h
   . cases h;exact⟨YA8,Tryz.f115,Tryz.func115,by kernel_rfl,by kernel_rfl⟩
   . cases h;exact⟨YxB,Tryz.f114,Tryz.func114,by kernel_rfl,by kernel_rfl⟩
   . cases h
 . cases h
theorem Ynn:chkRC.ok YEC 102:=by
 refine Yc Tryz.func102 Yzh YAx 300 chkRC fun args k h=>?_
 simp only[chkRC]at h
 split at h
 . rename_i a b c d e f n
   refine⟨[.agg [.int .i64 a,.int .i64 b,.int .i64 c,.int .i64 d,.int .i64 e,.int .i64 f,.int .i64 n]],by simp [leL,le],?_⟩
   obtain⟨r,hr⟩:∃r:Rt,r=⟨a,b,c,d,e,f,n⟩:=⟨_,rfl⟩
   rw[<-hr]at h
   have h:k (.int .i64 (chkR r)) []:=h
   rw[show a=r.a by rw[hr],show b=r.b by rw[hr],show c=r.c by rw[hr],show d=r.d by rw[hr],show e=r.e by rw[hr],show f=r.f by rw[hr],show n=r.n by rw[hr]]
   clear hr
   rw[Yw8]at h
   dsimp only[v102,go_sem,reduceIte,YEx]
   simp only[Yd,YEx,YEz,reduceCtorEq,YEy]
   refine⟨fun hc=>?_,fun hc=>?_⟩
   . rw[if_pos (by simpa using hc)]at h;exact Yp h
   have hn:1<=r.n/\r.n<=1000:=by simp only[YE9,decide_eq_false_iff_not]at hc;omega
   rw[if_neg (by omega)]at h
   refine Loop.keep [2,14] Nat (fun i=>[(3,.int .i64 (gP r i:Nat)),(18,.int .i64 i)]) (fun _=>[]) [] (fun i=>i<=6/\∀j,j<i->badN (r.num j)=false) (fun i=>6-i) ?_ ?_
   . refine⟨0,⟨by omega,fun j hj=>by omega⟩,?_⟩
     dsimp only[go_sem,reduceIte,YEx]
     simp only[Ya]
     exact⟨(YFa (by omega)).symm,rfl⟩
   . rintro i ⟨hi,hall⟩
     dsimp only[Yka,Yj9,absC,gcdC,YEB,go_sem,reduceIte,YEx]
     simp only[Yd,YEx,YEz,reduceCtorEq,YEy]
     refine⟨fun hlt=>?_,fun hge=>?_⟩
     . have hi6:i<6:=by omega
       rw[YeF r hi6]
       dsimp only[Yka,Yj9,absC,gcdC,go_sem,reduceIte,YEx]
       simp only[Yd,YEx,YEz,reduceCtorEq,YEy]
       have hgl:gP r i<=1000:=by rcases Yxz r i with h1|h1 <;> omega
       refine⟨⟨by omega,by omega⟩,fun hb=>?_,fun hb=>⟨?_,gP r i,(r.num i).natAbs,⟨rfl,rfl,by omega,?_⟩,i+1,⟨by omega,fun j hj=>?_⟩,by omega,?_⟩⟩
       . rw[if_pos (YBi hi6 hb)]at h;exact Yp h
       . have:=YbY hb;omega
       . have:=YbY hb;omega
       . rcases YFf j i with h1|h1
         . exact hall j h1
         . obtain rfl:j=i:=by omega
           exact hb
       . rw[YED ((i:Int)+1) (by omega)]
         simp only[Ya]
         exact⟨rfl,by simp⟩
     . obtain rfl:i=6:=by omega
       rw[if_neg (by rw[YBh hall];decide),<-gP_6]at h
       refine⟨fun hc=>?_,fun hc=>?_⟩
       . rw[if_pos (by omega)]at h;exact Yp h
       . rw[if_neg (by omega)]at h;exact Yp h
 . exact h.1.elim
def Yhu(q:Nat->Int)(n:Int)(i:Nat):List SV:=
 [.int .i64 (if 0<i then q 0 else 0),.int .i64 (if 1<i then q 1 else 0),.int .i64 (if 2<i then q 2 else 0),.int .i64 (if 3<i then q 3 else 0),.int .i64 (if 4<i then q 4 else 0),.int .i64 (if 5<i then q 5 else 0),.int .i64 n]
theorem Yw7(q:Nat->Int)(n:Int):Yhu q n 6=[.int .i64 (q 0),.int .i64 (q 1),.int .i64 (q 2),.int .i64 (q 3),.int .i64 (q 4),.int .i64 (q 5),.int .i64 n]:=rfl
theorem Yqo(q:Nat->Int)(n:Int)(i:Nat):lenL (Yhu q n i)=7:=rfl
theorem Y0(q:Nat->Int)(n:Int)(i m:Nat):bndL m (Yhu q n i):=by simp [Yhu,bndL,bnd]
theorem YoE(q:Nat->Int)(n:Int){i:Nat}(h:i<6):YQ (Yhu q n i) (idxN (i:Int) 1) [.int .i64 (q i)]=Yhu q n (i+1):=by
 rcases six h with rfl|rfl|rfl|rfl|rfl|rfl <;> rfl
theorem YkP(i:Nat):idxN (i:Int) 1=i:=by simp [idxN]
theorem YsF(x:Int)(g:Nat)(h: -9000000000000000000<=x/\x<=9000000000000000000): -9000000000000000000<=x.tdiv g/\x.tdiv g<=9000000000000000000:=by
 have h1:(x.tdiv g).natAbs<=x.natAbs:=by
   rw[Int.natAbs_tdiv]
   exact Nat.div_le_self _ _
 omega
def madeC:Ctr:={ alias:=false,of:=fun l=>match l with
 | [.agg [.int .i64 a,.int .i64 b,.int .i64 c,.int .i64 d,.int .i64 e,.int .i64 f],.int .i64 n]=>
   .pre (1<=n/\n<=9000000000000000000/\∀i,i<6-> -9000000000000000000<=(Rt.mk a b c d e f n).num i/\(Rt.mk a b c d e f n).num i<=9000000000000000000) (.fin (.tup [.agg (encR (YcW ⟨a,b,c,d,e,f,n⟩).1),.int .i64 (YcW ⟨a,b,c,d,e,f,n⟩).2]) [])
 |_=>noC}
theorem YbX{k:SV->List HO->Prop}{al:Bool}{hp:List HO}{r:Rt}{e:Int}(h:k (.tup [.agg (encR r),.int .i64 e]) []):YO al k (.tup [.agg (encR r),.int .i64 e]) hp:=
 YI (show k _ []from h) (YV (.tup [.agg (encR r),.int .i64 e]) ⟨⟨trivial,trivial,trivial,trivial,trivial,trivial,trivial,trivial⟩,trivial,trivial⟩) (fun _=>by simp [Ym,Yo,encR])
theorem YtQ{k:SV->List HO->Prop}{al:Bool}{hp:List HO}{r:Rt}(h:k (.agg (encR r)) []):YO al k (.agg (encR r)) hp:=
 YI (show k _ []from h) (YV (.agg (encR r)) ⟨trivial,trivial,trivial,trivial,trivial,trivial,trivial,trivial⟩) (fun _=>by simp [Ym,Yo,encR])
def TB2:Env:={ ct:=fun n=>match n with|115=>some absC|114=>some gcdC|102=>some chkRC|_=>none,fn:=fun _=>none,meth:=fun _ _=>none}
theorem Ykc:TB2.ct 115=some absC:=rfl
theorem Ykb:TB2.ct 114=some gcdC:=rfl
theorem Ygp:TB2.ct 102=some chkRC:=rfl
theorem YAy:Ys YEC TB2:=by
 refine⟨fun f c h=>?_,fun f vf h=>?_,(fun _ _ _ h=>by cases h),by kernel_rfl,(fun _ h=>by cases h)⟩
 . simp only[TB2]at h
   split at h
   . cases h;exact⟨YA8,Tryz.f115,Tryz.func115,by kernel_rfl,by kernel_rfl⟩
   . cases h;exact⟨YxB,Tryz.f114,Tryz.func114,by kernel_rfl,by kernel_rfl⟩
   . cases h;exact⟨Ynn,Tryz.f102,Tryz.func102,by kernel_rfl,by kernel_rfl⟩
   . cases h
 . cases h
theorem YrF:madeC.ok YEC 113:=by
 refine Yc Tryz.func113 Yzp YAy 300 madeC fun args k h=>?_
 simp only[madeC]at h
 split at h
 . rename_i a b c d e f n
   refine⟨[.agg [.int .i64 a,.int .i64 b,.int .i64 c,.int .i64 d,.int .i64 e,.int .i64 f],.int .i64 n],by simp [leL,le],?_⟩
   obtain⟨r,hr⟩:∃r:Rt,r=⟨a,b,c,d,e,f,n⟩:=⟨_,rfl⟩
   rw[<-hr]at h
   rw[show a=r.a by rw[hr],show b=r.b by rw[hr],show c=r.c by rw[hr],show d=r.d by rw[hr],show e=r.e by rw[hr],show f=r.f by rw[hr]]
   rw[show n=r.n by rw[hr]]at h⊢
   clear hr
   obtain⟨⟨hn,hn2,hb⟩,h⟩:=h
   have h:k (.tup [.agg (encR (YcW r).1),.int .i64 (YcW r).2]) []:=h
   dsimp only[v113,go_sem,reduceIte,YEx]
   simp only[Yd,YEx,YEz,reduceCtorEq,YEy]
   refine Loop.keep [1,0,1,0,7] Nat (fun i=>[(6,.int .i64 (gP r i:Nat)),(14,.int .i64 i)]) (fun _=>[]) [] (fun i=>i<=6) (fun i=>6-i) ?_ ?_
   . refine⟨0,by omega,?_⟩
     dsimp only[go_sem,reduceIte,YEx]
     simp only[Ya]
     repeat' apply YEU
     all_goals first|exact trivial|decide|rfl|omega|exact(YFa (by omega)).symm|exact Ye _ (Y0 _ _ _ _) |simp
   . rintro i hi
     dsimp only[Ykc,Ykb,absC,gcdC,YEB,go_sem,reduceIte,YEx]
     simp only[Yd,YEx,YEz,reduceCtorEq,YEy]
     have hgl:gP r i<=9000000000000000000:=by rcases Yxz r i with h1|h1 <;> omega
     have hg0:=YvV hn i
     refine⟨fun hlt=>?_,fun hge=>?_⟩
     . have hi6:i<6:=by omega
       rw[YeF r hi6]
       dsimp only[Ykc,Ykb,absC,gcdC,go_sem,reduceIte,YEx]
       simp only[Yd,YEx,YEz,reduceCtorEq,YEy]
       refine⟨⟨by omega,by omega⟩,hb i hi6,gP r i,(r.num i).natAbs,⟨rfl,rfl,by omega,?_⟩,i+1,by omega,by omega,?_⟩
       . have:=hb i hi6;omega
       . rw[YED ((i:Int)+1) (by omega)]
         simp only[Ya]
         repeat' apply YEU
         all_goals first|exact trivial|decide|rfl|omega|exact(YFa (by omega)).symm|exact Ye _ (Y0 _ _ _ _) |simp
     . obtain rfl:i=6:=by omega
       rw[gP_6]at hgl hg0⊢
       obtain⟨g,hg⟩:∃g,g=gcdR r:=⟨_,rfl⟩
       rw[YcW,<-hg]at h
       rw[<-hg]at hgl hg0⊢
       have hdn:=YsF r.n g (by omega)
       rw[YED (r.n.tdiv (g:Int)) (by omega)]
       refine⟨by omega,?_⟩
       refine Loop.keep [4,0,0,2,16] Nat (fun i=>[(27,.int .i64 i)]) (fun i=>[(2,.box (Yhu (fun j=>(r.num j).tdiv g) (r.n.tdiv g) i))]) [] (fun i=>i<=6) (fun i=>6-i) ?_ ?_
       . refine⟨0,by omega,?_⟩
         dsimp only[Yhu,go_sem,reduceIte,YEx]
         simp only[Ya]
         repeat' apply YEU
         all_goals first|exact trivial|decide|rfl|omega|exact(YFa (by omega)).symm|exact Ye _ (Y0 _ _ _ _) |simp
       . rintro i hi
         dsimp only[Ygp,chkRC,YEB,go_sem,reduceIte,YEx]
         simp only[Yd,YEx,YEz,reduceCtorEq,YEy]
         refine⟨fun hlt=>?_,fun hge=>?_⟩
         . have hi6:i<6:=by omega
           rw[YeF r hi6]
           dsimp only[Ygp,chkRC,go_sem,reduceIte,YEx]
           simp only[Yd,YEx,YEz,reduceCtorEq,YEy]
           have hw:=YsF (r.num i) g (hb i hi6)
           have e:YQ (Yhu (fun j=>(r.num j).tdiv g) (r.n.tdiv g) i) (idxN (i:Int) 1) [.int .i64 ((r.num i).tdiv g)]=Yhu (fun j=>(r.num j).tdiv g) (r.n.tdiv g) (i+1):=YoE (fun j=>(r.num j).tdiv g) (r.n.tdiv g) hi6
           rw[YED ((r.num i).tdiv g) (by omega),YED ((i:Int)+1) (by omega),e]
           refine⟨⟨by omega,by omega⟩,by omega,⟨by omega,by omega⟩,by rw[YkP,Yqo];omega,i+1,by omega,by omega,?_⟩
           simp only[Ya]
           repeat' apply YEU
           all_goals first|exact trivial|decide|rfl|omega|exact(YFa (by omega)).symm|exact Ye _ (Y0 _ _ _ _) |simp
         . obtain rfl:i=6:=by omega
           simp only[Yw7]
           dsimp only[Ygp,chkRC,Rt.num,go_sem,reduceIte,YEx]
           simp only[Yd,YEx,YEz,reduceCtorEq,YEy]
           refine⟨fun hc=>?_,fun hc=>?_⟩
           . rw[if_neg (show¬chkR (divR r g)=0 from hc)]at h;exact YbX (r:=YaN) (e:=7) h
           . rw[if_pos (show chkR (divR r g)=0 from hc)]at h;exact YbX (r:=divR r g) (e:=0) h
 . exact h.1.elim
def orF:List Int->Int
 | []=>0
 |x::l=>if x≠0 then x else orF l
theorem YCv{l:List Int}{i:Nat}(hi:i<l.length)(h:∀j,j<i->l.getD j 0=0)(hx:l.getD i 0≠0):orF l=l.getD i 0:=by
 induction l generalizing i with
 |nil=>simp at hi
 |cons x l ih=>
   cases i with
   |zero=>exact if_pos hx
   |succ i=>
     rw[orF,if_neg (by have:=h 0 (by omega);simpa using this)]
     exact ih (by simpa using hi) (fun j hj=>h (j+1) (by omega)) hx
theorem YuY{l:List Int}(h:∀j,j<l.length->l.getD j 0=0):orF l=0:=by
 induction l with
 |nil=>rfl
 |cons x l ih=>
   rw[orF,if_neg (by have:=h 0 (by simp);simpa using this)]
   exact ih fun j hj=>h (j+1) (by simpa using hj)
def orC:Ctr:={ alias:=false,of:=fun l=>match l with
 | [.vs _ _ n sz get]=> .ex (List Int) fun l=> .pre (lsP 1 enc1 n sz get l/\n<=1000000) (.fin (.int .i64 (orF l)) [])
 |_=>noC}
def TB3:Env:={ ct:=fun _=>none,fn:=fun _=>none,meth:=fun _ _=>none}
theorem YAz:Ys YEC TB3:=by
 refine⟨fun f c h=>?_,fun f vf h=>?_,(fun _ _ _ h=>by cases h),by kernel_rfl,(fun _ h=>by cases h)⟩
 . cases h
 . cases h
theorem or_c:orC.ok YEC 133:=by
 refine Yc Tryz.func133 YzG YAz 300 orC fun args k h=>?_
 simp only[orC]at h
 split at h
 . rename_i tt z n sz get
   obtain⟨l,⟨⟨rfl,rfl,hg⟩,hn⟩,h⟩:=h
   refine⟨[.vs tt z l.length 1 (fun k=>enc1 (l.getD k default))],⟨⟨id,rfl,rfl,rfl,hg⟩,trivial⟩,?_⟩
   have h:k (.int .i64 (orF l)) []:=h
   dsimp only[v133,enc1,go_sem,reduceIte,YEx]
   simp only[Yd,YEx,YEz,reduceCtorEq,YEy]
   refine Loop.keep [3,2,0] Nat (fun i=>[(8,.int .i64 i)]) (fun _=>[]) [] (fun i=>i<=l.length/\∀j,j<i->l.getD j 0=0) (fun i=>l.length-i) ?_ ?_
   . refine⟨0,⟨by omega,fun j hj=>by omega⟩,?_⟩
     dsimp only[go_sem,reduceIte,YEx]
     simp only[Ya]
     repeat' apply YEU
     all_goals first|exact trivial|decide|rfl|omega|exact(YFa (by omega)).symm|exact Ye _ (Y0 _ _ _ _) |simp
   . rintro i ⟨hi,hall⟩
     dsimp only[enc1,YEB,go_sem,reduceIte,YEx]
     simp only[Yd,YEx,YEz,reduceCtorEq,YEy]
     refine⟨fun hlt=>⟨⟨by omega,by omega⟩,fun hc=>?_,fun hc=>⟨i+1,⟨by omega,fun j hj=>?_⟩,by omega,?_⟩⟩,fun hge=>?_⟩
     . rw[YCv (by omega) hall hc]at h;exact Yp h
     . rcases YFf j i with h1|h1
       . exact hall j h1
       . obtain rfl:j=i:=by omega
         exact hc
     . rw[YED ((i:Int)+1) (by omega)]
       simp only[Ya]
       repeat' apply YEU
       all_goals first|exact trivial|decide|rfl|omega|exact(YFa (by omega)).symm|exact Ye _ (Y0 _ _ _ _) |simp
     . obtain rfl:i=l.length:=by omega
       rw[YuY hall]at h;exact Yp h
 . exact h.1.elim
def TB5:Env:={ ct:=fun n=>match n with|133=>some orC|_=>none,fn:=fun _=>none,meth:=fun _ _=>none}
theorem YpB:TB5.ct 133=some orC:=rfl
theorem YAB:Ys YEC TB5:=by
 refine⟨fun f c h=>?_,fun f vf h=>?_,(fun _ _ _ h=>by cases h),by kernel_rfl,(fun _ h=>by cases h)⟩
 . simp only[TB5]at h
   split at h
   . cases h;exact⟨or_c,Tryz.f133,Tryz.func133,by kernel_rfl,by kernel_rfl⟩
   . cases h
 . cases h
theorem Yxt:orC.ok YEC 112:=by
 refine Yc Tryz.func112 Yzo YAB 300 orC fun args k h=>?_
 simp only[orC]at h
 split at h
 . rename_i tt z n sz get
   obtain⟨l,⟨⟨rfl,rfl,hg⟩,hn⟩,h⟩:=h
   refine⟨[.vs tt z l.length 1 (fun k=>enc1 (l.getD k default))],⟨⟨id,rfl,rfl,rfl,hg⟩,trivial⟩,?_⟩
   have h:k (.int .i64 (orF l)) []:=h
   dsimp only[v112,YpB,orC,enc1,go_sem,reduceIte,YEx]
   simp only[Yd,YEx,YEz,reduceCtorEq,YEy]
   exact⟨l,⟨⟨rfl,rfl,fun k _=>Yb _⟩,hn⟩,Yp h⟩
 . exact h.1.elim
def Yhz(q:Nat->Int)(i k:Nat):Int:=if k<i then q k else 0
theorem YCx(q:Nat->Int):Yhz q 6 0=q 0:=rfl
theorem YCy(q:Nat->Int):Yhz q 6 1=q 1:=rfl
theorem YCz(q:Nat->Int):Yhz q 6 2=q 2:=rfl
theorem YCA(q:Nat->Int):Yhz q 6 3=q 3:=rfl
theorem YCB(q:Nat->Int):Yhz q 6 4=q 4:=rfl
theorem YCC(q:Nat->Int):Yhz q 6 5=q 5:=rfl
theorem YoR(q:Nat->Int)(i k:Nat):(if k=i then q i else Yhz q i k)=Yhz q (i+1) k:=by
 unfold Yhz
 by_cases h:k=i
 . subst h;rw[if_pos rfl,if_pos (by omega)]
 . rw[if_neg h]
   by_cases h2:k<i
   . rw[if_pos h2,if_pos (by omega)]
   . rw[if_neg h2,if_neg (by omega)]
theorem YEw{i:Nat}(h:i<6):Ya4 1 [.int .i64 0,.int .i64 0,.int .i64 0,.int .i64 0,.int .i64 0,.int .i64 0] i=[.int .i64 0]:=by
 rcases six h with rfl|rfl|rfl|rfl|rfl|rfl <;> rfl
def Ydb(x y:Rt)(s:Int)(i:Nat):Int:=x.num i*y.n+s*y.num i*x.n
theorem YnS(x y:Rt)(s:Int):Ya6 x y s=if chkR x≠0 then(YaN,chkR x)else if chkR y≠0 then(YaN,chkR y)else YcW ⟨Ydb x y s 0,Ydb x y s 1,Ydb x y s 2,Ydb x y s 3,Ydb x y s 4,Ydb x y s 5,x.n*y.n⟩:=rfl
theorem Ydv{r:Rt}(h:chkR r=0){i:Nat}(hi:i<6): -100000<=r.num i/\r.num i<=100000:=by
 obtain⟨_,h1,h2,h3,h4,h5,h6,_⟩:=Yff h
 rcases six hi with rfl|rfl|rfl|rfl|rfl|rfl
 . exact YbY h1
 . exact YbY h2
 . exact YbY h3
 . exact YbY h4
 . exact YbY h5
 . exact YbY h6
theorem Yfy{r:Rt}(h:chkR r=0):1<=r.n/\r.n<=1000:=(Yff h).1
theorem Yq9{x y:Rt}{s:Int}(hx:chkR x=0)(hy:chkR y=0)(hs:s=1\/s= -1){i:Nat}(hi:i<6):
   IntKind.i64.wrap (x.num i*y.n)=x.num i*y.n/\IntKind.i64.wrap (s*y.num i)=s*y.num i/\IntKind.i64.wrap (s*y.num i*x.n)=s*y.num i*x.n/\IntKind.i64.wrap (x.num i*y.n+s*y.num i*x.n)=Ydb x y s i/\ -1000000000<=Ydb x y s i/\Ydb x y s i<=1000000000:=by
 have a1:=Ydv hx hi
 have a2:=Ydv hy hi
 have a3:=Yfy hx
 have a4:=Yfy hy
 have b1:=Yam (x:=x.num i) (y:=y.n) (X:=100000) (Y:=1000) a1 (by omega)
 have a5: -100000<=s*y.num i/\s*y.num i<=100000:=by rcases hs with rfl|rfl <;> omega
 have b2:=Yam (x:=s*y.num i) (y:=x.n) (X:=100000) (Y:=1000) a5 (by omega)
 unfold Ydb
 refine⟨YED _ (by omega),YED _ (by omega),YED _ (by omega),YED _ (by omega),by omega,by omega⟩
def joinC:Ctr:={ alias:=false,of:=fun l=>match l with
 | [.agg [.int .i64 a,.int .i64 b,.int .i64 c,.int .i64 d,.int .i64 e,.int .i64 f,.int .i64 n],.agg [.int .i64 a',.int .i64 b',.int .i64 c',.int .i64 d',.int .i64 e',.int .i64 f',.int .i64 n'],.int .i64 s]=>
   .pre (s=1\/s= -1) (.fin (.tup [.agg (encR (Ya6 ⟨a,b,c,d,e,f,n⟩ ⟨a',b',c',d',e',f',n'⟩ s).1),.int .i64 (Ya6 ⟨a,b,c,d,e,f,n⟩ ⟨a',b',c',d',e',f',n'⟩ s).2]) [])
 |_=>noC}
def TB4:Env:={ ct:=fun n=>match n with|102=>some chkRC|113=>some madeC|112=>some orC|_=>none,fn:=fun _=>none,meth:=fun _ _=>none}
theorem Ypz:TB4.ct 102=some chkRC:=rfl
theorem Yeu:TB4.ct 113=some madeC:=rfl
theorem YpA:TB4.ct 112=some orC:=rfl
theorem YAA:Ys YEC TB4:=by
 refine⟨fun f c h=>?_,fun f vf h=>?_,(fun _ _ _ h=>by cases h),by kernel_rfl,(fun _ h=>by cases h)⟩
 . simp only[TB4]at h
   split at h
   . cases h;exact⟨Ynn,Tryz.f102,Tryz.func102,by kernel_rfl,by kernel_rfl⟩
   . cases h;exact⟨YrF,Tryz.f113,Tryz.func113,by kernel_rfl,by kernel_rfl⟩
   . cases h;exact⟨Yxt,Tryz.f112,Tryz.func112,by kernel_rfl,by kernel_rfl⟩
   . cases h
 . cases h
theorem YBT:joinC.ok YEC 101:=by
 refine Yc Tryz.func101 Yzg YAA 300 joinC fun args k h=>?_
 simp only[joinC]at h
 split at h
 . rename_i a b c d e f n a' b' c' d' e' f' n' s
   refine⟨[.agg [.int .i64 a,.int .i64 b,.int .i64 c,.int .i64 d,.int .i64 e,.int .i64 f,.int .i64 n],.agg [.int .i64 a',.int .i64 b',.int .i64 c',.int .i64 d',.int .i64 e',.int .i64 f',.int .i64 n'],.int .i64 s],by simp [leL,le],?_⟩
   obtain⟨x,hx⟩:∃r:Rt,r=⟨a,b,c,d,e,f,n⟩:=⟨_,rfl⟩
   obtain⟨y,hy⟩:∃r:Rt,r=⟨a',b',c',d',e',f',n'⟩:=⟨_,rfl⟩
   rw[<-hx,<-hy]at h
   rw[show a=x.a by rw[hx],show b=x.b by rw[hx],show c=x.c by rw[hx],show d=x.d by rw[hx],show e=x.e by rw[hx],show f=x.f by rw[hx],show n=x.n by rw[hx]]
   rw[show a'=y.a by rw[hy],show b'=y.b by rw[hy],show c'=y.c by rw[hy],show d'=y.d by rw[hy],show e'=y.e by rw[hy],show f'=y.f by rw[hy],show n'=y.n by rw[hy]]
   clear hx hy
   obtain⟨hs,h⟩:=h
   have h:k (.tup [.agg (encR (Ya6 x y s).1),.int .i64 (Ya6 x y s).2]) []:=h
   dsimp only[v101,Ypz,chkRC,YpA,orC,go_sem,reduceIte,YEx]
   simp only[Yd,YEx,YEz,reduceCtorEq,YEy]
   refine⟨by decide,[chkR x,chkR y],⟨rfl,rfl,fun k hk=>?_⟩,fun hc=>?_,fun hc=>?_⟩
   . match k,hk with
     |0,_=>exact Yb _
     |1,_=>exact Yb _
   . rw[YnS]at h
     by_cases h0:chkR x=0
     . rw[if_neg (by rw[h0];decide)]at h
       have e:orF [chkR x,chkR y]=chkR y:=by
         rw[orF,if_neg (by rw[h0];decide),orF]
         split
         . rfl
         . rename_i h1;rw[orF];omega
       rw[e]at hc⊢
       rw[if_pos hc]at h
       exact YbX (r:=YaN) h
     . have e:orF [chkR x,chkR y]=chkR x:=by rw[orF,if_pos h0]
       rw[e]
       rw[if_pos h0]at h
       exact YbX (r:=YaN) h
   have hcx:chkR x=0:=by
     by_cases h0:chkR x=0
     . exact h0
     . rw[orF,if_pos h0]at hc;exact absurd hc h0
   have hcy:chkR y=0:=by
     rw[orF,if_neg (by rw[hcx];decide),orF]at hc
     by_cases h0:chkR y=0
     . exact h0
     . rw[if_pos h0]at hc;exact absurd hc h0
   rw[YnS,if_neg (by rw[hcx];decide),if_neg (by rw[hcy];decide)]at h
   refine Loop.keep [2,0,0,1,0,1] Nat (fun i=>[(21,.int .i64 i)]) (fun i=>[(4,.own false 1 6 (fun k=>[.int .i64 (Yhz (Ydb x y s) i k)]))]) [] (fun i=>i<=6) (fun i=>6-i) ?_ ?_
   . refine⟨0,by omega,?_⟩
     dsimp only[go_sem,reduceIte,YEx]
     simp only[Ya]
     refine⟨⟨by decide,by decide,by decide,by decide,rfl⟩,fun k hk=>?_⟩
     rw[YEw hk]
     exact⟨⟨rfl,rfl⟩,trivial⟩
   . rintro i hi
     dsimp only[Yeu,madeC,YEB,go_sem,reduceIte,YEx]
     simp only[Yd,YEx,YEz,reduceCtorEq,YEy]
     refine⟨fun hlt=>?_,fun hge=>?_⟩
     . have hi6:i<6:=by omega
       have d1:=YnA x hi6
       have d2:=YnA y hi6
       rw[YnB x hi6]
       dsimp only[Yeu,madeC,YEB,go_sem,reduceIte,YEx]
       simp only[Yd,YEx,YEz,reduceCtorEq,YEy]
       rw[YnB y hi6]
       dsimp only[Yeu,madeC,YEB,go_sem,reduceIte,YEx]
       simp only[Yd,YEx,YEz,reduceCtorEq,YEy]
       obtain⟨j1,j2,j3,j4,_⟩:=Yq9 hcx hcy hs hi6
       rw[j1,j2,j3,j4]
       refine⟨⟨by omega,by omega⟩,d1,⟨by omega,by omega⟩,d2,⟨by omega,by omega⟩,hi6,i+1,by omega,by omega,?_⟩
       rw[YED ((i:Int)+1) (by omega)]
       simp only[Ya]
       refine⟨⟨by decide,by decide,by decide,by decide,by simp⟩,?_⟩
       intro k hk
       rw[<-YoR]
       split
       . exact⟨⟨rfl,rfl⟩,trivial⟩
       . exact⟨⟨rfl,rfl⟩,trivial⟩
     . obtain rfl:i=6:=by omega
       have a3:=Yfy hcx
       have a4:=Yfy hcy
       have hm:=Yam (x:=x.n) (y:=y.n) (X:=1000) (Y:=1000) (by omega) (by omega)
       have hm1:1<=x.n*y.n:=Int.mul_pos (by omega) (by omega)
       rw[YED (x.n*y.n) (by omega)]
       simp only[YCx,YCy,YCz,YCA,YCB,YCC]
       dsimp only[Yeu,madeC,encR,go_sem,reduceIte,YEx]
       simp only[Yd,YEx,YEz,reduceCtorEq,YEy]
       refine⟨⟨hm1,by omega,fun i hi=>?_⟩,?_⟩
       . have:=(Yq9 hcx hcy hs hi).2.2.2.2
         rcases six hi with rfl|rfl|rfl|rfl|rfl|rfl <;> (simp only[Rt.num];omega)
       . exact⟨by decide,by decide,YbX (r:=(YcW ⟨Ydb x y s 0,Ydb x y s 1,Ydb x y s 2,Ydb x y s 3,Ydb x y s 4,Ydb x y s 5,x.n*y.n⟩).1) h⟩
 . exact h.1.elim
def Ydf(s:Int):Ctr:={ alias:=false,of:=fun l=>match l with
 | [.agg [.int .i64 a,.int .i64 b,.int .i64 c,.int .i64 d,.int .i64 e,.int .i64 f,.int .i64 n],.agg [.int .i64 a',.int .i64 b',.int .i64 c',.int .i64 d',.int .i64 e',.int .i64 f',.int .i64 n']]=>
   .fin (.tup [.agg (encR (Ya6 ⟨a,b,c,d,e,f,n⟩ ⟨a',b',c',d',e',f',n'⟩ s).1),.int .i64 (Ya6 ⟨a,b,c,d,e,f,n⟩ ⟨a',b',c',d',e',f',n'⟩ s).2]) []
 |_=>noC}
def TB6:Env:={ ct:=fun n=>match n with|101=>some joinC|_=>none,fn:=fun _=>none,meth:=fun _ _=>none}
theorem Ykd:TB6.ct 101=some joinC:=rfl
theorem YvA:Ys YEC TB6:=by
 refine⟨fun f c h=>?_,fun f vf h=>?_,(fun _ _ _ h=>by cases h),by kernel_rfl,(fun _ h=>by cases h)⟩
 . simp only[TB6]at h
   split at h
   . cases h;exact⟨YBT,Tryz.f101,Tryz.func101,by kernel_rfl,by kernel_rfl⟩
   . cases h
 . cases h
theorem YCi:(Ydf 1).ok YEC 147:=by
 refine Yc Tryz.func147 YzT YvA 300 (Ydf 1) fun args k h=>?_
 simp only[Ydf]at h
 split at h
 . rename_i a b c d e f n a' b' c' d' e' f' n'
   refine⟨[.agg [.int .i64 a,.int .i64 b,.int .i64 c,.int .i64 d,.int .i64 e,.int .i64 f,.int .i64 n],.agg [.int .i64 a',.int .i64 b',.int .i64 c',.int .i64 d',.int .i64 e',.int .i64 f',.int .i64 n']],by simp [leL,le],?_⟩
   dsimp only[v147,Ykd,joinC,encR,go_sem,reduceIte,YEx]
   simp only[Yd,YEx,YEz,reduceCtorEq,YEy]
   exact⟨by decide,by decide,by decide,YbX (r:=(Ya6 ⟨a,b,c,d,e,f,n⟩ ⟨a',b',c',d',e',f',n'⟩ 1).1) h⟩
 . exact h.1.elim
theorem YvM:(Ydf (-1)).ok YEC 79:=by
 refine Yc Tryz.func79 YEd YvA 300 (Ydf (-1)) fun args k h=>?_
 simp only[Ydf]at h
 split at h
 . rename_i a b c d e f n a' b' c' d' e' f' n'
   refine⟨[.agg [.int .i64 a,.int .i64 b,.int .i64 c,.int .i64 d,.int .i64 e,.int .i64 f,.int .i64 n],.agg [.int .i64 a',.int .i64 b',.int .i64 c',.int .i64 d',.int .i64 e',.int .i64 f',.int .i64 n']],by simp [leL,le],?_⟩
   dsimp only[v79,Ykd,joinC,encR,go_sem,reduceIte,YEx]
   simp only[Yd,YEx,YEz,reduceCtorEq,YEy]
   exact⟨by decide,by decide,by decide,YbX (r:=(Ya6 ⟨a,b,c,d,e,f,n⟩ ⟨a',b',c',d',e',f',n'⟩ (-1)).1) h⟩
 . exact h.1.elim
def v80:VF:=⟨34,[.tmp 2,.tmp 3,.tmp 4],(ZR [u1 1 .box [.tm 0],u1 2 .mov [.cn .nil],Zi 3 0,Zi 4 0] (.seq (ZR [Zt 9 7 1,Zc 10 102 9,Zm 5 10] (ZR [Zm 11 5,Zq 12 .neq 11 0] (ZC 12 (ZR [Zm 13 5,u1 2 .mov [.cn .nil],Zi 3 0,Zm 4 13] .ret) .skip))) (ZR [u1 6 .mov [.cn .nil]] (.seq (ZR [Za 14 0 1,Zt 15 6 14,Zi 16 0] (.block 0 (.loop (ZR [Zq 17 .lss 16 6] (.seq (ZC 17 .skip (.exit 0)) (.seq (.block 1 (ZR [Zm 18 16,u1 19 (.index false 6 1) [.tm 15,.tm 16],Zm 7 18,Zm 8 19] (ZR [Zm 20 8,Zq 21 .neq 20 0] (ZC 21 (.region [Zm 22 6,Zm 23 7,u1 24 (.idxArr 6 1) [.cn (.xp false [(.int .i64 2),(.int .i64 3),(.int .i64 5),(.int .i64 7),(.int .i64 11),(.int .i64 13)]),.tm 23],Zf 25 1 24,Zm 26 8,u1 27 (.build [(.int .i64 0),(.int .i64 0)] [(0,1),(1,1)]) [.tm 25,.tm 26],u1 28 (.buildSlice 2 1 [(.int .i64 0),(.int .i64 0)] [(0,2)]) [.tm 27],u1 29 (.append 2 16 [(.int .i64 0),(.int .i64 0)]) [.tm 22,.tm 28],Zm 6 29]) .skip)))) (.region [Zp 30 16 1,Zm 16 30]))))))) (.seq (.draw [] [Zu 31 6,Zy 32 6 1,Zv 33 1 32,Zu 2 31,Zu 3 33,w1 4 .mov [.cn (.int .i64 0)]]) .ret)))))⟩
theorem YEe:Yi YEC Tryz.f80=some v80:=by kernel_rfl
def v144:VF:=⟨62,[.cell 6 true 7,.tmp 7],(ZR [u1 3 .box [.tm 0],u1 6 (.alloc [(.int .i64 0),(.int .i64 0),(.int .i64 0),(.int .i64 0),(.int .i64 0),(.int .i64 0),(.int .i64 0)]) [],Zi 7 0] (.seq (ZR [Zt 10 7 3,Zc 11 102 10,Zm 8 11] (ZR [Zm 12 8,Zq 13 .neq 12 0] (ZC 13 (ZR [u1 14 (.build [(.int .i64 0),(.int .i64 0),(.int .i64 0),(.int .i64 0),(.int .i64 0),(.int .i64 0),(.int .i64 0)] []) [],Zm 15 8,Zs 7 6 14,Zm 7 15] .ret) .skip))) (.seq (ZR [Zm 16 1,Zq 17 .lss 16 (-1000),Zm 18 17,Zg 19 18 false 1,u2 20 18 false (.cmp .gtr) [.tm 19,.cn (.int .i64 1000)],u1 21 .or [.tm 18,.tm 20],Zm 22 21,Zg 23 22 false 2,u2 24 22 false (.cmp .lss) [.tm 23,.cn (.int .i64 (-1000))],u1 25 .or [.tm 22,.tm 24],Zm 26 25,Zg 27 26 false 2,u2 28 26 false (.cmp .gtr) [.tm 27,.cn (.int .i64 1000)],u1 29 .or [.tm 26,.tm 28],Zm 30 29,Zg 31 30 false 2,u2 32 30 false (.cmp .eql) [.tm 31,.cn (.int .i64 0)],u1 33 .or [.tm 30,.tm 32]] (ZC 33 (ZR [u1 34 (.build [(.int .i64 0),(.int .i64 0),(.int .i64 0),(.int .i64 0),(.int .i64 0),(.int .i64 0),(.int .i64 0)] []) [],Zs 7 6 34,Zi 7 2] .ret) .skip)) (.seq (ZR [Zm 35 2,Zq 36 .lss 35 0] (ZC 36 (.region [Zm 37 1,u1 38 .neg [.tm 37],Zm 39 2,u1 40 .neg [.tm 39],Zm 1 38,Zm 2 40]) .skip)) (.seq (ZR [Zi 41 0] (.block 0 (.loop (ZR [Zq 42 .lss 41 6] (.seq (ZC 42 .skip (.exit 0)) (.seq (.block 1 (ZR [Zm 43 41,Zm 9 43] (.region [Zm 44 9,Za 45 0 3,u1 46 (.idxArr 6 1) [.tm 45,.tm 44],Zf 47 1 46,Zm 48 1,Zo 49 .mul 47 48,Za 50 0 3,u1 51 (.idxArr 6 1) [.tm 50,.tm 44],Zs 1 51 49]))) (.region [Zp 52 41 1,Zm 41 52]))))))) (ZR [Za 53 0 3,Zt 54 6 53,Za 55 6 3,Zf 56 1 55,Zm 57 2,Zo 58 .mul 56 57,Zd 59 113 54 58,Ze 60 0 59,Ze 61 1 59,Zs 7 6 60,Zm 7 61] .ret))))))⟩
theorem YzQ:Yi YEC Tryz.f144=some v144:=by kernel_rfl
def prm:Nat->Int
 |0=>2
 |1=>3
 |2=>5
 |3=>7
 |4=>11
 |_=>13
def tP(r:Rt):Nat->List (Int×Int)
 |0=>[]
 |i+1=>tP r i++tm1 (prm i) (r.num i)
theorem tP_6(r:Rt):tP r 6=Yg r:=by
 simp only[tP,Yg,prm,Rt.num,List.nil_append,List.append_assoc]
theorem YDF{p n:Int}(h:n=0):tm1 p n=[]:=if_pos h
theorem tm1_n{p n:Int}(h:¬n=0):tm1 p n=[(p,n)]:=if_neg h
theorem YDC(r:Rt):∀i,(tP r i).length<=i
 |0=>YEK _
 |i+1=>by
   have:=YDC r i
   have h:(tm1 (prm i) (r.num i)).length<=1:=by unfold tm1;split <;> simp
   rw[tP,YE8];omega
theorem YnC{i:Nat}(h:i<6):Yx 1 (Yt (i*1) [.int .i64 2,.int .i64 3,.int .i64 5,.int .i64 7,.int .i64 11,.int .i64 13])=[.int .i64 (prm i)]:=by
 rcases six h with rfl|rfl|rfl|rfl|rfl|rfl <;> rfl
theorem YqH{i:Nat}(h:i<6):1<=lenL (Yt (i*1) [.int .i64 2,.int .i64 3,.int .i64 5,.int .i64 7,.int .i64 11,.int .i64 13]):=by
 rcases six h with rfl|rfl|rfl|rfl|rfl|rfl <;> exact YFi rfl
theorem YL{α:Type}[Inhabited α]{l m:List α}{k:Nat}(h:k<l.length):(l++m).getD k default=l.getD k default:=by
 rw[YER,List.getElem?_append_left h,<-YER]
theorem YM{α:Type}[Inhabited α]{l m:List α}{k:Nat}(h:l.length<=k):(l++m).getD k default=m.getD (k-l.length) default:=by
 rw[YER,List.getElem?_append_right h,<-YER]
theorem Yc0{l:List (Int×Int)}{p q:Int}{a b j k:Nat}(hk:k<l.length+1):
   leL a b (if k<l.length then [SV.int .i64 (l.getD k default).fst,SV.int .i64 (l.getD k default).snd]else Yk j (Yx 2 (Yt ((k-l.length)*2) [SV.int .i64 p,SV.int .i64 q])))
     [SV.int .i64 ((l++[(p,q)]).getD k default).fst,SV.int .i64 ((l++[(p,q)]).getD k default).snd]:=by
 by_cases h:k<l.length
 . rw[if_pos h,YL h];exact⟨⟨rfl,rfl⟩,⟨rfl,rfl⟩,trivial⟩
 . rw[if_neg h,YM (by omega),show k-l.length=0 by omega];exact⟨⟨rfl,rfl⟩,⟨rfl,rfl⟩,trivial⟩
theorem one2{p q:Int}{k:Nat}(hk:k<1):lenL (Yx 2 (Yt (k*2) [SV.int .i64 p,SV.int .i64 q]))=2/\ones (Yx 2 (Yt (k*2) [SV.int .i64 p,SV.int .i64 q])):=by
 obtain rfl:k=0:=by omega
 exact⟨rfl,trivial,trivial,trivial⟩
def trmC:Ctr:={ alias:=false,of:=fun l=>match l with
 | [.agg [.int .i64 a,.int .i64 b,.int .i64 c,.int .i64 d,.int .i64 e,.int .i64 f,.int .i64 n]]=>
   if chkR ⟨a,b,c,d,e,f,n⟩≠0 then .fin (.tup [.nil,.int .i64 0,.int .i64 (chkR ⟨a,b,c,d,e,f,n⟩)]) [.box [.int .i64 a,.int .i64 b,.int .i64 c,.int .i64 d,.int .i64 e,.int .i64 f,.int .i64 n]]
   else .all Bool fun z=> .fin (.tup [.own 1 0 (Yg ⟨a,b,c,d,e,f,n⟩).length 2,.int .i64 n,.int .i64 0]) [.box [.int .i64 a,.int .i64 b,.int .i64 c,.int .i64 d,.int .i64 e,.int .i64 f,.int .i64 n],.own z 2 (Yg ⟨a,b,c,d,e,f,n⟩).length (fun k=>enc2 ((Yg ⟨a,b,c,d,e,f,n⟩).getD k default))]
 |_=>noC}
def TC0:Env:={ ct:=fun n=>match n with|102=>some chkRC|_=>none,fn:=fun _=>none,meth:=fun _ _=>none}
theorem YpC:TC0.ct 102=some chkRC:=rfl
theorem YAC:Ys YEC TC0:=by
 refine⟨fun f c h=>?_,fun f vf h=>?_,(fun _ _ _ h=>by cases h),by kernel_rfl,(fun _ h=>by cases h)⟩
 . simp only[TC0]at h
   split at h
   . cases h;exact⟨Ynn,Tryz.f102,Tryz.func102,by kernel_rfl,by kernel_rfl⟩
   . cases h
 . cases h
theorem YDI:trmC.ok YEC 80:=by
 refine Yfx Tryz.func80 YEe YAC 300 trmC fun args k h=>?_
 simp only[trmC]at h
 split at h
 . rename_i a b c d e f n
   refine⟨[.agg [.int .i64 a,.int .i64 b,.int .i64 c,.int .i64 d,.int .i64 e,.int .i64 f,.int .i64 n]],by simp [leL,le],?_⟩
   obtain⟨r,hr⟩:∃r:Rt,r=⟨a,b,c,d,e,f,n⟩:=⟨_,rfl⟩
   rw[<-hr]at h
   rw[show a=r.a by rw[hr],show b=r.b by rw[hr],show c=r.c by rw[hr],show d=r.d by rw[hr],show e=r.e by rw[hr],show f=r.f by rw[hr],show n=r.n by rw[hr]]at h⊢
   clear hr
   dsimp only[v80,YpC,chkRC,go_sem,reduceIte,YEx]
   simp only[Yd,YEx,YEz,reduceCtorEq,YEy]
   refine⟨fun hc=>?_,fun hc=>?_⟩
   . rw[if_pos hc]at h
     exact⟨h,⟨trivial,trivial,trivial,trivial⟩,by simp [YbL,Yo,Ym]⟩
   . rw[if_neg (by rw[show chkR r=0 from hc];decide)]at h
     refine Loop.keep [1,0,0,0,10] (Nat×Bool) (fun s=>[(6,.own 1 0 (tP r s.1).length 2),(16,.int .i64 s.1)]) (fun s=>[(1,.own s.2 2 (tP r s.1).length (fun k=>enc2 ((tP r s.1).getD k default)))]) [.gone] (fun s=>s.1<=6/\(s.2=true->(tP r s.1).length=0)) (fun s=>6-s.1) ?_ ?_
     . refine⟨(0,true),⟨by decide,fun _=>rfl⟩,?_⟩
       dsimp only[tP,YFh,go_sem,reduceIte,YEx]
       simp only[Ya]
       repeat' apply YEU
       all_goals first|exact trivial|decide|rfl|omega|exact(YFa (by omega)).symm|exact Ye _ (Y0 _ _ _ _) |simp
     . rintro⟨i,z⟩ ⟨hi,hz⟩
       dsimp only at hi hz
       dsimp only[YEB,enc2,go_sem,reduceIte,YEx]
       simp only[Yd,YEx,YEz,reduceCtorEq,YEy]
       refine⟨fun hlt=>?_,fun hge=>?_⟩
       . have hi6:i<6:=by omega
         have hl:=YDC r i
         rw[YeF r hi6]
         dsimp only[YEB,enc2,go_sem,reduceIte,YEx]
         simp only[Yd,YEx,YEz,reduceCtorEq,YEy]
         rw[YnC hi6]
         dsimp only[YEB,enc2,go_sem,reduceIte,YEx]
         simp only[Yd,YEx,YEz,reduceCtorEq,YEy]
         refine⟨⟨by omega,by omega⟩,fun hn=>⟨⟨by omega,by omega,by decide⟩,YqH hi6,by decide,⟨by unfold YW;omega,fun k hk=>one2 hk⟩,(i+1,false),⟨by simp only;omega,fun hh=>by cases hh⟩,by simp only;omega,?_⟩,fun hn=>⟨(i+1,z),⟨by simp only;omega,fun hh=>by simp only[tP,YDF hn,List.append_nil];exact hz hh⟩,by simp only;omega,?_⟩⟩
         . simp only[tP,tm1_n hn,YE8,List.length_singleton]
           rw[YED ((i:Int)+1) (by omega)]
           simp only[Ya]
           refine⟨?_,by simp,fun k hk=>Yc0 hk⟩
           repeat' apply YEU
           all_goals first|exact trivial|decide|rfl|omega|exact(YFa (by omega)).symm|exact Ye _ (Y0 _ _ _ _) |simp
         . simp only[tP,YDF hn,List.append_nil]
           rw[YED ((i:Int)+1) (by omega)]
           simp only[Ya]
           repeat' apply YEU
           all_goals first|exact trivial|decide|rfl|omega|exact(YFa (by omega)).symm|exact Ye _ (Y0 _ _ _ _) |simp
       . obtain rfl:i=6:=by omega
         simp only[tP_6]
         exact⟨h z,⟨trivial,trivial,trivial,trivial⟩,by simp [YbL,Yo,Ym]⟩
 . exact h.1.elim
def Yd6(q p:Nat->Int)(n:Int)(i:Nat):List SV:=
 [.int .i64 (if 0<i then q 0 else p 0),.int .i64 (if 1<i then q 1 else p 1),.int .i64 (if 2<i then q 2 else p 2),.int .i64 (if 3<i then q 3 else p 3),.int .i64 (if 4<i then q 4 else p 4),.int .i64 (if 5<i then q 5 else p 5),.int .i64 n]
theorem Yqp(q p:Nat->Int)(n:Int):Yd6 q p n 6=[.int .i64 (q 0),.int .i64 (q 1),.int .i64 (q 2),.int .i64 (q 3),.int .i64 (q 4),.int .i64 (q 5),.int .i64 n]:=rfl
theorem Yku(q p:Nat->Int)(n:Int)(i:Nat):lenL (Yd6 q p n i)=7:=rfl
theorem Yks(q p:Nat->Int)(n:Int)(i m:Nat):bndL m (Yd6 q p n i):=by simp [Yd6,bndL,bnd]
theorem YhU(q p:Nat->Int)(n:Int){i:Nat}(h:i<6):YQ (Yd6 q p n i) (idxN (i:Int) 1) [.int .i64 (q i)]=Yd6 q p n (i+1):=by
 rcases six h with rfl|rfl|rfl|rfl|rfl|rfl <;> rfl
theorem Ykt(q p:Nat->Int)(n:Int){i:Nat}(h:i<6):Yx 1 (Yt (idxN (i:Int) 1) (Yd6 q p n i))=[.int .i64 (p i)]:=by
 rcases six h with rfl|rfl|rfl|rfl|rfl|rfl <;> rfl
theorem YhT(q p:Nat->Int)(n:Int){i:Nat}(h:i<6):1<=lenL (Yt (idxN (i:Int) 1) (Yd6 q p n i)):=by
 rcases six h with rfl|rfl|rfl|rfl|rfl|rfl <;> exact YFi rfl
def YlM(n d:Int):Bool:=decide (n< -1000) || decide (1000<n) || decide (d< -1000) || decide (1000<d) || decide (d=0)
theorem YwW{n d:Int}(h:YlM n d=false):(-1000<=n/\n<=1000)/\(-1000<=d/\d<=1000)/\d≠0:=by
 simp only[YlM,YE9,decide_eq_false_iff_not]at h;omega
def powN(r:Rt)(n d:Int):Rt×Int:=YcW ⟨r.a*n,r.b*n,r.c*n,r.d*n,r.e*n,r.f*n,r.n*d⟩
def pwrF(r:Rt)(n d:Int):Rt×Int:=
 if chkR r≠0 then(YaN,chkR r)else if YlM n d=true then(YaN,2)else if d<0 then powN r (-n) (-d)else powN r n d
def powRC:Ctr:={ alias:=false,of:=fun l=>match l with
 | [.agg [.int .i64 a,.int .i64 b,.int .i64 c,.int .i64 d,.int .i64 e,.int .i64 f,.int .i64 n],.int .i64 p,.int .i64 q]=> .fin (.tup [.agg (encR (pwrF ⟨a,b,c,d,e,f,n⟩ p q).1),.int .i64 (pwrF ⟨a,b,c,d,e,f,n⟩ p q).2]) []
 |_=>noC}
def TC1:Env:={ ct:=fun n=>match n with|102=>some chkRC|113=>some madeC|_=>none,fn:=fun _=>none,meth:=fun _ _=>none}
theorem YpD:TC1.ct 102=some chkRC:=rfl
theorem Yb7:TC1.ct 113=some madeC:=rfl
theorem YAD:Ys YEC TC1:=by
 refine⟨fun f c h=>?_,fun f vf h=>?_,(fun _ _ _ h=>by cases h),by kernel_rfl,(fun _ h=>by cases h)⟩
 . simp only[TC1]at h
   split at h
   . cases h;exact⟨Ynn,Tryz.f102,Tryz.func102,by kernel_rfl,by kernel_rfl⟩
   . cases h;exact⟨YrF,Tryz.f113,Tryz.func113,by kernel_rfl,by kernel_rfl⟩
   . cases h
 . cases h
theorem pow_c:powRC.ok YEC 144:=by
 refine Yc Tryz.func144 YzQ YAD 300 powRC fun args k h=>?_
 simp only[powRC]at h
 split at h
 . rename_i a b c d e f n p q
   refine⟨[.agg [.int .i64 a,.int .i64 b,.int .i64 c,.int .i64 d,.int .i64 e,.int .i64 f,.int .i64 n],.int .i64 p,.int .i64 q],by simp [leL,le],?_⟩
   obtain⟨r,hr⟩:∃r:Rt,r=⟨a,b,c,d,e,f,n⟩:=⟨_,rfl⟩
   rw[<-hr]at h
   rw[show a=r.a by rw[hr],show b=r.b by rw[hr],show c=r.c by rw[hr],show d=r.d by rw[hr],show e=r.e by rw[hr],show f=r.f by rw[hr],show n=r.n by rw[hr]]
   clear hr
   have h:k (.tup [.agg (encR (pwrF r p q).1),.int .i64 (pwrF r p q).2]) []:=h
   dsimp only[v144,YpD,chkRC,go_sem,reduceIte,YEx]
   simp only[Yd,YEx,YEz,reduceCtorEq,YEy]
   refine⟨fun hc=>?_,fun hc=>⟨fun hb=>?_,fun hb=>?_⟩⟩
   . rw[pwrF,if_pos hc]at h
     exact YbX (r:=YaN) h
   all_goals
     have hc:chkR r=0:=hc
     rw[pwrF,if_neg (by rw[hc];decide)]at h
   . rw[if_pos (show YlM p q=true from hb)]at h
     exact YbX (r:=YaN) h
   . have hb:YlM p q=false:=hb
     rw[if_neg (by rw[hb];decide)]at h
     obtain⟨hp,hq,hq0⟩:=YwW hb
     refine⟨fun hneg=>?_,fun hpos=>?_⟩
     . rw[if_pos hneg]at h
       rw[YED (0-p) (by omega),YED (0-q) (by omega),Int.zero_sub,Int.zero_sub]
       obtain⟨P,hP⟩:∃P,P= -p:=⟨_,rfl⟩
       obtain⟨Q,hQ⟩:∃Q,Q= -q:=⟨_,rfl⟩
       rw[<-hP,<-hQ]at h⊢
       have hPb: -1000<=P/\P<=1000:=by omega
       have hQb:1<=Q/\Q<=1000:=by omega
       clear hp hq hP hQ
       refine Loop.keep [1,0,0,2,0] Nat (fun i=>[(41,.int .i64 i)]) (fun i=>[(0,.box (Yd6 (fun j=>r.num j*P) r.num r.n i))]) [] (fun i=>i<=6) (fun i=>6-i) ?_ ?_
       . refine⟨0,by omega,?_⟩
         dsimp only[Yd6,go_sem,reduceIte,YEx]
         simp only[Ya]
         repeat' apply YEU
         all_goals first|exact trivial|decide|rfl|omega|exact(YFa (by omega)).symm|exact Ye _ (Y0 _ _ _ _) |simp
       . rintro i hi
         dsimp only[Yb7,madeC,YEB,go_sem,reduceIte,YEx]
         simp only[Yd,YEx,YEz,reduceCtorEq,YEy]
         refine⟨fun hlt=>?_,fun hge=>?_⟩
         . have hi6:i<6:=by omega
           rw[Ykt _ _ _ hi6]
           dsimp only[Yb7,madeC,YEB,go_sem,reduceIte,YEx]
           simp only[Yd,YEx,YEz,reduceCtorEq,YEy]
           have h1:=Ydv hc hi6
           have hm:=Yam (x:=r.num i) (y:=P) (X:=100000) (Y:=1000) h1 (by omega)
           have e:YQ (Yd6 (fun j=>r.num j*P) r.num r.n i) (idxN (i:Int) 1) [.int .i64 (r.num i*P)]=Yd6 (fun j=>r.num j*P) r.num r.n (i+1):=YhU (fun j=>r.num j*P) r.num r.n hi6
           rw[YED (r.num i*P) (by omega),YED ((i:Int)+1) (by omega),e]
           refine⟨⟨by omega,by omega⟩,YhT _ _ _ hi6,⟨by omega,by omega⟩,by rw[YkP,Yku];omega,i+1,by omega,by omega,?_⟩
           simp only[Ya]
           refine⟨?_,Ye _ (Yks _ _ _ _ _)⟩
           repeat' apply YEU
           all_goals first|exact trivial|decide|rfl|omega|exact(YFa (by omega)).symm|exact Ye _ (Y0 _ _ _ _) |simp
         . obtain rfl:i=6:=by omega
           have hn:=Yfy hc
           have hm:=Yam (x:=r.n) (y:=Q) (X:=1000) (Y:=1000) (by omega) (by omega)
           have hm1:1<=r.n*Q:=Int.mul_pos (by omega) (by omega)
           simp only[Yqp]
           dsimp only[Yb7,madeC,encR,go_sem,reduceIte,YEx]
           simp only[Yd,YEx,YEz,reduceCtorEq,YEy]
           rw[YED (r.n*Q) (by omega)]
           refine⟨⟨hm1,by omega,fun i hi=>?_⟩,?_⟩
           . have h1:=Ydv hc hi
             have hm:=Yam (x:=r.num i) (y:=P) (X:=100000) (Y:=1000) h1 (by omega)
             rcases six hi with rfl|rfl|rfl|rfl|rfl|rfl <;> (simp only[Rt.num]at hm⊢;omega)
           . exact⟨by decide,by decide,YbX (r:=(powN r P Q).1) h⟩
     . rw[if_neg hpos]at h
       obtain⟨P,hP⟩:∃P,P=p:=⟨_,rfl⟩
       obtain⟨Q,hQ⟩:∃Q,Q=q:=⟨_,rfl⟩
       rw[<-hP,<-hQ]at h⊢
       have hPb: -1000<=P/\P<=1000:=by omega
       have hQb:1<=Q/\Q<=1000:=by omega
       refine Loop.keep [1,0,0,2,0] Nat (fun i=>[(41,.int .i64 i)]) (fun i=>[(0,.box (Yd6 (fun j=>r.num j*P) r.num r.n i))]) [] (fun i=>i<=6) (fun i=>6-i) ?_ ?_
       . refine⟨0,by omega,?_⟩
         dsimp only[Yd6,go_sem,reduceIte,YEx]
         simp only[Ya]
         repeat' apply YEU
         all_goals first|exact trivial|decide|rfl|omega|exact(YFa (by omega)).symm|exact Ye _ (Y0 _ _ _ _) |simp
       . rintro i hi
         dsimp only[Yb7,madeC,YEB,go_sem,reduceIte,YEx]
         simp only[Yd,YEx,YEz,reduceCtorEq,YEy]
         refine⟨fun hlt=>?_,fun hge=>?_⟩
         . have hi6:i<6:=by omega
           rw[Ykt _ _ _ hi6]
           dsimp only[Yb7,madeC,YEB,go_sem,reduceIte,YEx]
           simp only[Yd,YEx,YEz,reduceCtorEq,YEy]
           have h1:=Ydv hc hi6
           have hm:=Yam (x:=r.num i) (y:=P) (X:=100000) (Y:=1000) h1 (by omega)
           have e:YQ (Yd6 (fun j=>r.num j*P) r.num r.n i) (idxN (i:Int) 1) [.int .i64 (r.num i*P)]=Yd6 (fun j=>r.num j*P) r.num r.n (i+1):=YhU (fun j=>r.num j*P) r.num r.n hi6
           rw[YED (r.num i*P) (by omega),YED ((i:Int)+1) (by omega),e]
           refine⟨⟨by omega,by omega⟩,YhT _ _ _ hi6,⟨by omega,by omega⟩,by rw[YkP,Yku];omega,i+1,by omega,by omega,?_⟩
           simp only[Ya]
           refine⟨?_,Ye _ (Yks _ _ _ _ _)⟩
           repeat' apply YEU
           all_goals first|exact trivial|decide|rfl|omega|exact(YFa (by omega)).symm|exact Ye _ (Y0 _ _ _ _) |simp
         . obtain rfl:i=6:=by omega
           have hn:=Yfy hc
           have hm:=Yam (x:=r.n) (y:=Q) (X:=1000) (Y:=1000) (by omega) (by omega)
           have hm1:1<=r.n*Q:=Int.mul_pos (by omega) (by omega)
           simp only[Yqp]
           dsimp only[Yb7,madeC,encR,go_sem,reduceIte,YEx]
           simp only[Yd,YEx,YEz,reduceCtorEq,YEy]
           rw[YED (r.n*Q) (by omega)]
           refine⟨⟨hm1,by omega,fun i hi=>?_⟩,?_⟩
           . have h1:=Ydv hc hi
             have hm:=Yam (x:=r.num i) (y:=P) (X:=100000) (Y:=1000) h1 (by omega)
             rcases six hi with rfl|rfl|rfl|rfl|rfl|rfl <;> (simp only[Rt.num]at hm⊢;omega)
           . exact⟨by decide,by decide,YbX (r:=(powN r P Q).1) h⟩
 . exact h.1.elim
def v143:VF:=⟨64,[.cell 4 true 7,.tmp 5],(ZR [u1 4 (.alloc [(.int .i64 0),(.int .i64 0),(.int .i64 0),(.int .i64 0),(.int .i64 0),(.int .i64 0),(.int .i64 0)]) [],Zi 5 0] (.seq (ZR [Zm 9 0,Zq 10 .lss 9 1,Zm 11 10,Zg 12 11 false 0,u2 13 11 false (.cmp .gtr) [.tm 12,.cn (.int .i64 1000000000000)],u1 14 .or [.tm 11,.tm 13],Zm 15 14,Zg 16 15 false 1,u2 17 15 false (.cmp .lss) [.tm 16,.cn (.int .i64 1)],u1 18 .or [.tm 15,.tm 17],Zm 19 18,Zg 20 19 false 1,u2 21 19 false (.cmp .gtr) [.tm 20,.cn (.int .i64 1000000000000)],u1 22 .or [.tm 19,.tm 21]] (ZC 22 (ZR [u1 23 (.build [(.int .i64 0),(.int .i64 0),(.int .i64 0),(.int .i64 0),(.int .i64 0),(.int .i64 0),(.int .i64 0)] []) [],Zs 7 4 23,Zi 5 2] .ret) .skip)) (ZR [u1 24 (.build [(.int .i64 0),(.int .i64 0),(.int .i64 0),(.int .i64 0),(.int .i64 0),(.int .i64 0),(.int .i64 0)] [(6,1)]) [.cn (.int .i64 1)],u1 6 (.alloc [(.int .i64 0),(.int .i64 0),(.int .i64 0),(.int .i64 0),(.int .i64 0),(.int .i64 0),(.int .i64 0)]) [],Zs 7 6 24] (.seq (ZR [u1 25 (.load true 6) [.cn (.xp false [(.int .i64 2),(.int .i64 3),(.int .i64 5),(.int .i64 7),(.int .i64 11),(.int .i64 13)])],Zi 26 0] (.block 0 (.loop (ZR [Zq 27 .lss 26 6] (.seq (ZC 27 .skip (.exit 0)) (.seq (.block 1 (ZR [Zm 28 26,u1 29 (.index false 6 1) [.tm 25,.tm 26],Zm 7 28,Zm 8 29] (.seq (.block 2 (.loop (.seq (ZR [Zm 30 0,Zm 31 8,u1 32 .rem [.tm 30,.tm 31],Zq 33 .eql 32 0] (ZC 33 .skip (.exit 2))) (.seq (.block 3 (.region [Zm 37 7,Za 38 0 6,u1 39 (.idxArr 6 1) [.tm 38,.tm 37],Zf 40 1 39,Zp 41 40 1,Za 42 0 6,u1 43 (.idxArr 6 1) [.tm 42,.tm 37],Zs 1 43 41])) (.region [Zm 34 0,Zm 35 8,u1 36 .quo [.tm 34,.tm 35],Zm 0 36]))))) (.block 4 (.loop (.seq (ZR [Zm 44 1,Zm 45 8,u1 46 .rem [.tm 44,.tm 45],Zq 47 .eql 46 0] (ZC 47 .skip (.exit 4))) (.seq (.block 5 (.region [Zm 51 7,Za 52 0 6,u1 53 (.idxArr 6 1) [.tm 52,.tm 51],Zf 54 1 53,u1 55 (.ari .sub) [.tm 54,.cn (.int .i64 1)],Za 56 0 6,u1 57 (.idxArr 6 1) [.tm 56,.tm 51],Zs 1 57 55])) (.region [Zm 48 1,Zm 49 8,u1 50 .quo [.tm 48,.tm 49],Zm 1 50])))))))) (.region [Zp 58 26 1,Zm 26 58]))))))) (.seq (ZR [Zm 59 0,Zm 60 1,Zr 61 .neq 59 60] (ZC 61 (ZR [u1 62 (.build [(.int .i64 0),(.int .i64 0),(.int .i64 0),(.int .i64 0),(.int .i64 0),(.int .i64 0),(.int .i64 0)] []) [],Zs 7 4 62,Zi 5 7] .ret) .skip)) (ZR [Zt 63 7 6,Zs 7 4 63,Zi 5 0] .ret))))))⟩
theorem YzP:Yi YEC Tryz.f143=some v143:=by kernel_rfl
def valL:Nat->Int->Int->Int->Int->Int×Int
 |0,_,n,c,_=>(n,c)
 |f+1,p,n,c,s=>if n%p=0 then valL f p (n/p) (c+s) s else(n,c)
def ofL(num den:Int):Nat->Int×Int×(Nat->Int)
 |0=>(num,den,fun _=>0)
 |i+1=>
   ((valL 64 (prm i) (ofL num den i).1 0 1).1,(valL 64 (prm i) (ofL num den i).2.1 (valL 64 (prm i) (ofL num den i).1 0 1).2 (-1)).1,
     fun k=>if k=i then(valL 64 (prm i) (ofL num den i).2.1 (valL 64 (prm i) (ofL num den i).1 0 1).2 (-1)).2 else(ofL num den i).2.2 k)
def YtT(a b:Int):Bool:=decide (a<1) || decide (1000000000000<a) || decide (b<1) || decide (1000000000000<b)
def ofRF(a b:Int):Rt×Int:=
 if YtT a b=true then(YaN,2)else if(ofL a b 6).1≠(ofL a b 6).2.1 then(YaN,7)
 else(⟨(ofL a b 6).2.2 0,(ofL a b 6).2.2 1,(ofL a b 6).2.2 2,(ofL a b 6).2.2 3,(ofL a b 6).2.2 4,(ofL a b 6).2.2 5,1⟩,0)
def YfP(g:Nat->Int)(n:Int):List SV:=[.int .i64 (g 0),.int .i64 (g 1),.int .i64 (g 2),.int .i64 (g 3),.int .i64 (g 4),.int .i64 (g 5),.int .i64 n]
def setF(g:Nat->Int)(i:Nat)(v:Int):Nat->Int:=fun k=>if k=i then v else g k
theorem Ykp(g:Nat->Int)(n:Int){i:Nat}(h:i<6):Yx 1 (Yt (idxN (i:Int) 1) (YfP g n))=[.int .i64 (g i)]:=by
 rcases six h with rfl|rfl|rfl|rfl|rfl|rfl <;> rfl
theorem YhS(g:Nat->Int)(n:Int){i:Nat}(h:i<6):1<=lenL (Yt (idxN (i:Int) 1) (YfP g n)):=by
 rcases six h with rfl|rfl|rfl|rfl|rfl|rfl <;> exact YFi rfl
theorem Ykr(g:Nat->Int)(n:Int){i:Nat}(h:i<6)(v:Int):YQ (YfP g n) (idxN (i:Int) 1) [.int .i64 v]=YfP (setF g i v) n:=by
 rcases six h with rfl|rfl|rfl|rfl|rfl|rfl <;> rfl
theorem Ykq(g:Nat->Int)(n:Int):lenL (YfP g n)=7:=rfl
theorem Yc1(g:Nat->Int)(n:Int)(m:Nat):bndL m (YfP g n):=by simp [YfP,bndL,bnd]
theorem Yoj(g:Nat->Int)(i:Nat)(v w:Int):setF (setF g i v) i w=setF g i w:=by
 funext k;unfold setF;split <;> rfl
theorem Ylm(g:Nat->Int)(i:Nat)(v:Int):setF g i v i=v:=if_pos rfl
theorem Yy6(g:Nat->Int)(i:Nat):setF g i (g i)=g:=by
 funext k;unfold setF;split
 . rename_i h;rw[h]
 . rfl
theorem Yyx(i:Nat):2<=prm i/\prm i<=13:=by
 unfold prm;split <;> omega
theorem Yqv{i:Nat}(h:i<6):Yx 1 (Yt (i*1) [.int .i64 2,.int .i64 3,.int .i64 5,.int .i64 7,.int .i64 11,.int .i64 13])=[.int .i64 (prm i)]:=YnC h
theorem You{n p:Int}{f:Nat}(hp:2<=p)(h1:1<=n)(h2:n<2^(f+1))(h3:n<=1000000000000)(hd:n%p=0):1<=n/p/\n/p<2^f/\n/p<=1000000000000:=by
 have e:=Int.mul_ediv_add_emod n p
 rw[hd,Int.add_zero]at e
 have hq:1<=n/p:=by
   rcases(show n/p<1\/1<=n/p by omega)with h|h
   . have:p*(n/p)<=p*0:=YEM (by omega) (by omega)
     omega
   . exact h
 have h4:2*(n/p)<=n:=by
   have:2*(n/p)<=p*(n/p):=YE1 hp (by omega)
   omega
 rw[Int.pow_succ]at h2
 exact⟨hq,by omega,by omega⟩
def ofRC:Ctr:={ alias:=false,of:=fun l=>match l with
 | [.int .i64 a,.int .i64 b]=> .fin (.tup [.agg (encR (ofRF a b).1),.int .i64 (ofRF a b).2]) []
 |_=>noC}
theorem YCs(a b:Int):∀i j,i<=j->(ofL a b i).2.2 j=0
 |0,_,_=>rfl
 |i+1,j,h=>by
   rw[ofL]
   show(if j=i then _ else _)=(0:Int)
   rw[if_neg (by omega)]
   exact YCs a b i j (by omega)
def TD0:Env:={ ct:=fun _=>none,fn:=fun _=>none,meth:=fun _ _=>none}
theorem YAE:Ys YEC TD0:=by
 refine⟨fun f c h=>?_,fun f vf h=>?_,(fun _ _ _ h=>by cases h),by kernel_rfl,(fun _ h=>by cases h)⟩
 . cases h
 . cases h
theorem of_c:ofRC.ok YEC 143:=by
 refine Yc Tryz.func143 YzP YAE 300 ofRC fun args k h=>?_
 simp only[ofRC]at h
 split at h
 . rename_i a b
   refine⟨[.int .i64 a,.int .i64 b],by simp [leL,le],?_⟩
   have h:k (.tup [.agg (encR (ofRF a b).1),.int .i64 (ofRF a b).2]) []:=h
   dsimp only[v143,go_sem,reduceIte,YEx]
   simp only[Yd,YEx,YEz,reduceCtorEq,YEy]
   refine⟨fun hb=>?_,fun hb=>?_⟩
   . rw[ofRF,if_pos (show YtT a b=true from hb)]at h
     exact YbX (r:=YaN) h
   . have hb:YtT a b=false:=hb
     rw[ofRF,if_neg (by rw[hb];decide)]at h
     simp only[YtT,YE9,decide_eq_false_iff_not]at hb
     refine Loop.keep [4,0,0,18] Nat (fun i=>[(0,.int .i64 (ofL a b i).1),(1,.int .i64 (ofL a b i).2.1),(26,.int .i64 i)]) (fun i=>[(1,.box (YfP (ofL a b i).2.2 1))]) [] (fun i=>i<=6/\(1<=(ofL a b i).1/\(ofL a b i).1<=1000000000000)/\1<=(ofL a b i).2.1/\(ofL a b i).2.1<=1000000000000) (fun i=>6-i) ?_ ?_
     . refine⟨0,⟨by omega,⟨by simp only[ofL];omega,by simp only[ofL];omega⟩,by simp only[ofL];omega,by simp only[ofL];omega⟩,?_⟩
       dsimp only[YfP,ofL,go_sem,reduceIte,YEx]
       simp only[Ya]
       repeat' apply YEU
       all_goals first|exact trivial|decide|rfl|omega|exact(YFa (by omega)).symm|simp
     . rintro i ⟨hi,hx,hy⟩
       obtain⟨X,hX⟩:∃X,X=(ofL a b i).1:=⟨_,rfl⟩
       obtain⟨Y,hY⟩:∃Y,Y=(ofL a b i).2.1:=⟨_,rfl⟩
       obtain⟨g,hg⟩:∃g,g=(ofL a b i).2.2:=⟨_,rfl⟩
       rw[<-hX]at hx
       rw[<-hY]at hy
       rw[<-hX,<-hY,<-hg]
       dsimp only[YEB,go_sem,reduceIte,YEx]
       simp only[Yd,YEx,YEz,reduceCtorEq,YEy]
       refine⟨fun hlt=>?_,fun hge=>?_⟩
       . have hi6:i<6:=by omega
         have hp:=Yyx i
         have hg0:g i=0:=by rw[hg];exact YCs a b i i (YEK _)
         rw[Yqv hi6]
         refine⟨⟨by omega,by omega⟩,?_⟩
         have hS:ofL a b (i+1)=((valL 64 (prm i) X 0 1).1,(valL 64 (prm i) Y (valL 64 (prm i) X 0 1).2 (-1)).1,setF g i (valL 64 (prm i) Y (valL 64 (prm i) X 0 1).2 (-1)).2):=by
           rw[ofL,<-hX,<-hY,<-hg];rfl
         generalize prm i=p at hp hS⊢
         obtain⟨A,hA⟩:∃A,A=valL 64 p X 0 1:=⟨_,rfl⟩
         rw[<-hA]at hS
         refine Loop.keep [1,2,0,0,0,0,16,0] (Nat×Int×Int) (fun s=>[(0,.int .i64 s.2.1)]) (fun s=>[(1,.box (YfP (setF g i s.2.2) 1))]) [] (fun s=>A=valL s.1 p s.2.1 s.2.2 1/\1<=s.2.1/\s.2.1<2^s.1/\s.2.1<=1000000000000/\ -1000+s.1<=s.2.2/\s.2.2<=1000-s.1) (fun s=>s.1) ?_ ?_
         . refine⟨(64,X,0),⟨hA,hx.1,by simp only;omega,hx.2,by simp,by simp⟩,?_⟩
           rw[show setF g i (64,X,(0:Int)).2.2=g by rw[<-hg0];exact Yy6 g i]
           dsimp only[go_sem,reduceIte,YEx]
           simp only[Ya]
           refine⟨by decide,Ye _ (Yc1 _ _ _)⟩
         . rintro⟨f,n,c⟩ ⟨hf,n1,n2,n3,c1,c2⟩
           dsimp only at hf n1 n2 n3 c1 c2
           dsimp only[YEB,go_sem,reduceIte,YEx]
           simp only[Yd,YEx,YEz,reduceCtorEq,YEy]
           have e1:n.tmod p=n%p:=Int.tmod_eq_emod_of_nonneg (by omega)
           have e2:n.tdiv p=n/p:=Int.tdiv_eq_ediv_of_nonneg (by omega)
           rw[e1]
           obtain⟨q,rfl⟩:∃q,f=q+1:=by
             cases f with
             |zero=>simp at n2;omega
             |succ q=>exact⟨q,rfl⟩
           rw[valL]at hf
           refine⟨by omega,fun hd=>?_,fun hd=>?_⟩
           . rw[if_pos hd]at hf
             obtain⟨w1,w2,w3⟩:=You (by omega) n1 n2 n3 hd
             rw[Ykp _ _ hi6,Ylm]
             dsimp only[YEB,go_sem,reduceIte,YEx]
             simp only[Yd,YEx,YEz,reduceCtorEq,YEy]
             rw[Ykr _ _ hi6,Yoj,e2,YED (n/p) (by omega),YED (c+1) (by omega)]
             refine⟨⟨by omega,by omega⟩,YhS _ _ hi6,⟨by omega,by omega⟩,by rw[YkP,Ykq];omega,by omega,(q,n/p,c+1),⟨hf,w1,w2,w3,by simp only;omega,by simp only;omega⟩,by simp only;omega,?_⟩
             simp only[Ya]
             refine⟨by decide,Ye _ (Yc1 _ _ _)⟩
           . rw[if_neg hd]at hf
             have hA1:A.1=n:=by rw[hf]
             have hA2:A.2=c:=by rw[hf]
             rw[hA2]at hS
             obtain⟨B,hB⟩:∃B,B=valL 64 p Y c (-1):=⟨_,rfl⟩
             rw[<-hB,hA1]at hS
             have n1':=n1
             have n3':=n3
             have c1': -2000+(64:Int)<=c/\c<=2000-64:=by omega
             clear hf hA n2 e1 e2 c1 c2 hA1 hA2
             refine Loop.keep [0,3,0,0,0,0,16,0] (Nat×Int×Int) (fun s=>[(1,.int .i64 s.2.1)]) (fun s=>[(1,.box (YfP (setF g i s.2.2) 1))]) [] (fun s=>B=valL s.1 p s.2.1 s.2.2 (-1)/\1<=s.2.1/\s.2.1<2^s.1/\s.2.1<=1000000000000/\ -2000+s.1<=s.2.2/\s.2.2<=2000-s.1) (fun s=>s.1) ?_ ?_
             . refine⟨(64,Y,c),⟨hB,hy.1,by simp only;omega,hy.2,by simp only;omega,by simp only;omega⟩,?_⟩
               dsimp only[go_sem,reduceIte,YEx]
               simp only[Ya]
               refine⟨by decide,Ye _ (Yc1 _ _ _)⟩
             . obtain⟨N,hN⟩:∃N,N=n:=⟨_,rfl⟩
               rw[<-hN]at n1' n3' hS⊢
               clear hN n1 n3 hd c1' hB
               rintro⟨f,n,c⟩ ⟨hf,n1,n2,n3,c1,c2⟩
               dsimp only at hf n1 n2 n3 c1 c2
               dsimp only[YEB,go_sem,reduceIte,YEx]
               simp only[Yd,YEx,YEz,reduceCtorEq,YEy]
               have e1:n.tmod p=n%p:=Int.tmod_eq_emod_of_nonneg (by omega)
               have e2:n.tdiv p=n/p:=Int.tdiv_eq_ediv_of_nonneg (by omega)
               rw[e1]
               obtain⟨q,rfl⟩:∃q,f=q+1:=by
                 cases f with
                 |zero=>simp at n2;omega
                 |succ q=>exact⟨q,rfl⟩
               rw[valL]at hf
               refine⟨by omega,fun hd=>?_,fun hd=>?_⟩
               . rw[if_pos hd]at hf
                 obtain⟨w1,w2,w3⟩:=You (by omega) n1 n2 n3 hd
                 rw[Ykp _ _ hi6,Ylm]
                 dsimp only[YEB,go_sem,reduceIte,YEx]
                 simp only[Yd,YEx,YEz,reduceCtorEq,YEy]
                 rw[Ykr _ _ hi6,Yoj,e2,YED (n/p) (by omega),YED (c-1) (by omega)]
                 refine⟨⟨by omega,by omega⟩,YhS _ _ hi6,⟨by omega,by omega⟩,by rw[YkP,Ykq];omega,by omega,(q,n/p,c+(-1)),⟨hf,w1,w2,w3,by simp only;omega,by simp only;omega⟩,by simp only;omega,?_⟩
                 simp only[Ya]
                 refine⟨by decide,Ye _ (Yc1 _ _ _)⟩
               . rw[if_neg hd]at hf
                 have hB1:B.1=n:=by rw[hf]
                 have hB2:B.2=c:=by rw[hf]
                 rw[hB1,hB2]at hS
                 refine⟨i+1,⟨by omega,⟨by rw[hS];exact n1',by rw[hS];exact n3'⟩,by rw[hS];exact n1,by rw[hS];exact n3⟩,by omega,?_⟩
                 rw[hS,YED ((i:Int)+1) (by omega)]
                 simp only[Ya]
                 refine⟨?_,Ye _ (Yc1 _ _ _)⟩
                 repeat' apply YEU
                 all_goals first|exact trivial|decide|rfl|omega|exact(YFa (by omega)).symm|simp
       . obtain rfl:i=6:=by omega
         rw[<-hX,<-hY,<-hg]at h
         refine⟨fun hn=>?_,fun he=>?_⟩
         . rw[if_pos hn]at h
           exact YbX (r:=YaN) h
         . rw[if_neg (by omega)]at h
           exact⟨YEK 7,⟨rfl,by simp [YfP,Yx,ones,one]⟩,YEK 7,YbX (r:=⟨g 0,g 1,g 2,g 3,g 4,g 5,1⟩) h⟩
 . exact h.1.elim
def v54:VF:=⟨71,[.tmp 6,.tmp 7,.tmp 8],(ZR [u1 3 .box [.tm 0],u1 4 .box [.tm 1],Zi 6 0,u1 7 .mov [.cn (.bool false)],Zi 8 0] (.seq (ZR [Zf 15 1 3,Zc 16 81 15,Zm 9 16] (ZR [Zm 17 9,Zq 18 .neq 17 0] (ZC 18 (ZR [Zm 19 9,Zi 6 0,u1 7 .mov [.cn (.bool false)],Zm 8 19] .ret) .skip))) (.seq (ZR [Zf 20 1 4,Zq 21 .lss 20 1,Zm 22 21,Zh 23 22 false 1 4,u2 24 22 false (.cmp .gtr) [.tm 23,.cn (.int .i64 1000000)],u1 25 .or [.tm 22,.tm 24],Zm 26 25,Zg 27 26 false 2,u2 28 26 false (.cmp .lss) [.tm 27,.cn (.int .i64 1)],u1 29 .or [.tm 26,.tm 28],Zm 30 29,Zg 31 30 false 2,u2 32 30 false (.cmp .gtr) [.tm 31,.cn (.int .i64 10000000)],u1 33 .or [.tm 30,.tm 32]] (ZC 33 (ZR [Zi 6 0,u1 7 .mov [.cn (.bool false)],Zi 8 2] .ret) .skip)) (ZR [Zf 34 1 3,Zl 35 34,Zp 36 35 1,u1 37 (.make 2 16 [(.int .i64 0),(.int .i64 0)]) [.cn (.int .i64 0),.tm 36],u1 10 (.alloc [.nil]) [],Zs 1 10 37] (.seq (ZR [Zf 38 1 3,Zl 39 38,Zi 40 0] (.block 0 (.loop (ZR [Zr 41 .lss 40 39] (.seq (ZC 41 .skip (.exit 0)) (.seq (.block 1 (ZR [Zx 42 2 38 40,Zt 43 2 42,Zn 12,Zs 2 12 43] (.region [Zf 44 1 10,Za 45 0 12,Zf 46 1 45,Za 47 1 12,Zf 48 1 47,Zm 49 2,Zo 50 .mul 48 49,u1 51 (.build [(.int .i64 0),(.int .i64 0)] [(0,1),(1,1)]) [.tm 46,.tm 50],u1 52 (.buildSlice 2 1 [(.int .i64 0),(.int .i64 0)] [(0,2)]) [.tm 51],u1 53 (.append 2 16 [(.int .i64 0),(.int .i64 0)]) [.tm 44,.tm 52],Zs 1 10 53]))) (.region [Zp 54 40 1,Zm 40 54]))))))) (ZR [u1 55 (.mkfn (.func 82) 0) [.tm 10,.tm 3,.tm 4],u1 13 (.alloc [(.val .nilFunc)]) [],Zs 1 13 55] (ZR [u1 56 (.mkfn (.func 83) 0) [.tm 13],Zm 14 56] (.seq (ZR [Zm 57 14,u1 58 .callv [.tm 57,.cn (.int .i64 1000000000001)],Zm 59 58,Zg 60 59 false 14,u2 61 59 false .callv [.tm 60,.cn (.int .i64 (-1000000000000))],u2 62 59 false .not [.tm 61],u1 63 .or [.tm 59,.tm 62]] (ZC 63 (ZR [Zi 6 0,u1 7 .mov [.cn (.bool false)],Zi 8 7] .ret) .skip)) (ZR [Zm 64 14,u1 65 (.call 85) [.cn (.int .i64 (-1000000000000)),.cn (.int .i64 1000000000001),.tm 64],Zm 6 65] (ZR [Zm 66 6,Zf 67 1 13,Zm 68 6,u1 69 .callv [.tm 67,.tm 68],Zc 70 86 69,Zm 6 66,Zm 7 70,Zi 8 0] .ret))))))))))⟩
theorem YD2:Yi YEC Tryz.f54=some v54:=by kernel_rfl
def v82:VF:=⟨19,[.tmp 5],(ZR [u1 5 .mov [.cn .nil]] (.seq (.draw [] [Zv 6 1 1,Zv 7 1 2,w1 8 .len [.tm 7],Zv 9 1 2,w1 10 .len [.tm 9],w1 11 (.slice3 2) [.tm 6,.tm 8,.tm 10],Zu 12 0,w1 13 .neg [.tm 12],Zv 14 1 3,w1 15 (.ari .mul) [.tm 13,.tm 14],w1 16 (.build [(.int .i64 0),(.int .i64 0)] [(0,1),(1,1)]) [.cn (.int .i64 2),.tm 15],w1 17 (.buildSlice 2 1 [(.int .i64 0),(.int .i64 0)] [(0,2)]) [.tm 16],w1 18 (.append 2 16 [(.int .i64 0),(.int .i64 0)]) [.tm 11,.tm 17],Zu 5 18]) .ret))⟩
theorem YEg:Yi YEC Tryz.f82=some v82:=by kernel_rfl
def v83:VF:=⟨9,[.tmp 3],(ZR [u1 3 .mov [.cn (.bool false)]] (ZR [Zf 4 1 1,Zm 5 0,u1 6 .callv [.tm 4,.tm 5],Zc 7 84 6,Zq 8 .geq 7 0,Zm 3 8] .ret))⟩
theorem YEh:Yi YEC Tryz.f83=some v83:=by kernel_rfl
def sclT(s:Int)(x:Int×Int):Int×Int:=(x.1,x.2*s)
def atG(all:List (Int×Int))(den m:Int):List (Int×Int):=all++[(2, -m*den)]
def isG(all:List (Int×Int))(den m:Int):Bool:=decide (0<=Yaz (atG all den m))
def YoB(den s:Int):Bool:=decide (den<1) || decide (1000000<den) || decide (s<1) || decide (10000000<s)
def flrG(all:List (Int×Int))(den:Int):Int×Bool×Int:=
 if(isG all den 1000000000001|| !isG all den (-1000000000000))=true then(0,false,7)
 else(bisL 64 (isG all den) (-1000000000000) 1000000000001,oneF (atG all den (bisL 64 (isG all den) (-1000000000000) 1000000000001)),0)
def flrF(l:List (Int×Int))(den s:Int):Int×Bool×Int:=
 if Ycx l≠0 then(0,false,Ycx l)else if YoB den s=true then(0,false,2)else flrG (l.map (sclT s)) den
theorem Yl1{α β:Type}[Inhabited α][Inhabited β]{l:List α}{f:α->β}{k:Nat}(h:k<l.length):(l.map f).getD k default=f (l.getD k default):=by
 rw[YER,List.getElem?_map,List.getElem?_eq_getElem h,YER,List.getElem?_eq_getElem h];rfl
theorem Ync{A:List (Int×Int)}{L:Nat}(hL:A.length=L){q:Int}{hp:List HO}{r:List SV->List SV}:
   lsP 2 enc2 (L+1) 2 (fun k=>Yct false hp r (if k<L then [SV.int .i64 (A.getD k default).fst,SV.int .i64 (A.getD k default).snd]else Yx 2 (Yt ((k-L)*2) [SV.int .i64 2,SV.int .i64 q]))) (A++[(2,q)]):=by
 subst hL
 refine⟨rfl,by simp,fun k hk=>?_⟩
 by_cases h:k<A.length
 . simp only[if_pos h]
   rw[YL h]
   exact Yb _
 . simp only[if_neg h]
   rw[YM (by omega),show k-A.length=0 by omega]
   exact Yb _
theorem YBd{l:List (Int×Int)}{s den m:Int}(hl:∀x,x∈l->okT0 x=false)(hs:1<=s/\s<=10000000)(hd:1<=den/\den<=1000000)(hm: -1000000000001<=m/\m<=1000000000001):∀x,x∈atG (l.map (sclT s)) den m->okT x:=by
 intro x hx
 rw[atG,YE3,YFg,YFz]at hx
 rcases hx with⟨y,hy,rfl⟩ |rfl
 . have:=hl y hy
   simp only[okT0,YE9,decide_eq_false_iff_not]at this
   have hb:=Yam (x:=y.2) (y:=s) (X:=1000000000) (Y:=10000000) (by omega) (by omega)
   simp only[okT,sclT]
   omega
 . have hb:=Yam (x:= -m) (y:=den) (X:=1000000000001) (Y:=1000000) (by omega) (by omega)
   simp only[okT]
   omega
theorem Yjy{m den:Int}(hd:1<=den/\den<=1000000)(hm: -1000000000001<=m/\m<=1000000000001):IntKind.i64.wrap (IntKind.i64.wrap (0-m)*den)= -m*den:=by
 have hb:=Yam (x:= -m) (y:=den) (X:=1000000000001) (Y:=1000000) (by omega) (by omega)
 rw[YED (0-m) (by omega),Int.zero_sub,YED _ (by omega)]
theorem Yy5{A:List (Int×Int)}{L:Nat}{x y:Int}{k a b:Nat}(hk:k<L+1):leL a b (if k<L then [SV.int .i64 (A.getD k default).fst,SV.int .i64 (A.getD k default).snd]else Yx 2 (Yt ((k-L)*2) [SV.int .i64 x,SV.int .i64 y])) (if k<L then [SV.int .i64 (A.getD k default).fst,SV.int .i64 (A.getD k default).snd]else Yx 2 (Yt ((k-L)*2) [SV.int .i64 x,SV.int .i64 y])):=by
 by_cases h:k<L
 . rw[if_pos h];exact⟨⟨rfl,rfl⟩,⟨rfl,rfl⟩,trivial⟩
 . rw[if_neg h,show k-L=0 by omega];exact⟨⟨rfl,rfl⟩,⟨rfl,rfl⟩,trivial⟩
def flrC:Ctr:={ alias:=false,of:=fun l=>match l with
 | [.vs _ _ n sz get,.int .i64 den,.int .i64 s]=> .ex (List (Int×Int)) fun l=> .pre (lsP 2 enc2 n sz get l/\n<=1000000000000) (.fin (.tup [.int .i64 (flrF l den s).1,.bool (flrF l den s).2.1,.int .i64 (flrF l den s).2.2]) [])
 |_=>noC}
def TE0:Env:={ ct:=fun n=>match n with|81=>some chkTC|84=>some signC|86=>some oneC|_=>none,fn:=fun n=>match n with|82=>some v82|83=>some v83|85=>some v85|_=>none,meth:=fun _ _=>none}
theorem Ytg:TE0.ct 81=some chkTC:=rfl
theorem Yis:TE0.ct 84=some signC:=rfl
theorem Yit:TE0.ct 86=some oneC:=rfl
theorem Yiq:TE0.ct 82=none:=rfl
theorem Yiu:TE0.fn 82=some v82:=rfl
theorem Yir:TE0.ct 83=none:=rfl
theorem Yiv:TE0.fn 83=some v83:=rfl
theorem Yth:TE0.ct 85=none:=rfl
theorem Yti:TE0.fn 85=some v85:=rfl
theorem YAF:Ys YEC TE0:=by
 refine⟨fun f c h=>?_,fun f vf h=>?_,(fun _ _ _ h=>by cases h),by kernel_rfl,(fun _ h=>by cases h)⟩
 . simp only[TE0]at h
   split at h
   . cases h;exact⟨Yqu,Tryz.f81,Tryz.func81,by kernel_rfl,by kernel_rfl⟩
   . cases h;exact⟨Ysu,Tryz.f84,Tryz.func84,by kernel_rfl,by kernel_rfl⟩
   . cases h;exact⟨Yyn,Tryz.f86,Tryz.func86,by kernel_rfl,by kernel_rfl⟩
   . cases h
 . simp only[TE0]at h
   split at h
   . cases h;exact⟨Tryz.f82,Tryz.func82,YEg,Tryz.f82,Tryz.func82,by kernel_rfl,by kernel_rfl⟩
   . cases h;exact⟨Tryz.f83,Tryz.func83,YEh,Tryz.f83,Tryz.func83,by kernel_rfl,by kernel_rfl⟩
   . cases h;exact⟨Tryz.f85,Tryz.func85,YwB,Tryz.f85,Tryz.func85,by kernel_rfl,by kernel_rfl⟩
   . cases h
theorem Yxu:flrC.ok YEC 54:=by
 refine Yc Tryz.func54 YD2 YAF 800 flrC fun args k h=>?_
 simp only[flrC]at h
 split at h
 . rename_i tt z n sz get den s
   obtain⟨l,⟨⟨rfl,rfl,hg⟩,hnb⟩,h⟩:=h
   refine⟨[.vs tt z l.length 2 (fun k=>enc2 (l.getD k default)),.int .i64 den,.int .i64 s],⟨⟨id,rfl,rfl,rfl,hg⟩,⟨rfl,rfl⟩,⟨rfl,rfl⟩,trivial⟩,?_⟩
   dsimp only[v54,Ytg,chkTC,enc2,go_sem,reduceIte,YEx]
   simp only[Yd,YEx,YEz,reduceCtorEq,YEy]
   refine⟨l,⟨⟨rfl,rfl,fun k _=>Yb _⟩,by omega⟩,fun hh=>by rw[flrF,if_pos hh]at h;exact Yd9 h,fun hchk=>?_⟩
   obtain⟨hl,hn⟩:=YiW hchk
   rw[flrF,if_neg (by rw[hchk];decide)]at h
   refine⟨fun hh=>?_,fun hb=>?_⟩
   . rw[if_pos (show YoB den s=true from hh)]at h
     exact Yd9 h
   have hb:YoB den s=false:=hb
   rw[if_neg (by rw[hb];decide)]at h
   simp only[YoB,YE9,decide_eq_false_iff_not]at hb
   have hb:(1<=den/\den<=1000000)/\1<=s/\s<=10000000:=by omega
   have hlw:IntKind.i64.wrap ((l.length:Int)+1)=(l.length:Int)+1:=YED _ (by omega)
   rw[hlw]
   refine⟨⟨by decide,by decide,by omega,by unfold YW;omega⟩,?_⟩
   obtain⟨A,hA⟩:∃A,A=l.map (sclT s):=⟨_,rfl⟩
   have hAl:A.length=l.length:=by rw[hA,List.length_map]
   have hAk:∀k,k<l.length->A.getD k default=sclT s (l.getD k default):=fun k hk=>by rw[hA,Yl1 hk]
   rw[<-hA]at h
   refine Loop.keep [2,0,0,1,0,0,1,27,0] Nat (fun i=>[(40,.int .i64 i)]) (fun i=>[(2,.own false 2 i (fun k=>enc2 (A.getD k default))),(3,.box [.own 2 0 i 2])]) [] (fun i=>i<=l.length) (fun i=>l.length-i) ?_ ?_
   . refine⟨0,Nat.zero_le _,?_⟩
     dsimp only[go_sem,reduceIte,YEx]
     simp only[Ya]
     refine⟨⟨by decide,by decide,by decide,rfl⟩,⟨rfl,fun k hk=>absurd hk (Nat.not_lt_zero _)⟩,rfl,by decide⟩
   . rintro i hi
     dsimp only[YEB,enc2,go_sem,reduceIte,YEx]
     simp only[Yd,YEx,YEz,reduceCtorEq,YEy]
     refine⟨fun hlt=>?_,fun hge=>?_⟩
     . have hil:i<l.length:=by omega
       have hx:=hl _ (YN hil)
       simp only[okT0,YE9,decide_eq_false_iff_not]at hx
       have hm:=Yam (x:=(l.getD i default).2) (y:=s) (X:=1000000000) (Y:=10000000) (by omega) (by omega)
       rw[YED ((l.getD i default).2*s) (by omega),YaQ (i:=i) (n:=l.length) hil (by omega)]
       refine⟨⟨by omega,by omega⟩,by decide,⟨by unfold YW;omega,fun k hk=>one2 hk⟩,i+1,by omega,by omega,?_⟩
       simp only[Ya]
       refine⟨?_,⟨rfl,fun q hq=>?_⟩,?_⟩
       . repeat' apply YEU
         all_goals first|exact trivial|decide|rfl|omega|exact(YFa (by omega)).symm|simp
       . by_cases hqi:q<i
         . rw[if_pos hqi];exact⟨⟨rfl,rfl⟩,⟨rfl,rfl⟩,trivial⟩
         . obtain rfl:q=i:=by omega
           rw[if_neg hqi,hAk _ hil,Nat.sub_self]
           exact⟨⟨rfl,rfl⟩,⟨rfl,rfl⟩,trivial⟩
       . repeat' apply YEU
         all_goals first|exact trivial|decide|rfl|omega|exact(YFa (by omega)).symm|simp
     . obtain rfl:i=l.length:=by omega
       clear hi hge
       dsimp only[Yir,Yiv,v83,Yiq,Yiu,v82,Yis,Yit,signC,go_sem,reduceIte,YEx]
       simp only[Yd,YEx,YEz,reduceCtorEq,YEy]
       rw[Yjy hb.1 (by decide),Yjy hb.1 (by decide)]
       simp only[YEB]
       have hok:∀m:Int,(-1000000000001<=m/\m<=1000000000001)->∀x,x∈atG A den m->okT x:=fun m hm=>by rw[hA];exact YBd hl hb.2 hb.1 hm
       refine⟨⟨by omega,by omega⟩,by decide,⟨by decide,by unfold YW;omega,fun k hk=>one2 hk⟩,atG A den 1000000000001,⟨Ync hAl,hok _ (by decide),by omega⟩,?_⟩
       refine⟨fun hs1=>?_,fun hs1=>?_⟩
       . refine⟨⟨by omega,by omega⟩,by decide,⟨by decide,by unfold YW;omega,fun k hk=>one2 hk⟩,atG A den (-1000000000000),⟨Ync hAl,hok _ (by decide),by omega⟩,fun hc=>?_,fun hc=>?_⟩
         . rw[flrG,if_pos (show(isG A den 1000000000001|| !isG A den (-1000000000000))=true from hc)]at h
           exact Yd9 h
         . rw[flrG,if_neg (by rw[show(isG A den 1000000000001|| !isG A den (-1000000000000))=false from hc];decide)]at h
           dsimp only[Yth,Yti,v85,go_sem,reduceIte,YEx]
           simp only[Yd,YEx,YEz,reduceCtorEq,YEy]
           obtain⟨t,ht⟩:∃t,t=isG A den:=⟨_,rfl⟩
           obtain⟨R,hR⟩:∃R,R=bisL 64 t (-1000000000000) 1000000000001:=⟨_,rfl⟩
           rw[<-ht,<-hR]at h
           refine Loop.keep [2] (Nat×Int×Int) (fun s=>[(0,.int .i64 s.2.1),(1,.int .i64 s.2.2)]) (fun _=>[]) [] (fun s=>R=bisL s.1 t s.2.1 s.2.2/\ -1000000000000<=s.2.1/\s.2.1<s.2.2/\s.2.2<=1000000000001/\s.2.2-s.2.1<=2^s.1) (fun s=>s.1) ?_ ?_
           . refine⟨(64, -1000000000000,1000000000001),⟨hR,by decide,by decide,by decide,by decide⟩,?_⟩
             dsimp only[go_sem,reduceIte,YEx]
             simp only[Ya]
             repeat' apply YEU
             all_goals first|decide|rfl| (intro k hk;exact Yy5 hk)
           . rintro⟨f,lo,hi⟩ ⟨hf,b0,b1,b2,b3⟩
             dsimp only at hf b0 b1 b2 b3
             dsimp only[Yir,Yiv,v83,Yiq,Yiu,v82,Yis,Yit,signC,oneC,go_sem,reduceIte,YEx]
             simp only[Yd,YEx,YEz,reduceCtorEq,YEy]
             simp only[YEB]
             have ed:IntKind.i64.wrap (hi-lo)=hi-lo:=YED _ (by omega)
             have e2:IntKind.i64.wrap ((hi-lo).tdiv 2)=(hi-lo)/2:=by
               rw[Int.tdiv_eq_ediv_of_nonneg (by omega),YED _ (by omega)]
             have e3:IntKind.i64.wrap (lo+(hi-lo)/2)=lo+(hi-lo)/2:=YED _ (by omega)
             rw[ed,e2,e3]
             refine⟨fun hc1=>?_,fun hc1=>?_⟩
             . obtain⟨m,hm⟩:∃m,m=lo+(hi-lo)/2:=⟨_,rfl⟩
               rw[<-hm,Yjy hb.1 (by omega)]
               obtain⟨g,rfl⟩:∃g,f=g+1:=by
                 cases f with
                 |zero=>simp at b3;omega
                 |succ g=>exact⟨g,rfl⟩
               rw[bisL,if_pos hc1,<-hm]at hf
               have b4:hi-lo<=2^g*2:=by rw[<-Int.pow_succ];exact b3
               refine⟨by decide,⟨by omega,by omega⟩,by decide,⟨by decide,by unfold YW;omega,fun k hk=>one2 hk⟩,atG A den m,⟨Ync hAl,hok _ (by omega),by omega⟩,fun hd1=>?_,fun hd1=>?_⟩
               . have hd1:t m=true:=by rw[ht];exact decide_eq_true hd1
                 rw[if_pos hd1]at hf
                 refine⟨(g,m,hi),⟨hf,by simp only;omega,by simp only;omega,b2,by simp only;omega⟩,by simp only;omega,?_⟩
                 simp only[Ya]
                 repeat' apply YEU
                 all_goals first|decide|rfl| (intro k hk;exact Yy5 hk)
               . have hd1:t m=false:=by rw[ht];exact decide_eq_false hd1
                 rw[if_neg (by rw[hd1];decide)]at hf
                 refine⟨(g,lo,m),⟨hf,by simp only;omega,by simp only;omega,by simp only;omega,by simp only;omega⟩,by simp only;omega,?_⟩
                 simp only[Ya]
                 repeat' apply YEU
                 all_goals first|decide|rfl| (intro k hk;exact Yy5 hk)
             . have hRlo:R=lo:=by
                 cases f with
                 |zero=>exact hf
                 |succ g=>rw[hf,bisL,if_neg hc1]
               subst hRlo
               rw[Yjy hb.1 (by omega)]
               exact⟨⟨by omega,by omega⟩,by decide,⟨by decide,by unfold YW;omega,fun k hk=>one2 hk⟩,atG A den R,⟨Ync hAl,hok _ (by omega),by omega⟩,Yd9 h⟩
       . refine⟨hs1,.bool false,?_⟩
         dsimp only[Yir,Yiv,v83,Yiq,Yiu,v82,Yis,Yit,signC,go_sem,reduceIte,YEx]
         simp only[Yd,YEx,YEz,reduceCtorEq,YEy]
         have hw:isG A den 1000000000001=true:=decide_eq_true hs1
         rw[flrG,if_pos (by rw[hw];rfl)]at h
         refine⟨fun _=>Yd9 h,fun hc=>?_⟩
         rw[decide_eq_true hs1]at hc
         cases hc
 . exact h.1.elim
def v146:VF:=⟨51,[.cell 2 true 7,.tmp 3,.tmp 4],(ZR [u1 1 .box [.tm 0],u1 2 (.alloc [(.int .i64 0),(.int .i64 0),(.int .i64 0),(.int .i64 0),(.int .i64 0),(.int .i64 0),(.int .i64 0)]) [],Zi 3 0,Zi 4 0] (ZR [Zt 11 7 1,Zc 12 80 11,Zm 10 12,Ze 13 0 10,Ze 14 1 10,Ze 15 2 10,Zm 5 13,Zm 6 14,Zm 4 15] (.seq (ZR [Zm 16 4,Zq 17 .neq 16 0] (ZC 17 (ZR [u1 18 (.build [(.int .i64 0),(.int .i64 0),(.int .i64 0),(.int .i64 0),(.int .i64 0),(.int .i64 0),(.int .i64 0)] []) [],Zm 19 4,Zs 7 2 18,Zi 3 0,Zm 4 19] .ret) .skip)) (ZR [Zm 21 5,Zm 22 6,u1 23 (.call 54) [.tm 21,.tm 22,.cn (.int .i64 1)],Zm 20 23,Ze 24 0 20,Ze 25 1 20,Ze 26 2 20,Zm 7 24,Zm 8 25,Zm 9 26] (ZR [Za 27 0 1,u1 28 (.idxArr 6 1) [.tm 27,.cn (.int .i64 0)],Zf 29 1 28,Zm 30 7,Za 31 6 1,Zf 32 1 31,Zo 33 .mul 30 32,Zo 34 .sub 29 33,Za 35 0 1,u1 36 (.idxArr 6 1) [.tm 35,.cn (.int .i64 0)],Zs 1 36 34] (.seq (ZR [Za 38 0 1,Zt 39 6 38,Za 40 6 1,Zf 41 1 40,Zd 42 113 39 41,Zm 37 42,Ze 43 0 37,Ze 44 1 37,Zs 7 2 43,Zm 4 44] (ZR [Zm 45 4,Zq 46 .neq 45 0] (ZC 46 (ZR [u1 47 (.build [(.int .i64 0),(.int .i64 0),(.int .i64 0),(.int .i64 0),(.int .i64 0),(.int .i64 0),(.int .i64 0)] []) [],Zm 48 4,Zs 7 2 47,Zi 3 0,Zm 4 48] .ret) .skip))) (ZR [Zt 49 7 2,Zm 50 7,Zs 7 2 49,Zm 3 50,Zi 4 0] .ret)))))))⟩
theorem YzS:Yi YEC Tryz.f146=some v146:=by kernel_rfl
def v126:VF:=⟨14,[.cell 4 true 7],(ZR [u1 4 (.alloc [(.int .i64 0),(.int .i64 0),(.int .i64 0),(.int .i64 0),(.int .i64 0),(.int .i64 0),(.int .i64 0)]) []] (ZR [Zm 8 0,Zm 9 1,Zd 10 143 8 9,Zm 7 10,Ze 11 0 7,Ze 12 1 7,u1 5 (.alloc [(.int .i64 0),(.int .i64 0),(.int .i64 0),(.int .i64 0),(.int .i64 0),(.int .i64 0),(.int .i64 0)]) [],Zs 7 5 11,Zm 6 12] (ZR [Zt 13 7 5,Zs 7 4 13] .ret)))⟩
theorem YzC:Yi YEC Tryz.f126=some v126:=by kernel_rfl
def v129:VF:=⟨14,[.cell 4 true 7],(ZR [u1 2 .box [.tm 0],u1 3 .box [.tm 1],u1 4 (.alloc [(.int .i64 0),(.int .i64 0),(.int .i64 0),(.int .i64 0),(.int .i64 0),(.int .i64 0),(.int .i64 0)]) []] (ZR [Zt 8 7 2,Zt 9 7 3,Zd 10 147 8 9,Zm 7 10,Ze 11 0 7,Ze 12 1 7,u1 5 (.alloc [(.int .i64 0),(.int .i64 0),(.int .i64 0),(.int .i64 0),(.int .i64 0),(.int .i64 0),(.int .i64 0)]) [],Zs 7 5 11,Zm 6 12] (ZR [Zt 13 7 5,Zs 7 4 13] .ret)))⟩
theorem YzF:Yi YEC Tryz.f129=some v129:=by kernel_rfl
def v145:VF:=⟨14,[.cell 4 true 7],(ZR [u1 2 .box [.tm 0],u1 3 .box [.tm 1],u1 4 (.alloc [(.int .i64 0),(.int .i64 0),(.int .i64 0),(.int .i64 0),(.int .i64 0),(.int .i64 0),(.int .i64 0)]) []] (ZR [Zt 8 7 2,Zt 9 7 3,Zd 10 79 8 9,Zm 7 10,Ze 11 0 7,Ze 12 1 7,u1 5 (.alloc [(.int .i64 0),(.int .i64 0),(.int .i64 0),(.int .i64 0),(.int .i64 0),(.int .i64 0),(.int .i64 0)]) [],Zs 7 5 11,Zm 6 12] (ZR [Zt 13 7 5,Zs 7 4 13] .ret)))⟩
theorem YzR:Yi YEC Tryz.f145=some v145:=by kernel_rfl
def v128:VF:=⟨13,[.cell 2 true 7],(ZR [u1 1 .box [.tm 0],u1 2 (.alloc [(.int .i64 0),(.int .i64 0),(.int .i64 0),(.int .i64 0),(.int .i64 0),(.int .i64 0),(.int .i64 0)]) []] (ZR [Zt 7 7 1,Zc 8 146 7,Zm 6 8,Ze 9 0 6,Ze 10 1 6,Ze 11 2 6,u1 3 (.alloc [(.int .i64 0),(.int .i64 0),(.int .i64 0),(.int .i64 0),(.int .i64 0),(.int .i64 0),(.int .i64 0)]) [],Zs 7 3 9,Zm 4 10,Zm 5 11] (ZR [Zt 12 7 3,Zs 7 2 12] .ret)))⟩
theorem YzE:Yi YEC Tryz.f128=some v128:=by kernel_rfl
theorem YiR{t:Int->Bool}:∀(f:Nat)(a b:Int),a<b->a<=bisL f t a b/\bisL f t a b<b
 |0,a,b,h=>⟨Int.le_refl _,h⟩
 |f+1,a,b,h=>by
   rw[bisL]
   split
   . split
     . have:=YiR (t:=t) f (a+(b-a)/2) b (by omega);omega
     . have:=YiR (t:=t) f a (a+(b-a)/2) (by omega);omega
   . omega
theorem Yug(l:List (Int×Int))(den s:Int): -1000000000000<=(flrF l den s).1/\(flrF l den s).1<=1000000000000:=by
 unfold flrF
 split
 . simp only;omega
 . split
   . simp only;omega
   . unfold flrG
     split
     . simp only;omega
     . have:=YiR (t:=isG (l.map (sclT s)) den) 64 (-1000000000000) 1000000000001 (by decide)
       simp only
       omega
def offR(r:Rt)(k:Int):Rt:=⟨r.a-k*r.n,r.b,r.c,r.d,r.e,r.f,r.n⟩
def Yc6(r:Rt):Rt×Int×Int:=
 if chkR r≠0 then(YaN,0,chkR r)
 else if(YcW (offR r (flrF (Yg r) r.n 1).1)).2≠0 then(YaN,0,(YcW (offR r (flrF (Yg r) r.n 1).1)).2)
 else((YcW (offR r (flrF (Yg r) r.n 1).1)).1,(flrF (Yg r) r.n 1).1,0)
def foldC:Ctr:={ alias:=false,of:=fun l=>match l with
 | [.agg [.int .i64 a,.int .i64 b,.int .i64 c,.int .i64 d,.int .i64 e,.int .i64 f,.int .i64 n]]=> .fin (.tup [.agg (encR (Yc6 ⟨a,b,c,d,e,f,n⟩).1),.int .i64 (Yc6 ⟨a,b,c,d,e,f,n⟩).2.1,.int .i64 (Yc6 ⟨a,b,c,d,e,f,n⟩).2.2]) []
 |_=>noC}
theorem YlJ{k:SV->List HO->Prop}{al:Bool}{hp:List HO}{r:Rt}{o e:Int}(h:k (.tup [.agg (encR r),.int .i64 o,.int .i64 e]) []):YO al k (.tup [.agg (encR r),.int .i64 o,.int .i64 e]) hp:=
 YI (show k _ []from h) (YV (.tup [.agg (encR r),.int .i64 o,.int .i64 e]) ⟨⟨trivial,trivial,trivial,trivial,trivial,trivial,trivial,trivial⟩,trivial,trivial,trivial⟩) (fun _=>by simp [Ym,Yo,encR])
def TF0:Env:={ ct:=fun n=>match n with|80=>some trmC|54=>some flrC|113=>some madeC|_=>none,fn:=fun _=>none,meth:=fun _ _=>none}
theorem Yix:TF0.ct 80=some trmC:=rfl
theorem Yiw:TF0.ct 54=some flrC:=rfl
theorem Ygq:TF0.ct 113=some madeC:=rfl
theorem YAG:Ys YEC TF0:=by
 refine⟨fun f c h=>?_,fun f vf h=>?_,(fun _ _ _ h=>by cases h),by kernel_rfl,(fun _ h=>by cases h)⟩
 . simp only[TF0]at h
   split at h
   . cases h;exact⟨YDI,Tryz.f80,Tryz.func80,by kernel_rfl,by kernel_rfl⟩
   . cases h;exact⟨Yxu,Tryz.f54,Tryz.func54,by kernel_rfl,by kernel_rfl⟩
   . cases h;exact⟨YrF,Tryz.f113,Tryz.func113,by kernel_rfl,by kernel_rfl⟩
   . cases h
 . cases h
theorem YBG:foldC.ok YEC 146:=by
 refine Yc Tryz.func146 YzS YAG 300 foldC fun args k h=>?_
 simp only[foldC]at h
 split at h
 . rename_i a b c d e f n
   refine⟨[.agg [.int .i64 a,.int .i64 b,.int .i64 c,.int .i64 d,.int .i64 e,.int .i64 f,.int .i64 n]],by simp [leL,le],?_⟩
   obtain⟨r,hr⟩:∃r:Rt,r=⟨a,b,c,d,e,f,n⟩:=⟨_,rfl⟩
   rw[<-hr]at h
   rw[show a=r.a by rw[hr],show b=r.b by rw[hr],show c=r.c by rw[hr],show d=r.d by rw[hr],show e=r.e by rw[hr],show f=r.f by rw[hr],show n=r.n by rw[hr]]
   clear hr
   have h:k (.tup [.agg (encR (Yc6 r).1),.int .i64 (Yc6 r).2.1,.int .i64 (Yc6 r).2.2]) []:=h
   dsimp only[v146,Yix,Yiw,Ygq,trmC,flrC,madeC,encR,go_sem,reduceIte,YEx]
   simp only[Yd,YEx,YEz,reduceCtorEq,YEy]
   rw[show Rt.mk r.a r.b r.c r.d r.e r.f r.n=r from rfl]
   by_cases hc:chkR r=0
   . rw[if_neg (by rw[hc];decide)]
     rw[Yc6,if_neg (by rw[hc];decide)]at h
     dsimp only[Yix,Yiw,Ygq,trmC,flrC,madeC,encR,go_sem,reduceIte,YEx]
     simp only[Yd,YEx,YEz,reduceCtorEq,YEy]
     have hk:=Yug (Yg r) r.n 1
     have hn:=Yfy hc
     have ha:=Ydv hc (i:=0) (by decide)
     simp only[Rt.num]at ha
     have hm:=Yam (x:=(flrF (Yg r) r.n 1).1) (y:=r.n) (X:=1000000000000) (Y:=1000) hk (by omega)
     refine fun y=>⟨by decide,by decide,by decide,fun hh=>absurd trivial hh,Yg r,⟨⟨rfl,rfl,fun q _=>Yb _⟩,by have:=YbB r;omega⟩,?_⟩
     rw[YED ((flrF (Yg r) r.n 1).1*r.n) (by omega),YED (r.a-(flrF (Yg r) r.n 1).1*r.n) (by omega)]
     refine⟨by decide,by decide,by decide,by decide,by decide,⟨by omega,by omega,fun i hi=>?_⟩,by decide,by decide,fun he=>?_,fun he=>?_⟩
     . have:=Ydv hc hi
       rcases six hi with rfl|rfl|rfl|rfl|rfl|rfl <;> (simp only[Rt.num]at this⊢;omega)
     . rw[if_pos (show(YcW (offR r (flrF (Yg r) r.n 1).1)).2≠0 from he)]at h
       exact YlJ (r:=YaN) h
     . rw[if_neg (show¬(YcW (offR r (flrF (Yg r) r.n 1).1)).2≠0 from fun hh=>hh he)]at h
       exact(YlJ (r:=(YcW (offR r (flrF (Yg r) r.n 1).1)).1) h)
   . rw[if_pos hc]
     rw[Yc6,if_pos hc]at h
     dsimp only[Yix,Yiw,Ygq,trmC,flrC,madeC,encR,go_sem,reduceIte,YEx]
     simp only[Yd,YEx,YEz,reduceCtorEq,YEy]
     exact⟨by decide,by decide,by decide,fun _=>YlJ (r:=YaN) h,fun hh=>absurd hh hc⟩
 . exact h.1.elim
def Yfl:Ctr:=Ydf 1
def YaT:Ctr:=Ydf (-1)
def wholeC:Ctr:={ alias:=false,of:=fun l=>match l with
 | [.int .i64 a,.int .i64 b]=> .fin (.agg (encR (ofRF a b).1)) []
 |_=>noC}
def m2C(s:Int):Ctr:={ alias:=false,of:=fun l=>match l with
 | [.agg [.int .i64 a,.int .i64 b,.int .i64 c,.int .i64 d,.int .i64 e,.int .i64 f,.int .i64 n],.agg [.int .i64 a',.int .i64 b',.int .i64 c',.int .i64 d',.int .i64 e',.int .i64 f',.int .i64 n']]=>
   .fin (.agg (encR (Ya6 ⟨a,b,c,d,e,f,n⟩ ⟨a',b',c',d',e',f',n'⟩ s).1)) []
 |_=>noC}
def folC:Ctr:={ alias:=false,of:=fun l=>match l with
 | [.agg [.int .i64 a,.int .i64 b,.int .i64 c,.int .i64 d,.int .i64 e,.int .i64 f,.int .i64 n]]=> .fin (.agg (encR (Yc6 ⟨a,b,c,d,e,f,n⟩).1)) []
 |_=>noC}
def TF1:Env:={ ct:=fun n=>match n with|143=>some ofRC|147=>some Yfl|79=>some YaT|146=>some foldC|_=>none,fn:=fun _=>none,meth:=fun _ _=>none}
theorem Yev:TF1.ct 143=some ofRC:=rfl
theorem Yex:TF1.ct 147=some Yfl:=rfl
theorem YfZ:TF1.ct 79=some YaT:=rfl
theorem Yew:TF1.ct 146=some foldC:=rfl
theorem YmB:Ys YEC TF1:=by
 refine⟨fun f c h=>?_,fun f vf h=>?_,(fun _ _ _ h=>by cases h),by kernel_rfl,(fun _ h=>by cases h)⟩
 . simp only[TF1]at h
   split at h
   . cases h;exact⟨of_c,Tryz.f143,Tryz.func143,by kernel_rfl,by kernel_rfl⟩
   . cases h;exact⟨YCi,Tryz.f147,Tryz.func147,by kernel_rfl,by kernel_rfl⟩
   . cases h;exact⟨YvM,Tryz.f79,Tryz.func79,by kernel_rfl,by kernel_rfl⟩
   . cases h;exact⟨YBG,Tryz.f146,Tryz.func146,by kernel_rfl,by kernel_rfl⟩
   . cases h
 . cases h
theorem YsU:wholeC.ok YEC 126:=by
 refine Yc Tryz.func126 YzC YmB 300 wholeC fun args k h=>?_
 simp only[wholeC]at h
 split at h
 . rename_i a b
   refine⟨[.int .i64 a,.int .i64 b],by simp [leL,le],?_⟩
   dsimp only[v126,Yev,Yex,YfZ,Yew,ofRC,Yfl,YaT,Ydf,foldC,encR,go_sem,reduceIte,YEx]
   simp only[Yd,YEx,YEz,reduceCtorEq,YEy]
   exact⟨by decide,by decide,YtQ (r:=(ofRF a b).1) h⟩
 . exact h.1.elim
theorem YBF:folC.ok YEC 128:=by
 refine Yc Tryz.func128 YzE YmB 300 folC fun args k h=>?_
 simp only[folC]at h
 split at h
 . rename_i a b c d e f n
   refine⟨[.agg [.int .i64 a,.int .i64 b,.int .i64 c,.int .i64 d,.int .i64 e,.int .i64 f,.int .i64 n]],by simp [leL,le],?_⟩
   dsimp only[v128,Yev,Yex,YfZ,Yew,ofRC,Yfl,YaT,Ydf,foldC,encR,go_sem,reduceIte,YEx]
   simp only[Yd,YEx,YEz,reduceCtorEq,YEy]
   exact⟨by decide,by decide,by decide,YtQ (r:=(Yc6 ⟨a,b,c,d,e,f,n⟩).1) h⟩
 . exact h.1.elim
theorem YDH:(m2C 1).ok YEC 129:=by
 refine Yc Tryz.func129 YzF YmB 300 (m2C 1) fun args k h=>?_
 simp only[m2C]at h
 split at h
 . rename_i a b c d e f n a' b' c' d' e' f' n'
   refine⟨[.agg [.int .i64 a,.int .i64 b,.int .i64 c,.int .i64 d,.int .i64 e,.int .i64 f,.int .i64 n],.agg [.int .i64 a',.int .i64 b',.int .i64 c',.int .i64 d',.int .i64 e',.int .i64 f',.int .i64 n']],by simp [leL,le],?_⟩
   dsimp only[v129,Yev,Yex,YfZ,Yew,ofRC,Yfl,YaT,Ydf,foldC,encR,go_sem,reduceIte,YEx]
   simp only[Yd,YEx,YEz,reduceCtorEq,YEy]
   exact⟨by decide,by decide,YtQ (r:=(Ya6 ⟨a,b,c,d,e,f,n⟩ ⟨a',b',c',d',e',f',n'⟩ 1).1) h⟩
 . exact h.1.elim
theorem ovr_c:(m2C (-1)).ok YEC 145:=by
 refine Yc Tryz.func145 YzR YmB 300 (m2C (-1)) fun args k h=>?_
 simp only[m2C]at h
 split at h
 . rename_i a b c d e f n a' b' c' d' e' f' n'
   refine⟨[.agg [.int .i64 a,.int .i64 b,.int .i64 c,.int .i64 d,.int .i64 e,.int .i64 f,.int .i64 n],.agg [.int .i64 a',.int .i64 b',.int .i64 c',.int .i64 d',.int .i64 e',.int .i64 f',.int .i64 n']],by simp [leL,le],?_⟩
   dsimp only[v145,Yev,Yex,YfZ,Yew,ofRC,Yfl,YaT,Ydf,foldC,encR,go_sem,reduceIte,YEx]
   simp only[Yd,YEx,YEz,reduceCtorEq,YEy]
   exact⟨by decide,by decide,YtQ (r:=(Ya6 ⟨a,b,c,d,e,f,n⟩ ⟨a',b',c',d',e',f',n'⟩ (-1)).1) h⟩
 . exact h.1.elim
def letF(c:Int):Bool:=(decide (97<=c)&&decide (c<=122)) || (decide (65<=c)&&decide (c<=90))
def digF(c:Int):Bool:=decide (48<=c)&&decide (c<=57)
def okB(b:ByteArray)(i:Nat):Bool:=letF (YT b i) || (decide (i≠0)&&(decide (YT b i=95) || digF (YT b i)))
def Ydg(b:ByteArray):Bool:=decide (1<=b.size)&&decide (b.size<=16)&&(List.range b.size).all (okB b)
theorem YrW(b:ByteArray)(i:Nat):(!letF (YT b i)&&(decide ((i:Int)=0) || !decide (YT b i=95)&& !digF (YT b i)))= !okB b i:=by
 unfold okB
 have e:decide ((i:Int)=0)=decide (i=0):=decide_eq_decide.2 (by omega)
 rw[e,decide_not]
 cases letF (YT b i) <;> cases decide (i=0) <;> cases decide (YT b i=95) <;> cases digF (YT b i) <;> rfl
theorem YrV{b:ByteArray}(h:∀j,j<b.size->okB b j=true):(List.range b.size).all (okB b)=true:=by
 rw[List.all_eq_true];intro j hj;exact h j (List.mem_range.1 hj)
theorem Ywf{b:ByteArray}{i:Nat}(hi:i<b.size)(h:okB b i=false):(List.range b.size).all (okB b)=false:=by
 rw[List.all_eq_false];exact⟨i,List.mem_range.2 hi,by simp [h]⟩
theorem YrL{b:ByteArray}{i:Nat}(hi:i<b.size)(h:okB b i=false):Ydg b=false:=by
 unfold Ydg;rw[Ywf hi h,Bool.and_false]
theorem YuR{b:ByteArray}(h:∀j,j<b.size->okB b j=true):Ydg b=(decide (1<=(b.size:Int))&&decide ((b.size:Int)<=16)):=by
 unfold Ydg
 rw[YrV h,Bool.and_true,show decide (1<=(b.size:Int))=decide (1<=b.size)from decide_eq_decide.2 (by omega),show decide ((b.size:Int)<=16)=decide (b.size<=16)from decide_eq_decide.2 (by omega)]
def okR(b:ByteArray)(i:Nat):Bool:=letF (YT b i) || (digF (YT b i) || decide (YT b i=95))
theorem Yvb{b:ByteArray}(h:(decide ((b.size:Int)<1) || decide (16<(b.size:Int)) || !letF (YT b 0))=true):Ydg b=false:=by
 unfold Ydg
 by_cases h1:1<=b.size
 . by_cases h2:b.size<=16
   . have h3:letF (YT b 0)=false:=by
       rw[show decide ((b.size:Int)<1)=false from decide_eq_false (by omega),show decide (16<(b.size:Int))=false from decide_eq_false (by omega)]at h
       simpa using h
     rw[Ywf (i:=0) (by omega) (by simp [okB,h3]),Bool.and_false]
   . rw[decide_eq_false h2,Bool.and_false,Bool.false_and]
 . rw[decide_eq_false h1];rfl
theorem Ysi{b:ByteArray}{i:Nat}(hi:i<b.size)(h:okR b i=false):Ydg b=false:=by
 refine YrL hi ?_
 unfold okR at h
 unfold okB
 simp only[YE9]at h
 rw[h.1,h.2.1,h.2.2]
 simp
theorem Ysj{b:ByteArray}(h:(decide ((b.size:Int)<1) || decide (16<(b.size:Int)) || !letF (YT b 0))=false)(ha:∀j,j<b.size->okR b j=true):Ydg b=true:=by
 simp only[YE9,decide_eq_false_iff_not,Bool.not_eq_false']at h
 obtain⟨⟨h1,h2⟩,h3⟩:=h
 unfold Ydg
 rw[decide_eq_true (by omega),decide_eq_true (by omega),YrV fun j hj=>?_];rfl
 have:=ha j hj
 unfold okR at this
 unfold okB
 by_cases hj0:j=0
 . subst hj0;rw[h3];rfl
 . rw[decide_eq_true hj0,Bool.true_and]
   revert this
   cases letF (YT b j) <;> cases digF (YT b j) <;> cases decide (YT b j=95) <;> simp
theorem YrX(b:ByteArray)(i:Nat):(!letF (YT b i)&& !digF (YT b i)&& !decide (YT b i=95))= !okR b i:=by
 unfold okR
 cases letF (YT b i) <;> cases decide (YT b i=95) <;> cases digF (YT b i) <;> rfl
theorem Yfb(b:ByteArray)(i:Nat):0<=YT b i/\YT b i<=255:=by
 unfold YT
 have h:=UInt8.toNat_lt (b.data.toList.getD i 0)
 omega
set_option maxRecDepth 100000 in
theorem YCc{c:Int}(h0:0<=c)(h1:c<=255):(decide (97<=bitI .or .u8 c 32)&&decide (bitI .or .u8 c 32<=122))=letF c:=by
 have key:∀n:Fin 256,(decide (97<=bitI .or .u8 ((n.val:Nat):Int) 32)&&decide (bitI .or .u8 ((n.val:Nat):Int) 32<=122))=letF ((n.val:Nat):Int):=by decide
 have:=key ⟨c.toNat,by omega⟩
 have e:((c.toNat:Nat):Int)=c:=by omega
 simp only[e]at this
 exact this
def v141:VF:=⟨11,[.tmp 2],(ZR [u1 2 .mov [.cn (.bool false)]] (ZR [Zm 3 0,u1 4 (.bit .or) [.tm 3,.cn (.int .u8 32)],u1 5 (.cmp .geq) [.tm 4,.cn (.int .u8 97)],Zm 6 5,Zg 7 6 true 0,u2 8 6 true (.bit .or) [.tm 7,.cn (.int .u8 32)],u2 9 6 true (.cmp .leq) [.tm 8,.cn (.int .u8 122)],u1 10 .and [.tm 6,.tm 9],Zm 2 10] .ret))⟩
theorem YzN:Yi YEC Tryz.f141=some v141:=by kernel_rfl
def v142:VF:=⟨9,[.tmp 2],(ZR [u1 2 .mov [.cn (.bool false)]] (ZR [Zm 3 0,u1 4 (.cmp .geq) [.tm 3,.cn (.int .u8 48)],Zm 5 4,Zg 6 5 true 0,u2 7 5 true (.cmp .leq) [.tm 6,.cn (.int .u8 57)],u1 8 .and [.tm 5,.tm 7],Zm 2 8] .ret))⟩
theorem YzO:Yi YEC Tryz.f142=some v142:=by kernel_rfl
def v98:VF:=⟨17,[.tmp 2],(ZR [u1 2 .mov [.cn (.bool false)]] (ZR [Zm 3 0,u1 4 (.cmp .geq) [.tm 3,.cn (.int .u8 97)],Zm 5 4,Zg 6 5 true 0,u2 7 5 true (.cmp .leq) [.tm 6,.cn (.int .u8 122)],u1 8 .and [.tm 5,.tm 7],Zm 9 8,Zg 10 9 false 0,u2 11 9 false (.cmp .geq) [.tm 10,.cn (.int .u8 65)],Zg 12 9 false 11,Zg 13 12 true 0,u2 14 12 true (.cmp .leq) [.tm 13,.cn (.int .u8 90)],u2 15 9 false .and [.tm 12,.tm 14],u1 16 .or [.tm 9,.tm 15],Zm 2 16] .ret))⟩
theorem YEo:Yi YEC Tryz.f98=some v98:=by kernel_rfl
def v99:VF:=⟨9,[.tmp 2],(ZR [u1 2 .mov [.cn (.bool false)]] (ZR [Zm 3 0,u1 4 (.cmp .geq) [.tm 3,.cn (.int .u8 48)],Zm 5 4,Zg 6 5 true 0,u2 7 5 true (.cmp .leq) [.tm 6,.cn (.int .u8 57)],u1 8 .and [.tm 5,.tm 7],Zm 2 8] .ret))⟩
theorem YEp:Yi YEC Tryz.f99=some v99:=by kernel_rfl
def v125:VF:=⟨38,[.tmp 2],(ZR [u1 2 .mov [.cn (.bool false)]] (.seq (ZR [Zm 5 0,u1 6 .lenStr [.tm 5],Zi 7 0] (.block 0 (.loop (ZR [Zr 8 .lss 7 6] (.seq (ZC 8 .skip (.exit 0)) (.seq (.block 1 (ZR [Zm 9 7,Zm 3 9] (ZR [Zm 10 0,Zm 11 3,u1 12 .idxStr [.tm 10,.tm 11],Zm 4 12] (ZR [Zm 13 4,Zc 14 141 13,u1 15 .not [.tm 14],Zm 16 15,Zg 17 16 true 3,u2 18 16 true (.cmp .eql) [.tm 17,.cn (.int .i64 0)],Zg 19 16 true 18,Zg 20 19 false 4,u2 21 19 false (.cmp .neq) [.tm 20,.cn (.int .u8 95)],Zg 22 19 false 21,Zg 23 22 true 4,u2 24 22 true (.call 142) [.tm 23],u2 25 22 true .not [.tm 24],u2 26 19 false .and [.tm 22,.tm 25],u2 27 16 true .or [.tm 19,.tm 26],u1 28 .and [.tm 16,.tm 27]] (ZC 28 (ZR [u1 2 .mov [.cn (.bool false)]] .ret) .skip))))) (.region [Zp 29 7 1,Zm 7 29]))))))) (ZR [Zm 30 0,u1 31 .lenStr [.tm 30],Zq 32 .geq 31 1,Zm 33 32,Zg 34 33 true 0,u2 35 33 true .lenStr [.tm 34],u2 36 33 true (.cmp .leq) [.tm 35,.cn (.int .i64 16)],u1 37 .and [.tm 33,.tm 36],Zm 2 37] .ret)))⟩
theorem YzB:Yi YEC Tryz.f125=some v125:=by kernel_rfl
def v76:VF:=⟨42,[.tmp 2],(ZR [u1 2 .mov [.cn (.bool false)]] (.seq (ZR [Zm 4 0,u1 5 .lenStr [.tm 4],Zq 6 .lss 5 1,Zm 7 6,Zg 8 7 false 0,u2 9 7 false .lenStr [.tm 8],u2 10 7 false (.cmp .gtr) [.tm 9,.cn (.int .i64 16)],u1 11 .or [.tm 7,.tm 10],Zm 12 11,Zg 13 12 false 0,u2 14 12 false .idxStr [.tm 13,.cn (.int .i64 0)],u2 15 12 false (.call 98) [.tm 14],u2 16 12 false .not [.tm 15],u1 17 .or [.tm 12,.tm 16]] (ZC 17 (ZR [u1 2 .mov [.cn (.bool false)]] .ret) .skip)) (.seq (ZR [Zi 3 0] (.block 0 (.loop (.seq (ZR [Zm 18 3,Zm 19 0,u1 20 .lenStr [.tm 19],Zr 21 .lss 18 20] (ZC 21 .skip (.exit 0))) (.seq (.block 1 (ZR [Zm 24 0,Zm 25 3,u1 26 .idxStr [.tm 24,.tm 25],Zc 27 98 26,u1 28 .not [.tm 27],Zm 29 28,Zg 30 29 true 0,Zg 31 29 true 3,u2 32 29 true .idxStr [.tm 30,.tm 31],u2 33 29 true (.call 99) [.tm 32],u2 34 29 true .not [.tm 33],u1 35 .and [.tm 29,.tm 34],Zm 36 35,Zg 37 36 true 0,Zg 38 36 true 3,u2 39 36 true .idxStr [.tm 37,.tm 38],u2 40 36 true (.cmp .neq) [.tm 39,.cn (.int .u8 95)],u1 41 .and [.tm 36,.tm 40]] (ZC 41 (ZR [u1 2 .mov [.cn (.bool false)]] .ret) .skip))) (.region [Zm 22 3,Zp 23 22 1,Zm 3 23])))))) (ZR [u1 2 .mov [.cn (.bool true)]] .ret))))⟩
theorem YEa:Yi YEC Tryz.f76=some v76:=by kernel_rfl
def letC:Ctr:={ alias:=false,of:=fun l=>match l with
 | [.int .u8 c]=> .pre (0<=c/\c<=255) (.fin (.bool (letF c)) [])
 |_=>noC}
def digC:Ctr:={ alias:=false,of:=fun l=>match l with
 | [.int .u8 c]=> .fin (.bool (digF c)) []
 |_=>noC}
def NM0:Env:={ ct:=fun _=>none,fn:=fun _=>none,meth:=fun _ _=>none}
theorem Ymq:Ys YEC NM0:=by
 refine⟨fun f c h=>?_,fun f vf h=>?_,(fun _ _ _ h=>by cases h),by kernel_rfl,(fun _ h=>by cases h)⟩
 . cases h
 . cases h
theorem YCb:letC.ok YEC 141:=by
 refine Yc Tryz.func141 YzN Ymq 100 letC fun args k h=>⟨args,?_⟩
 simp only[letC]at h
 split at h
 . refine⟨by simp [leL,le],?_⟩
   dsimp only[v141,go_sem,reduceIte,YEx]
   simp only[Yd,YEx,YEz,reduceCtorEq,YEy]
   obtain⟨⟨h0,h1⟩,h⟩:=h
   have h:k _ []:=h
   rw[<-YCc h0 h1]at h
   exact YC h
 . exact h.1.elim
theorem YBu:digC.ok YEC 142:=by
 refine Yc Tryz.func142 YzO Ymq 100 digC fun args k h=>⟨args,?_⟩
 simp only[digC]at h
 split at h
 . refine⟨by simp [leL,le],?_⟩
   dsimp only[v142,go_sem,reduceIte,YEx]
   simp only[Yd,YEx,YEz,reduceCtorEq,YEy]
   have h:k _ []:=h
   unfold digF at h
   exact YC h
 . exact h.1.elim
theorem YyZ:letC.ok YEC 98:=by
 refine Yc Tryz.func98 YEo Ymq 100 letC fun args k h=>⟨args,?_⟩
 simp only[letC]at h
 split at h
 . refine⟨by simp [leL,le],?_⟩
   dsimp only[v98,go_sem,reduceIte,YEx]
   simp only[Yd,YEx,YEz,reduceCtorEq,YEy]
   obtain⟨⟨h0,h1⟩,h⟩:=h
   have h:k _ []:=h
   unfold letF at h
   exact⟨fun a b=>by rw[a,decide_eq_true b];rfl,YC h⟩
 . exact h.1.elim
theorem YyV:digC.ok YEC 99:=by
 refine Yc Tryz.func99 YEp Ymq 100 digC fun args k h=>⟨args,?_⟩
 simp only[digC]at h
 split at h
 . refine⟨by simp [leL,le],?_⟩
   dsimp only[v99,go_sem,reduceIte,YEx]
   simp only[Yd,YEx,YEz,reduceCtorEq,YEy]
   have h:k _ []:=h
   unfold digF at h
   exact YC h
 . exact h.1.elim
def nameC:Ctr:={ alias:=false,of:=fun l=>match l with
 | [.val (.string b)]=> .pre (b.size<=9223372036854775807) (.fin (.bool (Ydg b)) [])
 |_=>noC}
def NM1:Env:={ ct:=fun n=>match n with|141=>some letC|142=>some digC|_=>none,fn:=fun _=>none,meth:=fun _ _=>none}
theorem Ypc:NM1.ct 141=some letC:=rfl
theorem Ypd:NM1.ct 142=some digC:=rfl
theorem YAh:Ys YEC NM1:=by
 refine⟨fun f c h=>?_,fun f vf h=>?_,(fun _ _ _ h=>by cases h),by kernel_rfl,(fun _ h=>by cases h)⟩
 . simp only[NM1]at h
   split at h
   . cases h;exact⟨YCb,Tryz.f141,Tryz.func141,by kernel_rfl,by kernel_rfl⟩
   . cases h;exact⟨YBu,Tryz.f142,Tryz.func142,by kernel_rfl,by kernel_rfl⟩
   . cases h
 . cases h
theorem Yye:nameC.ok YEC 125:=by
 refine Yc Tryz.func125 YzB YAh 200 nameC fun args k h=>⟨args,?_⟩
 simp only[nameC]at h
 split at h
 . rename_i b
   refine⟨by simp [leL,le,bnd],?_⟩
   obtain⟨hb,h⟩:=h
   have h:k _ []:=h
   dsimp only[v125,go_sem,reduceIte,YEx]
   simp only[Yd,YEx,YEz,reduceCtorEq,YEy]
   refine Loop.keep [0,4,0,0] Nat (fun i=>[(7,.int .i64 i)]) (fun _=>[]) [] (fun i=>i<=b.size/\∀j,j<i->okB b j=true) (fun i=>b.size-i) ?_ ?_
   . refine⟨0,⟨Nat.zero_le _,fun j h=>by omega⟩,?_⟩
     dsimp only[go_sem,reduceIte,YEx]
     simp only[Ya]
     simp
   . rintro i ⟨hi,ha⟩
     dsimp only[Ypc,Ypd,letC,digC,go_sem,reduceIte,YEx]
     simp only[Yd,YEx,YEz,reduceCtorEq,YEy,YEB]
     refine⟨fun hlt=>⟨⟨by omega,hlt⟩,Yfb b i,fun a c=>by rw[a,decide_eq_false c];rfl,fun a c=>by rw[a,decide_eq_false c];rfl,fun hc=>?_,fun hc=>?_⟩,fun hge=>?_⟩
     . rw[YrW]at hc
       rw[YrL (by omega:i<b.size) (by simpa using hc)]at h
       exact YC h
     . rw[YrW]at hc
       refine⟨i+1,⟨by omega,fun j hj=>?_⟩,by omega,?_⟩
       . rcases YFf j i with h'|h'
         . exact ha j h'
         . obtain rfl:j=i:=by omega
           simpa using hc
       . simp only[Ya]
         exact YaQ (by omega:i<b.size) (by omega)
     . obtain rfl:i=b.size:=by omega
       rw[YuR ha]at h
       exact YC h
 . exact h.1.elim
def NM2:Env:={ ct:=fun n=>match n with|98=>some letC|99=>some digC|_=>none,fn:=fun _=>none,meth:=fun _ _=>none}
theorem Ymr:NM2.ct 98=some letC:=rfl
theorem Yms:NM2.ct 99=some digC:=rfl
theorem YAi:Ys YEC NM2:=by
 refine⟨fun f c h=>?_,fun f vf h=>?_,(fun _ _ _ h=>by cases h),by kernel_rfl,(fun _ h=>by cases h)⟩
 . simp only[NM2]at h
   split at h
   . cases h;exact⟨YyZ,Tryz.f98,Tryz.func98,by kernel_rfl,by kernel_rfl⟩
   . cases h;exact⟨YyV,Tryz.f99,Tryz.func99,by kernel_rfl,by kernel_rfl⟩
   . cases h
 . cases h
theorem Yvc:nameC.ok YEC 76:=by
 refine Yc Tryz.func76 YEa YAi 200 nameC fun args k h=>⟨args,?_⟩
 simp only[nameC]at h
 split at h
 . rename_i b
   refine⟨by simp [leL,le,bnd],?_⟩
   obtain⟨hb,h⟩:=h
   have h:k _ []:=h
   dsimp only[v76,Ymr,Yms,letC,digC,go_sem,reduceIte,YEx]
   simp only[Yd,YEx,YEz,reduceCtorEq,YEy,show Int.toNat 0=0 from rfl]
   have hpos:(decide ((b.size:Int)<1) || decide (16<(b.size:Int)))=false->0<(b.size:Int):=fun h=>by
     simp only[YE9,decide_eq_false_iff_not]at h;omega
   refine⟨fun h=>⟨by omega,hpos h⟩,fun _=>Yfb b 0,fun hc=>?_,fun hc=>?_⟩
   . rw[Yvb hc]at h;exact YC h
   refine Loop.keep [0,2] Nat (fun i=>[(3,.int .i64 i)]) (fun _=>[]) [] (fun i=>i<=b.size/\∀j,j<i->okR b j=true) (fun i=>b.size-i) ?_ ?_
   . refine⟨0,⟨Nat.zero_le _,fun j h=>by omega⟩,?_⟩
     dsimp only[go_sem,reduceIte,YEx]
     simp only[Ya]
     simp
   . rintro i ⟨hi,ha⟩
     dsimp only[Ymr,Yms,letC,digC,go_sem,reduceIte,YEx]
     simp only[Yd,YEx,YEz,reduceCtorEq,YEy,YEB]
     refine⟨fun hlt=>⟨⟨by omega,hlt⟩,Yfb b i,fun _=>⟨by omega,hlt⟩,fun _=>⟨by omega,hlt⟩,fun hc2=>?_,fun hc2=>?_⟩,fun hge=>?_⟩
     . rw[YrX]at hc2
       rw[Ysi (by omega:i<b.size) (by simpa using hc2)]at h
       exact YC h
     . rw[YrX]at hc2
       refine⟨i+1,⟨by omega,fun j hj=>?_⟩,by omega,?_⟩
       . rcases YFf j i with h'|h'
         . exact ha j h'
         . obtain rfl:j=i:=by omega
           simpa using hc2
       . simp only[Ya]
         exact YaQ (by omega:i<b.size) (by omega)
     . obtain rfl:i=b.size:=by omega
       rw[Ysj hc ha]at h
       exact YC h
 . exact h.1.elim
def v124:VF:=⟨12,[.tmp 4],(ZR [Zi 4 0] (.seq (.block 0 (.loop (.seq (ZR [Zm 5 1,Zq 6 .neq 5 0] (ZC 6 .skip (.exit 0))) (.block 1 (.draw [] [Zu 7 1,Zu 8 0,Zu 9 1,w1 10 .rem [.tm 8,.tm 9],Zu 0 7,Zu 1 10]))))) (ZR [Zm 11 0,Zm 4 11] .ret)))⟩
theorem YzA:Yi YEC Tryz.f124=some v124:=by kernel_rfl
def v107:VF:=⟨90,[.tmp 2],(ZR [u1 1 .box [.tm 0],Zi 2 0] (.seq (ZR [Za 7 2 1,Zf 8 1 7,Zq 9 .lss 8 0,Zm 10 9,Zj 11 10 false 2 1,Zh 12 10 false 1 11,u2 13 10 false (.cmp .gtr) [.tm 12,.cn (.int .i64 11)],u1 14 .or [.tm 10,.tm 13]] (ZC 14 (ZR [Zi 2 2] .ret) .skip)) (ZR [u1 3 .mov [.cn (.bool true)],Zi 4 1] (.seq (ZR [Za 15 3 1,Zt 16 24 15,Zi 17 0] (.block 0 (.loop (ZR [Zq 18 .lss 17 12] (.seq (ZC 18 .skip (.exit 0)) (.seq (.block 1 (ZR [u1 19 (.index true 12 2) [.tm 16,.tm 17],Zn 6,Zs 2 6 19] (.seq (ZR [Za 20 1 6,Zf 21 1 20,Zq 22 .lss 21 1,Zm 23 22,Zj 24 23 false 1 6,Zh 25 23 false 1 24,u2 26 23 false (.cmp .gtr) [.tm 25,.cn (.int .i64 24)],u1 27 .or [.tm 23,.tm 26],Zm 28 27,Zj 29 28 false 0 6,Zh 30 28 false 1 29,Zj 31 28 false 1 6,Zh 32 28 false 1 31,u2 33 28 false (.ari .mul) [.cn (.int .i64 (-2)),.tm 32],u2 34 28 false (.cmp .lss) [.tm 30,.tm 33],u1 35 .or [.tm 28,.tm 34],Zm 36 35,Zj 37 36 false 0 6,Zh 38 36 false 1 37,Zj 39 36 false 1 6,Zh 40 36 false 1 39,u2 41 36 false (.ari .mul) [.cn (.int .i64 2),.tm 40],u2 42 36 false (.cmp .gtr) [.tm 38,.tm 41],u1 43 .or [.tm 36,.tm 42]] (ZC 43 (ZR [Zi 2 2] .ret) .skip)) (ZR [Zm 44 3,Zm 45 44,Zj 46 45 true 0 6,Zh 47 45 true 1 46,Zj 48 45 true 0 6,Zh 49 45 true 1 48,u2 50 45 true .neg [.tm 49],u2 51 45 true .max [.tm 47,.tm 50],Zj 52 45 true 1 6,Zh 53 45 true 1 52,u2 54 45 true (.call 124) [.tm 51,.tm 53],u2 55 45 true (.cmp .eql) [.tm 54,.cn (.int .i64 1)],u1 56 .and [.tm 45,.tm 55],Zm 3 56] (ZR [Zm 57 4,Zq 58 .leq 57 120] (ZC 58 (.draw [] [Zu 59 4,Zu 60 4,Zy 61 1 6,Zv 62 1 61,Zy 65 1 6,Zv 66 1 65,Zz 63 124 60 62,w1 64 .quo [.tm 59,.tm 63],w1 67 (.ari .mul) [.tm 64,.tm 66],Zu 4 67]) .skip)))))) (.region [Zp 68 17 1,Zm 17 68]))))))) (.seq (.block 2 (ZR [Za 70 0 1,Zf 71 1 70,Zc 72 125 71,u1 73 .not [.tm 72],Zm 74 73,Zg 75 74 false 3,u2 76 74 false .not [.tm 75],u1 77 .or [.tm 74,.tm 76],Zm 78 77,Zj 79 78 false 2 1,Zh 80 78 false 1 79,Zj 81 78 false 3 1,u2 82 78 false (.idxArr 12 2) [.tm 81,.tm 80],Zj 83 78 false 0 82,Zh 84 78 false 1 83,u2 85 78 false (.cmp .neq) [.tm 84,.cn (.int .i64 0)],u1 86 .or [.tm 78,.tm 85],Zm 69 86] (ZC 69 (ZR [Zi 2 6] .ret) (ZR [Zm 88 4,Zq 89 .gtr 88 120,Zm 87 89] (ZC 87 (ZR [Zi 2 7] .ret) .skip))))) (ZR [Zi 2 0] .ret))))))⟩
theorem Yzm:Yi YEC Tryz.f107=some v107:=by kernel_rfl
structure Tm where
 nm:ByteArray
 syn:Bool
 wolf:Int
 p:Nat->Int×Int
def encP(p:Nat->Int×Int):List SV:=[.int .i64 (p 0).1,.int .i64 (p 0).2,.int .i64 (p 1).1,.int .i64 (p 1).2,.int .i64 (p 2).1,.int .i64 (p 2).2,.int .i64 (p 3).1,.int .i64 (p 3).2,.int .i64 (p 4).1,.int .i64 (p 4).2,.int .i64 (p 5).1,.int .i64 (p 5).2,.int .i64 (p 6).1,.int .i64 (p 6).2,.int .i64 (p 7).1,.int .i64 (p 7).2,.int .i64 (p 8).1,.int .i64 (p 8).2,.int .i64 (p 9).1,.int .i64 (p 9).2,.int .i64 (p 10).1,.int .i64 (p 10).2,.int .i64 (p 11).1,.int .i64 (p 11).2]
def encT(T:Tm):List SV:= .val (.string T.nm):: .bool T.syn:: .int .i64 T.wolf::encP T.p
theorem YfM{i:Nat}(h:i<12):i=0\/i=1\/i=2\/i=3\/i=4\/i=5\/i=6\/i=7\/i=8\/i=9\/i=10\/i=11:=by omega
theorem Yi9(p:Nat->Int×Int){i:Nat}(h:i<12):Yx 2 (Yt (i*2) (encP p))=[.int .i64 (p i).1,.int .i64 (p i).2]:=by
 rcases YfM h with rfl|rfl|rfl|rfl|rfl|rfl|rfl|rfl|rfl|rfl|rfl|rfl <;> rfl
theorem Yt7(T:Tm){i:Nat}(h:i<12):Yx 1 (Yt (3+idxN (i:Int) 2) (encT T))=[.int .i64 (T.p i).1]:=by
 rcases YfM h with rfl|rfl|rfl|rfl|rfl|rfl|rfl|rfl|rfl|rfl|rfl|rfl <;> rfl
theorem Yt8(T:Tm){i:Nat}(h:i<12):1<=lenL (Yt (3+idxN (i:Int) 2) (encT T)):=by
 rcases YfM h with rfl|rfl|rfl|rfl|rfl|rfl|rfl|rfl|rfl|rfl|rfl|rfl <;> exact YFi rfl
theorem YK(T:Tm)(m:Nat):bndL m (encT T):=by simp [encT,encP,bndL,bnd]
def badT(x:Int×Int):Bool:=decide (x.2<1) || decide (24<x.2) || decide (x.1< -2*x.2) || decide (2*x.2<x.1)
def gcdT(x:Int×Int):Nat:=YFt x.1.natAbs x.2.toNat
def lowT(T:Tm)(i:Nat):Bool:=(List.range i).all fun j=>decide (gcdT (T.p j)=1)
def allT(T:Tm):Nat->Nat
 |0=>1
 |i+1=>if allT T i<=120 then allT T i/YFt (allT T i) (T.p i).2.toNat*(T.p i).2.toNat else allT T i
def badA(T:Tm):Bool:=(List.range 12).any fun i=>badT (T.p i)
def Y4(T:Tm):Int:=
 if T.wolf<0\/11<T.wolf then 2 else if badA T=true then 2
 else if Ydg T.nm=false\/lowT T 12=false\/(T.p T.wolf.toNat).1≠0 then 6 else if 120<allT T 12 then 7 else 0
theorem YhN{x:Int×Int}(h:badT x=false):(1<=x.2/\x.2<=24)/\ -2*x.2<=x.1/\x.1<=2*x.2:=by
 simp only[badT,YE9,decide_eq_false_iff_not]at h;omega
theorem YdH{T:Tm}:∀{i:Nat},(∀j,j<i->badT (T.p j)=false)->1<=allT T i/\allT T i<=2880
 |0,_=>⟨YEK _,by simp [allT]⟩
 |i+1,h=>by
   have ih:=YdH (i:=i) fun j hj=>h j (by omega)
   have hb:=YhN (h i (by omega))
   rw[allT]
   split
   . rename_i hle
     have hg:1<=YFt (allT T i) (T.p i).2.toNat:=Nat.gcd_pos_of_pos_left _ (by omega)
     have h1:allT T i/YFt (allT T i) (T.p i).2.toNat<=120:=YEQ (Nat.div_le_self _ _) hle
     have h2:1<=allT T i/YFt (allT T i) (T.p i).2.toNat:=Nat.div_pos (Nat.gcd_le_left _ (by omega)) hg
     have h3:(T.p i).2.toNat<=24:=by omega
     have h4:1<=(T.p i).2.toNat:=by omega
     have:=YEV h1 h3
     have:=YEV h2 h4
     omega
   . exact ih
theorem YvK(x:Int×Int):(decide (x.2<1) || decide (24<x.2) || decide (x.1<IntKind.i64.wrap (-2*x.2)) || decide (IntKind.i64.wrap (2*x.2)<x.1))=badT x:=by
 unfold badT
 by_cases h1:x.2<1
 . rw[decide_eq_true h1];simp
 . by_cases h2:24<x.2
   . rw[decide_eq_true h2];simp
   . rw[YED (-2*x.2) (by omega),YED (2*x.2) (by omega)]
theorem YrD(T:Tm)(i:Nat):lowT T (i+1)=(lowT T i&&decide (gcdT (T.p i)=1)):=by
 unfold lowT;rw[List.range_succ,List.all_append];simp
theorem Ynf{T:Tm}{i:Nat}(hi:i<12)(h:badT (T.p i)=true):badA T=true:=List.any_eq_true.2 ⟨i,List.mem_range.2 hi,h⟩
theorem YvJ{T:Tm}(h:∀i,i<12->badT (T.p i)=false):badA T=false:=List.any_eq_false.2 fun i hi=>by rw[h i (List.mem_range.1 hi)];decide
def tgcdC:Ctr:={ alias:=false,of:=fun l=>match l with
 | [.int .i64 a,.int .i64 b]=> .ex Nat fun x=> .ex Nat fun y=> .pre (a=x/\b=y/\x<=9223372036854775807/\y<=9223372036854775807) (.fin (.int .i64 (YFt x y)) [])
 |_=>noC}
def TG0:Env:={ ct:=fun _=>none,fn:=fun _=>none,meth:=fun _ _=>none}
theorem YAH:Ys YEC TG0:=by
 refine⟨fun f c h=>?_,fun f vf h=>?_,(fun _ _ _ h=>by cases h),by kernel_rfl,(fun _ h=>by cases h)⟩
 . cases h
 . cases h
theorem YDE:tgcdC.ok YEC 124:=by
 refine Yc Tryz.func124 YzA YAH 100 tgcdC fun args k h=>?_
 simp only[tgcdC]at h
 split at h
 . rename_i a b
   obtain⟨x,y,⟨rfl,rfl,hx,hy⟩,h⟩:=h
   refine⟨[.int .i64 x,.int .i64 y],by simp [leL,le],?_⟩
   dsimp only[v124,go_sem,reduceIte,YEx]
   simp only[Yd,YEx,YEz,reduceCtorEq,YEy]
   refine Loop.keep [4] (Nat×Nat) (fun s=>[(0,.int .i64 s.1),(1,.int .i64 s.2)]) (fun _=>[]) [] (fun s=>YFt s.1 s.2=YFt x y/\s.1<=9223372036854775807/\s.2<=9223372036854775807) (fun s=>s.2) ?_ ?_
   . refine⟨(x,y),⟨rfl,hx,hy⟩,?_⟩
     dsimp only[go_sem,reduceIte,YEx]
     simp only[Ya]
   . rintro⟨p,q⟩ ⟨he,hp,hq⟩
     dsimp only at he hp hq
     dsimp only[go_sem,reduceIte,YEx]
     simp only[Yd,YEx,YEz,reduceCtorEq,YEy]
     refine⟨fun hc=>⟨hc,(q,p%q),⟨?_,by simp only;omega,?_⟩,?_,?_⟩,fun hc=>Yp ?_⟩
     . rw[<-he,Nat.gcd_comm p q]
       show YFt q (p%q)=YFt q p
       rw[Nat.gcd_comm q (p%q),<-Nat.gcd_rec]
     . have:=YFD p (by omega:0<q)
       simp only;omega
     . exact YFD p (by omega:0<q)
     . have e:(p:Int).tmod q=((p%q:Nat):Int):=IntWalk.up_tmod rfl rfl
       rw[e]
       simp only[Ya]
     . obtain rfl:q=0:=by omega
       rw[Nat.gcd_zero_right]at he
       rw[he];exact h
 . exact h.1.elim
def chkTmC:Ctr:={ alias:=false,of:=fun l=>match l with
 | [.agg cs]=> .ex Tm fun T=> .pre (cs=encT T/\T.nm.size<=9223372036854775807) (.fin (.int .i64 (Y4 T)) [])
 |_=>noC}
def TG1:Env:={ ct:=fun n=>match n with|124=>some tgcdC|125=>some nameC|_=>none,fn:=fun _=>none,meth:=fun _ _=>none}
theorem Yey:TG1.ct 124=some tgcdC:=rfl
theorem Yez:TG1.ct 125=some nameC:=rfl
theorem YAI:Ys YEC TG1:=by
 refine⟨fun f c h=>?_,fun f vf h=>?_,(fun _ _ _ h=>by cases h),by kernel_rfl,(fun _ h=>by cases h)⟩
 . simp only[TG1]at h
   split at h
   . cases h;exact⟨YDE,Tryz.f124,Tryz.func124,by kernel_rfl,by kernel_rfl⟩
   . cases h;exact⟨Yye,Tryz.f125,Tryz.func125,by kernel_rfl,by kernel_rfl⟩
   . cases h
 . cases h
theorem Yxa:chkTmC.ok YEC 107:=by
 refine Yc Tryz.func107 Yzm YAI 300 chkTmC fun args k h=>?_
 simp only[chkTmC]at h
 split at h
 . rename_i cs
   obtain⟨T,⟨rfl,hnm⟩,h⟩:=h
   refine⟨[.agg (encT T)],⟨Ye _ (YK T _),trivial⟩,?_⟩
   have h:k (.int .i64 (Y4 T)) []:=h
   dsimp only[v107,encT,encP,Yey,Yez,tgcdC,nameC,go_sem,reduceIte,YEx]
   simp only[Yd,YEx,YEz,reduceCtorEq,YEy]
   refine⟨rfl,fun hb=>?_,fun hb=>?_⟩
   . rw[Y4,if_pos (by simpa using hb)]at h;exact Yp h
   have hw:0<=T.wolf/\T.wolf<=11:=by simp only[YE9,decide_eq_false_iff_not]at hb;omega
   rw[Y4,if_neg (by omega)]at h
   refine Loop.keep [1,0,13] Nat (fun i=>[(3,.bool (lowT T i)),(4,.int .i64 (allT T i:Nat)),(17,.int .i64 i)]) (fun _=>[]) [] (fun i=>i<=12/\∀j,j<i->badT (T.p j)=false) (fun i=>12-i) ?_ ?_
   . refine⟨0,⟨by omega,fun j hj=>by omega⟩,?_⟩
     dsimp only[go_sem,reduceIte,YEx]
     simp only[Ya]
     exact⟨by decide,rfl,rfl,rfl⟩
   . rintro i ⟨hi,hall⟩
     obtain⟨r1,r2⟩:=YdH hall
     dsimp only[Yey,Yez,tgcdC,nameC,YEB,go_sem,reduceIte,YEx]
     simp only[Yd,YEx,YEz,reduceCtorEq,YEy]
     refine⟨fun hlt=>?_,fun hge=>?_⟩
     . have hi12:i<12:=by omega
       have e:=Yi9 T.p hi12
       simp only[encP]at e
       rw[e]
       dsimp only[Yey,Yez,tgcdC,nameC,YEB,go_sem,reduceIte,YEx]
       simp only[Yd,YEx,YEz,reduceCtorEq,YEy]
       simp only[YvK (T.p i)]
       refine⟨⟨by omega,by omega⟩,fun hb=>?_,fun hb=>?_⟩
       . rw[if_pos (Ynf hi12 hb)]at h;exact Yp h
       . obtain⟨⟨x1,x2⟩,x3,x4⟩:=YhN hb
         have hsn:(T.p i).2=((T.p i).2.toNat:Int):=by omega
         have hall':∀j,j<i+1->badT (T.p j)=false:=fun j hj=>by
           rcases YFf j i with h1|h1
           . exact hall j h1
           . obtain rfl:j=i:=by omega
             exact hb
         have hlow:(lowT T i&&decide ((((T.p i).1.natAbs).gcd (T.p i).2.toNat:Int)=1))=lowT T (i+1):=by
           rw[YrD];congr 1
           exact decide_eq_decide.2 (by unfold gcdT;omega)
         refine⟨(T.p i).1.natAbs,(T.p i).2.toNat,fun _=>⟨Yfn _ (by omega),hsn,by omega,by omega⟩,fun hle=>⟨allT T i,(T.p i).2.toNat,⟨rfl,hsn,by omega,by omega⟩,?_,i+1,⟨by omega,hall'⟩,by omega,?_⟩,fun hgt=>⟨i+1,⟨by omega,hall'⟩,by omega,?_⟩⟩
         . have:=Nat.gcd_pos_of_pos_left (T.p i).2.toNat (by omega:0<allT T i)
           omega
         . have r3:=YdH hall'
           have ha:allT T (i+1)=allT T i/YFt (allT T i) (T.p i).2.toNat*(T.p i).2.toNat:=by rw[allT,if_pos (by omega)]
           have e1:((allT T i:Nat):Int).tdiv ((YFt (allT T i) (T.p i).2.toNat:Nat):Int)=((allT T i/YFt (allT T i) (T.p i).2.toNat:Nat):Int):=IntWalk.up_tdiv rfl rfl
           have hd:=Nat.div_le_self (allT T i) (YFt (allT T i) (T.p i).2.toNat)
           have e2:IntKind.i64.wrap ((allT T i/YFt (allT T i) (T.p i).2.toNat:Nat):Int)=((allT T i/YFt (allT T i) (T.p i).2.toNat:Nat):Int):=by
             generalize allT T i/YFt (allT T i) (T.p i).2.toNat=q at hd
             exact YED _ (by omega)
           have e3:((allT T i/YFt (allT T i) (T.p i).2.toNat:Nat):Int)*(T.p i).2=(allT T (i+1):Nat):=by rw[ha,YFe,<-hsn]
           rw[e1,e2,e3,YED (allT T (i+1):Int) (by omega),YED ((i:Int)+1) (by omega)]
           simp only[Ya]
           exact⟨by decide,hlow,by simp⟩
         . have ha:allT T (i+1)=allT T i:=by rw[allT,if_neg (by omega)]
           rw[ha,YED ((i:Int)+1) (by omega)]
           simp only[Ya]
           exact⟨by decide,hlow,by simp⟩
     . obtain rfl:i=12:=by omega
       rw[if_neg (by rw[YvJ hall];decide)]at h
       obtain⟨w,hwe⟩:∃w:Nat,T.wolf=(w:Int):=⟨T.wolf.toNat,by omega⟩
       have hw12:w<12:=by omega
       have e:=Yt7 T hw12
       have el:=Yt8 T hw12
       simp only[encT,encP,hwe]at e el
       rw[hwe,YEB]at h
       simp only[Nat.add_zero,hwe]
       rw[e]
       dsimp only[Yey,Yez,tgcdC,nameC,YEB,go_sem,reduceIte,YEx]
       simp only[Yd,YEx,YEz,reduceCtorEq,YEy]
       refine⟨hnm,fun _=>⟨by omega,by omega⟩,fun _=>el,fun hc=>?_,fun hc=>?_⟩
       . rw[if_pos (by simpa [or_assoc]using hc)]at h;exact Yp h
       . rw[if_neg (by simpa [or_assoc,and_assoc]using hc)]at h
         refine⟨fun ha=>?_,fun ha=>?_⟩
         . rw[if_pos (by omega)]at h;exact Yp h
         . rw[if_neg (by omega)]at h;exact Yp h
 . exact h.1.elim
def v127:VF:=⟨58,[.cell 2 true 84],(ZR [u1 2 (.allocArr 12 7 [(.int .i64 0),(.int .i64 0),(.int .i64 0),(.int .i64 0),(.int .i64 0),(.int .i64 0),(.int .i64 0),(.int .i64 0),(.int .i64 0),(.int .i64 0),(.int .i64 0),(.int .i64 0),(.int .i64 0),(.int .i64 0),(.int .i64 0),(.int .i64 0),(.int .i64 0),(.int .i64 0),(.int .i64 0),(.int .i64 0),(.int .i64 0),(.int .i64 0),(.int .i64 0),(.int .i64 0),(.int .i64 0),(.int .i64 0),(.int .i64 0),(.int .i64 0),(.int .i64 0),(.int .i64 0),(.int .i64 0),(.int .i64 0),(.int .i64 0),(.int .i64 0),(.int .i64 0),(.int .i64 0),(.int .i64 0),(.int .i64 0),(.int .i64 0),(.int .i64 0),(.int .i64 0),(.int .i64 0),(.int .i64 0),(.int .i64 0),(.int .i64 0),(.int .i64 0),(.int .i64 0),(.int .i64 0),(.int .i64 0),(.int .i64 0),(.int .i64 0),(.int .i64 0),(.int .i64 0),(.int .i64 0),(.int .i64 0),(.int .i64 0),(.int .i64 0),(.int .i64 0),(.int .i64 0),(.int .i64 0),(.int .i64 0),(.int .i64 0),(.int .i64 0),(.int .i64 0),(.int .i64 0),(.int .i64 0),(.int .i64 0),(.int .i64 0),(.int .i64 0),(.int .i64 0),(.int .i64 0),(.int .i64 0),(.int .i64 0),(.int .i64 0),(.int .i64 0),(.int .i64 0),(.int .i64 0),(.int .i64 0),(.int .i64 0),(.int .i64 0),(.int .i64 0),(.int .i64 0),(.int .i64 0),(.int .i64 0)]) []] (ZR [u1 10 (.call 126) [.cn (.int .i64 531441),.cn (.int .i64 524288)],u1 3 (.alloc [(.int .i64 0),(.int .i64 0),(.int .i64 0),(.int .i64 0),(.int .i64 0),(.int .i64 0),(.int .i64 0)]) [],Zs 7 3 10] (.seq (ZR [Zm 11 0,u1 12 .nilCheck [.tm 11],Za 13 1 12,Zf 14 1 13] (ZC 14 (.region [u1 15 (.call 126) [.cn (.int .i64 81),.cn (.int .i64 80)],Zs 7 3 15]) .skip)) (ZR [u1 4 (.allocArr 12 7 [(.int .i64 0),(.int .i64 0),(.int .i64 0),(.int .i64 0),(.int .i64 0),(.int .i64 0),(.int .i64 0),(.int .i64 0),(.int .i64 0),(.int .i64 0),(.int .i64 0),(.int .i64 0),(.int .i64 0),(.int .i64 0),(.int .i64 0),(.int .i64 0),(.int .i64 0),(.int .i64 0),(.int .i64 0),(.int .i64 0),(.int .i64 0),(.int .i64 0),(.int .i64 0),(.int .i64 0),(.int .i64 0),(.int .i64 0),(.int .i64 0),(.int .i64 0),(.int .i64 0),(.int .i64 0),(.int .i64 0),(.int .i64 0),(.int .i64 0),(.int .i64 0),(.int .i64 0),(.int .i64 0),(.int .i64 0),(.int .i64 0),(.int .i64 0),(.int .i64 0),(.int .i64 0),(.int .i64 0),(.int .i64 0),(.int .i64 0),(.int .i64 0),(.int .i64 0),(.int .i64 0),(.int .i64 0),(.int .i64 0),(.int .i64 0),(.int .i64 0),(.int .i64 0),(.int .i64 0),(.int .i64 0),(.int .i64 0),(.int .i64 0),(.int .i64 0),(.int .i64 0),(.int .i64 0),(.int .i64 0),(.int .i64 0),(.int .i64 0),(.int .i64 0),(.int .i64 0),(.int .i64 0),(.int .i64 0),(.int .i64 0),(.int .i64 0),(.int .i64 0),(.int .i64 0),(.int .i64 0),(.int .i64 0),(.int .i64 0),(.int .i64 0),(.int .i64 0),(.int .i64 0),(.int .i64 0),(.int .i64 0),(.int .i64 0),(.int .i64 0),(.int .i64 0),(.int .i64 0),(.int .i64 0),(.int .i64 0)]) []] (ZR [u1 16 (.call 126) [.cn (.int .i64 128),.cn (.int .i64 1)],u1 5 (.alloc [(.int .i64 0),(.int .i64 0),(.int .i64 0),(.int .i64 0),(.int .i64 0),(.int .i64 0),(.int .i64 0)]) [],Zs 7 5 16] (.seq (ZR [Zm 17 0,u1 18 .nilCheck [.tm 17],Za 19 3 18,Zt 20 24 19,Zi 21 0] (.block 0 (.loop (ZR [Zq 22 .lss 21 12] (.seq (ZC 22 .skip (.exit 0)) (.seq (.block 1 (ZR [Zm 23 21,u1 24 (.index true 12 2) [.tm 20,.tm 21],Zn 7,Zm 6 23,Zs 2 7 24] (ZR [Zm 25 6,Zm 26 0,u1 27 .nilCheck [.tm 26],Za 28 2 27,Zf 29 1 28,Zr 30 .neq 25 29] (ZC 30 (ZR [Zt 32 7 3,Za 33 0 7,Zf 34 1 33,Za 35 1 7,Zf 36 1 35,u1 37 (.call 144) [.tm 32,.tm 34,.tm 36],Zm 31 37,Ze 38 0 31,Ze 39 1 31,u1 8 (.alloc [(.int .i64 0),(.int .i64 0),(.int .i64 0),(.int .i64 0),(.int .i64 0),(.int .i64 0),(.int .i64 0)]) [],Zs 7 8 38,Zm 9 39] (.seq (.draw [] [Zu 40 6,Zw 42 7 8,w1 41 (.call 126) [.cn (.int .i64 3),.cn (.int .i64 2)],Zz 43 145 41 42,w1 44 (.idxArr 12 7) [.tm 4,.tm 40],ZS 7 44 43]) (.draw [] [Zw 45 7 5,Zu 46 6,w1 47 (.idxArr 12 7) [.tm 4,.tm 46],Zw 48 7 47,Zz 49 145 45 48,ZS 7 5 49]))) .skip)))) (.region [Zp 50 21 1,Zm 21 50]))))))) (.seq (.draw [] [Zu 51 0,w1 52 .nilCheck [.tm 51],Zy 53 2 52,Zv 54 1 53,Zw 55 7 5,w1 56 (.idxArr 12 7) [.tm 4,.tm 54],ZS 7 56 55]) (ZR [Zt 57 84 4,Zs 84 2 57] .ret))))))))⟩
theorem YzD:Yi YEC Tryz.f127=some v127:=by kernel_rfl
def v108:VF:=⟨25,[.cell 2 true 84],(ZR [u1 2 (.allocArr 12 7 [(.int .i64 0),(.int .i64 0),(.int .i64 0),(.int .i64 0),(.int .i64 0),(.int .i64 0),(.int .i64 0),(.int .i64 0),(.int .i64 0),(.int .i64 0),(.int .i64 0),(.int .i64 0),(.int .i64 0),(.int .i64 0),(.int .i64 0),(.int .i64 0),(.int .i64 0),(.int .i64 0),(.int .i64 0),(.int .i64 0),(.int .i64 0),(.int .i64 0),(.int .i64 0),(.int .i64 0),(.int .i64 0),(.int .i64 0),(.int .i64 0),(.int .i64 0),(.int .i64 0),(.int .i64 0),(.int .i64 0),(.int .i64 0),(.int .i64 0),(.int .i64 0),(.int .i64 0),(.int .i64 0),(.int .i64 0),(.int .i64 0),(.int .i64 0),(.int .i64 0),(.int .i64 0),(.int .i64 0),(.int .i64 0),(.int .i64 0),(.int .i64 0),(.int .i64 0),(.int .i64 0),(.int .i64 0),(.int .i64 0),(.int .i64 0),(.int .i64 0),(.int .i64 0),(.int .i64 0),(.int .i64 0),(.int .i64 0),(.int .i64 0),(.int .i64 0),(.int .i64 0),(.int .i64 0),(.int .i64 0),(.int .i64 0),(.int .i64 0),(.int .i64 0),(.int .i64 0),(.int .i64 0),(.int .i64 0),(.int .i64 0),(.int .i64 0),(.int .i64 0),(.int .i64 0),(.int .i64 0),(.int .i64 0),(.int .i64 0),(.int .i64 0),(.int .i64 0),(.int .i64 0),(.int .i64 0),(.int .i64 0),(.int .i64 0),(.int .i64 0),(.int .i64 0),(.int .i64 0),(.int .i64 0),(.int .i64 0)]) []] (ZR [u1 3 (.allocArr 12 7 [(.int .i64 0),(.int .i64 0),(.int .i64 0),(.int .i64 0),(.int .i64 0),(.int .i64 0),(.int .i64 0),(.int .i64 0),(.int .i64 0),(.int .i64 0),(.int .i64 0),(.int .i64 0),(.int .i64 0),(.int .i64 0),(.int .i64 0),(.int .i64 0),(.int .i64 0),(.int .i64 0),(.int .i64 0),(.int .i64 0),(.int .i64 0),(.int .i64 0),(.int .i64 0),(.int .i64 0),(.int .i64 0),(.int .i64 0),(.int .i64 0),(.int .i64 0),(.int .i64 0),(.int .i64 0),(.int .i64 0),(.int .i64 0),(.int .i64 0),(.int .i64 0),(.int .i64 0),(.int .i64 0),(.int .i64 0),(.int .i64 0),(.int .i64 0),(.int .i64 0),(.int .i64 0),(.int .i64 0),(.int .i64 0),(.int .i64 0),(.int .i64 0),(.int .i64 0),(.int .i64 0),(.int .i64 0),(.int .i64 0),(.int .i64 0),(.int .i64 0),(.int .i64 0),(.int .i64 0),(.int .i64 0),(.int .i64 0),(.int .i64 0),(.int .i64 0),(.int .i64 0),(.int .i64 0),(.int .i64 0),(.int .i64 0),(.int .i64 0),(.int .i64 0),(.int .i64 0),(.int .i64 0),(.int .i64 0),(.int .i64 0),(.int .i64 0),(.int .i64 0),(.int .i64 0),(.int .i64 0),(.int .i64 0),(.int .i64 0),(.int .i64 0),(.int .i64 0),(.int .i64 0),(.int .i64 0),(.int .i64 0),(.int .i64 0),(.int .i64 0),(.int .i64 0),(.int .i64 0),(.int .i64 0),(.int .i64 0)]) []] (ZR [u1 7 (.call 126) [.cn (.int .i64 1),.cn (.int .i64 1)],u1 4 (.alloc [(.int .i64 0),(.int .i64 0),(.int .i64 0),(.int .i64 0),(.int .i64 0),(.int .i64 0),(.int .i64 0)]) [],Zs 7 4 7] (.seq (ZR [Zm 8 0,Zc 9 127 8,Zi 10 0] (.block 0 (.loop (ZR [Zq 11 .lss 10 12] (.seq (ZC 11 .skip (.exit 0)) (.seq (.block 1 (ZR [Zm 12 10,u1 13 (.index true 12 7) [.tm 9,.tm 10],u1 6 (.alloc [(.int .i64 0),(.int .i64 0),(.int .i64 0),(.int .i64 0),(.int .i64 0),(.int .i64 0),(.int .i64 0)]) [],Zm 5 12,Zs 7 6 13] (ZR [Zm 14 5,u1 15 (.ari .mul) [.cn (.int .i64 7),.tm 14],u1 16 .rem [.tm 15,.cn (.int .i64 12)],Zt 17 7 4,Zc 18 128 17,u1 19 (.idxArr 12 7) [.tm 3,.tm 16],Zs 7 19 18] (.region [Zt 20 7 4,Zt 21 7 6,Zd 22 129 20 21,Zs 7 4 22])))) (.region [Zp 23 10 1,Zm 10 23]))))))) (ZR [Zt 24 84 3,Zs 84 2 24] .ret)))))⟩
theorem Yzn:Yi YEC Tryz.f108=some v108:=by kernel_rfl
def v87:VF:=⟨13,[.tmp 2,.tmp 3],(ZR [u1 1 .box [.tm 0],u1 2 .mov [.cn .nil],Zi 3 0] (.seq (ZR [Zt 6 27 1,Zc 7 107 6,Zm 4 7] (ZR [Zm 8 4,Zq 9 .neq 8 0] (ZC 9 (ZR [Zm 10 4,u1 2 .mov [.cn .nil],Zm 3 10] .ret) .skip))) (ZR [Zc 11 108 1,u1 5 (.allocArr 12 7 [(.int .i64 0),(.int .i64 0),(.int .i64 0),(.int .i64 0),(.int .i64 0),(.int .i64 0),(.int .i64 0),(.int .i64 0),(.int .i64 0),(.int .i64 0),(.int .i64 0),(.int .i64 0),(.int .i64 0),(.int .i64 0),(.int .i64 0),(.int .i64 0),(.int .i64 0),(.int .i64 0),(.int .i64 0),(.int .i64 0),(.int .i64 0),(.int .i64 0),(.int .i64 0),(.int .i64 0),(.int .i64 0),(.int .i64 0),(.int .i64 0),(.int .i64 0),(.int .i64 0),(.int .i64 0),(.int .i64 0),(.int .i64 0),(.int .i64 0),(.int .i64 0),(.int .i64 0),(.int .i64 0),(.int .i64 0),(.int .i64 0),(.int .i64 0),(.int .i64 0),(.int .i64 0),(.int .i64 0),(.int .i64 0),(.int .i64 0),(.int .i64 0),(.int .i64 0),(.int .i64 0),(.int .i64 0),(.int .i64 0),(.int .i64 0),(.int .i64 0),(.int .i64 0),(.int .i64 0),(.int .i64 0),(.int .i64 0),(.int .i64 0),(.int .i64 0),(.int .i64 0),(.int .i64 0),(.int .i64 0),(.int .i64 0),(.int .i64 0),(.int .i64 0),(.int .i64 0),(.int .i64 0),(.int .i64 0),(.int .i64 0),(.int .i64 0),(.int .i64 0),(.int .i64 0),(.int .i64 0),(.int .i64 0),(.int .i64 0),(.int .i64 0),(.int .i64 0),(.int .i64 0),(.int .i64 0),(.int .i64 0),(.int .i64 0),(.int .i64 0),(.int .i64 0),(.int .i64 0),(.int .i64 0),(.int .i64 0)]) [],Zs 84 5 11] (ZR [u1 12 (.sliceArr 12 7 false false) [.tm 5],Zm 2 12,Zi 3 0] .ret))))⟩
theorem YEk:Yi YEC Tryz.f87=some v87:=by kernel_rfl
def Yc4(L:Nat->Rt):List SV:=encR (L 0)++(encR (L 1)++(encR (L 2)++(encR (L 3)++(encR (L 4)++(encR (L 5)++(encR (L 6)++(encR (L 7)++(encR (L 8)++(encR (L 9)++(encR (L 10)++(encR (L 11)++[])))))))))))
theorem YCO{get:Nat->List SV}:Yfg 12 0 get=get 0++(get 1++(get 2++(get 3++(get 4++(get 5++(get 6++(get 7++(get 8++(get 9++(get 10++(get 11++[]))))))))))):=rfl
attribute [go_sem] YCO
theorem YkF(L:Nat->Rt){i:Nat}(h:i<12):Yx 7 (Yt (i*7) (Yc4 L))=encR (L i):=by
 rcases YfM h with rfl|rfl|rfl|rfl|rfl|rfl|rfl|rfl|rfl|rfl|rfl|rfl <;> rfl
theorem Ys1{k:Nat}(h:k<12):Ya4 7 [SV.int .i64 0,SV.int .i64 0,SV.int .i64 0,SV.int .i64 0,SV.int .i64 0,SV.int .i64 0,SV.int .i64 0,SV.int .i64 0,SV.int .i64 0,SV.int .i64 0,SV.int .i64 0,SV.int .i64 0,SV.int .i64 0,SV.int .i64 0,SV.int .i64 0,SV.int .i64 0,SV.int .i64 0,SV.int .i64 0,SV.int .i64 0,SV.int .i64 0,SV.int .i64 0,SV.int .i64 0,SV.int .i64 0,SV.int .i64 0,SV.int .i64 0,SV.int .i64 0,SV.int .i64 0,SV.int .i64 0,SV.int .i64 0,SV.int .i64 0,SV.int .i64 0,SV.int .i64 0,SV.int .i64 0,SV.int .i64 0,SV.int .i64 0,SV.int .i64 0,SV.int .i64 0,SV.int .i64 0,SV.int .i64 0,SV.int .i64 0,SV.int .i64 0,SV.int .i64 0,SV.int .i64 0,SV.int .i64 0,SV.int .i64 0,SV.int .i64 0,SV.int .i64 0,SV.int .i64 0,SV.int .i64 0,SV.int .i64 0,SV.int .i64 0,SV.int .i64 0,SV.int .i64 0,SV.int .i64 0,SV.int .i64 0,SV.int .i64 0,SV.int .i64 0,SV.int .i64 0,SV.int .i64 0,SV.int .i64 0,SV.int .i64 0,SV.int .i64 0,SV.int .i64 0,SV.int .i64 0,SV.int .i64 0,SV.int .i64 0,SV.int .i64 0,SV.int .i64 0,SV.int .i64 0,SV.int .i64 0,SV.int .i64 0,SV.int .i64 0,SV.int .i64 0,SV.int .i64 0,SV.int .i64 0,SV.int .i64 0,SV.int .i64 0,SV.int .i64 0,SV.int .i64 0,SV.int .i64 0,SV.int .i64 0,SV.int .i64 0,SV.int .i64 0,SV.int .i64 0] k=encR YaN:=by
 rcases YfM h with rfl|rfl|rfl|rfl|rfl|rfl|rfl|rfl|rfl|rfl|rfl|rfl <;> rfl
theorem Ybr{a b:Nat}(r:Rt):leL a b (encR r) (encR r):=Ye _ ⟨trivial,trivial,trivial,trivial,trivial,trivial,trivial,trivial⟩
theorem Ybc(x:Rt):Rt.mk x.a x.b x.c x.d x.e x.f x.n=x:=rfl
def YeG(T:Tm):Rt:=if T.syn=true then(ofRF 81 80).1 else(ofRF 531441 524288).1
def fifR(T:Tm)(i:Nat):Rt:=(Ya6 (ofRF 3 2).1 (pwrF (YeG T) (T.p i).1 (T.p i).2).1 (-1)).1
def YaX(T:Tm):Nat->Rt
 |0=>(ofRF 128 1).1
 |i+1=>if(i:Int)=T.wolf then YaX T i else(Ya6 (YaX T i) (fifR T i) (-1)).1
def fifL(T:Tm)(i k:Nat):Rt:=if k<i then(if(k:Int)=T.wolf then YaN else fifR T k)else YaN
def YbK(T:Tm)(k:Nat):Rt:=if k=T.wolf.toNat then YaX T 12 else fifL T 12 k
theorem YqM(T:Tm)(j:Nat):(if j=T.wolf.toNat then [SV.int .i64 (YaX T 12).a,SV.int .i64 (YaX T 12).b,SV.int .i64 (YaX T 12).c,SV.int .i64 (YaX T 12).d,SV.int .i64 (YaX T 12).e,SV.int .i64 (YaX T 12).f,SV.int .i64 (YaX T 12).n]else [SV.int .i64 (fifL T 12 j).a,SV.int .i64 (fifL T 12 j).b,SV.int .i64 (fifL T 12 j).c,SV.int .i64 (fifL T 12 j).d,SV.int .i64 (fifL T 12 j).e,SV.int .i64 (fifL T 12 j).f,SV.int .i64 (fifL T 12 j).n])=encR (YbK T j):=by
 unfold YbK;split <;> rfl
theorem YvU(T:Tm)(k:Nat):fifL T 0 k=YaN:=if_neg (Nat.not_lt_zero _)
theorem YkE(L:Nat->Rt)(m:Nat):bndL m (Yc4 L):=by simp [Yc4,encR,bndL,bnd]
theorem Yp2{k:SV->List HO->Prop}{al:Bool}{hp:List HO}{L:Nat->Rt}(h:k (.agg (Yc4 L)) []):YO al k (.agg (Yc4 L)) hp:=
 YI (show k _ []from h) (YV (.agg (Yc4 L)) (YkE L _)) (fun _=>by simp [Ym,Yo,Yc4,encR])
theorem YqL{T:Tm}{i:Nat}(h:¬(i:Int)=T.wolf):fifL T (i+1) i=fifR T i:=by
 unfold fifL;rw[if_pos (by omega),if_neg h]
theorem YlW{T:Tm}{i k:Nat}(h:¬k=i):fifL T (i+1) k=fifL T i k:=by
 unfold fifL
 by_cases h1:k<i
 . rw[if_pos h1,if_pos (by omega)]
 . rw[if_neg h1,if_neg (by omega)]
theorem YvT{T:Tm}{i k:Nat}(h:(i:Int)=T.wolf):fifL T (i+1) k=fifL T i k:=by
 by_cases hk:k=i
 . subst hk;unfold fifL;rw[if_pos (by omega),if_pos h,if_neg (by omega)]
 . exact YlW hk
def fifC:Ctr:={ alias:=false,of:=fun l=>match l with
 | [.xp _ cs]=> .ex Tm fun T=> .pre (cs=encT T/\Y4 T=0) (.fin (.agg (Yc4 (YbK T))) [])
 |_=>noC}
theorem Yw9{T:Tm}(h:Y4 T=0):(0<=T.wolf/\T.wolf<=11)/\(∀i,i<12->badT (T.p i)=false):=by
 unfold Y4 at h
 split at h
 . cases h
 . split at h
   . cases h
   . rename_i h1 h2
     refine⟨by omega,fun i hi=>?_⟩
     cases hb:badT (T.p i)with
     |false=>rfl
     |true=>exact absurd (Ynf hi hb) h2
def mc1:Ctr:=m2C 1
def mcm:Ctr:=m2C (-1)
def TH0:Env:={ ct:=fun n=>match n with|126=>some wholeC|145=>some mcm|129=>some mc1|144=>some powRC|128=>some folC|_=>none,fn:=fun _=>none,meth:=fun _ _=>none}
theorem YbC:TH0.ct 126=some wholeC:=rfl
theorem YbG:TH0.ct 145=some mcm:=rfl
theorem YbE:TH0.ct 129=some mc1:=rfl
theorem YbF:TH0.ct 144=some powRC:=rfl
theorem YbD:TH0.ct 128=some folC:=rfl
theorem YAJ:Ys YEC TH0:=by
 refine⟨fun f c h=>?_,fun f vf h=>?_,(fun _ _ _ h=>by cases h),by kernel_rfl,(fun _ h=>by cases h)⟩
 . simp only[TH0]at h
   split at h
   . cases h;exact⟨YsU,Tryz.f126,Tryz.func126,by kernel_rfl,by kernel_rfl⟩
   . cases h;exact⟨ovr_c,Tryz.f145,Tryz.func145,by kernel_rfl,by kernel_rfl⟩
   . cases h;exact⟨YDH,Tryz.f129,Tryz.func129,by kernel_rfl,by kernel_rfl⟩
   . cases h;exact⟨pow_c,Tryz.f144,Tryz.func144,by kernel_rfl,by kernel_rfl⟩
   . cases h;exact⟨YBF,Tryz.f128,Tryz.func128,by kernel_rfl,by kernel_rfl⟩
   . cases h
 . cases h
theorem fif_c:fifC.ok YEC 127:=by
 refine Yc Tryz.func127 YzD YAJ 300 fifC fun args k h=>?_
 simp only[fifC]at h
 split at h
 . rename_i tt cs
   obtain⟨T,⟨rfl,hT⟩,h⟩:=h
   refine⟨[.xp tt (encT T)],by simp only[Ya],?_⟩
   obtain⟨hw,hp⟩:=Yw9 hT
   dsimp only[v127,encT,encP,encR,Ybc,YbC,YbG,YbE,YbF,YbD,wholeC,mc1,mcm,m2C,powRC,folC,go_sem,reduceIte,YEx]
   simp only[Yd,YEx,YEz,reduceCtorEq,YEy]
   refine⟨fun hs=>?_,fun hs=>?_⟩
   . have hC:YeG T=(ofRF 81 80).1:=if_pos hs
     obtain⟨C,hCe⟩:∃C,C=(ofRF 81 80).1:=⟨_,rfl⟩
     rw[<-hCe]at hC⊢
     clear hCe hs
     refine Loop.keep [0,1,0,0,0,14] Nat (fun i=>[(21,.int .i64 i)]) (fun i=>[(2,.own false 7 12 (fun k=>encR (fifL T i k))),(3,.box (encR (YaX T i)))]) [] (fun i=>i<=12) (fun i=>12-i) ?_ ?_
     . refine⟨0,by omega,?_⟩
       dsimp only[encR,go_sem,reduceIte,YEx]
       simp only[Ya]
       refine⟨⟨by decide,by decide,by decide,by decide,rfl⟩,fun k hk=>?_,rfl,rfl,rfl,rfl,rfl,rfl,rfl⟩
       rw[Ys1 hk,YvU]
       exact Ybr YaN
     . rintro i hi
       dsimp only[Ybc,YbC,YbG,YbE,YbF,YbD,wholeC,mc1,mcm,m2C,powRC,folC,encR,YEB,go_sem,reduceIte,YEx]
       simp only[Yd,YEx,YEz,reduceCtorEq,YEy]
       refine⟨fun hlt=>?_,fun hge=>?_⟩
       . have hi12:i<12:=by omega
         have e:=Yi9 T.p hi12
         simp only[encP]at e
         rw[e]
         dsimp only[Ybc,YbC,YbG,YbE,YbF,YbD,wholeC,mc1,mcm,m2C,powRC,folC,encR,YEB,go_sem,reduceIte,YEx]
         simp only[Yd,YEx,YEz,reduceCtorEq,YEy]
         have hF:(Ya6 (ofRF 3 2).1 (pwrF C (T.p i).1 (T.p i).2).1 (-1)).1=fifR T i:=by rw[fifR,hC]
         simp only[if_true,Ybc,hF]
         dsimp only[Ybc,YbC,YbG,YbE,YbF,YbD,wholeC,mc1,mcm,m2C,powRC,folC,encR,YEB,go_sem,reduceIte,YEx]
         simp only[Yd,YEx,YEz,reduceCtorEq,YEy]
         refine⟨⟨by omega,by omega⟩,fun hne=>⟨by decide,by decide,⟨by omega,by omega⟩,hi12,⟨by omega,by omega⟩,hi12,i+1,by omega,by omega,?_⟩,fun heq=>⟨i+1,by omega,by omega,?_⟩⟩
         . have hR:YaX T (i+1)=(Ya6 (YaX T i) (fifR T i) (-1)).1:=by rw[YaX,if_neg hne]
           rw[hR,YED ((i:Int)+1) (by omega)]
           simp only[Ya]
           refine⟨⟨by decide,by decide,by decide,by decide,by simp⟩,fun k hk=>?_⟩
           split
           . rename_i hki
             subst hki
             rw[YqL hne]
             exact Ybr _
           . rename_i hki
             rw[YlW hki]
             exact Ybr _
         . have hR:YaX T (i+1)=YaX T i:=by rw[YaX,if_pos heq]
           rw[hR,YED ((i:Int)+1) (by omega)]
           simp only[Ya]
           refine⟨⟨by decide,by decide,by decide,by decide,by simp⟩,fun k hk=>?_⟩
           rw[YvT heq]
           exact⟨rfl,rfl,rfl,rfl,rfl,rfl,rfl⟩
       . obtain rfl:i=12:=by omega
         simp only[YqM]
         dsimp only[encR,go_sem,reduceIte,YEx]
         simp only[Yd,YEx,YEz,reduceCtorEq,YEy]
         exact⟨⟨by omega,by omega⟩,by omega,by decide,Yp2 (L:=YbK T) h⟩
   . have hC:YeG T=(ofRF 531441 524288).1:=if_neg (by rw[hs];decide)
     obtain⟨C,hCe⟩:∃C,C=(ofRF 531441 524288).1:=⟨_,rfl⟩
     rw[<-hCe]at hC⊢
     clear hCe hs
     refine Loop.keep [0,1,0,0,0,14] Nat (fun i=>[(21,.int .i64 i)]) (fun i=>[(2,.own false 7 12 (fun k=>encR (fifL T i k))),(3,.box (encR (YaX T i)))]) [] (fun i=>i<=12) (fun i=>12-i) ?_ ?_
     . refine⟨0,by omega,?_⟩
       dsimp only[encR,go_sem,reduceIte,YEx]
       simp only[Ya]
       refine⟨⟨by decide,by decide,by decide,by decide,rfl⟩,fun k hk=>?_,rfl,rfl,rfl,rfl,rfl,rfl,rfl⟩
       rw[Ys1 hk,YvU]
       exact Ybr YaN
     . rintro i hi
       dsimp only[Ybc,YbC,YbG,YbE,YbF,YbD,wholeC,mc1,mcm,m2C,powRC,folC,encR,YEB,go_sem,reduceIte,YEx]
       simp only[Yd,YEx,YEz,reduceCtorEq,YEy]
       refine⟨fun hlt=>?_,fun hge=>?_⟩
       . have hi12:i<12:=by omega
         have e:=Yi9 T.p hi12
         simp only[encP]at e
         rw[e]
         dsimp only[Ybc,YbC,YbG,YbE,YbF,YbD,wholeC,mc1,mcm,m2C,powRC,folC,encR,YEB,go_sem,reduceIte,YEx]
         simp only[Yd,YEx,YEz,reduceCtorEq,YEy]
         have hF:(Ya6 (ofRF 3 2).1 (pwrF C (T.p i).1 (T.p i).2).1 (-1)).1=fifR T i:=by rw[fifR,hC]
         simp only[if_true,Ybc,hF]
         dsimp only[Ybc,YbC,YbG,YbE,YbF,YbD,wholeC,mc1,mcm,m2C,powRC,folC,encR,YEB,go_sem,reduceIte,YEx]
         simp only[Yd,YEx,YEz,reduceCtorEq,YEy]
         refine⟨⟨by omega,by omega⟩,fun hne=>⟨by decide,by decide,⟨by omega,by omega⟩,hi12,⟨by omega,by omega⟩,hi12,i+1,by omega,by omega,?_⟩,fun heq=>⟨i+1,by omega,by omega,?_⟩⟩
         . have hR:YaX T (i+1)=(Ya6 (YaX T i) (fifR T i) (-1)).1:=by rw[YaX,if_neg hne]
           rw[hR,YED ((i:Int)+1) (by omega)]
           simp only[Ya]
           refine⟨⟨by decide,by decide,by decide,by decide,by simp⟩,fun k hk=>?_⟩
           split
           . rename_i hki
             subst hki
             rw[YqL hne]
             exact Ybr _
           . rename_i hki
             rw[YlW hki]
             exact Ybr _
         . have hR:YaX T (i+1)=YaX T i:=by rw[YaX,if_pos heq]
           rw[hR,YED ((i:Int)+1) (by omega)]
           simp only[Ya]
           refine⟨⟨by decide,by decide,by decide,by decide,by simp⟩,fun k hk=>?_⟩
           rw[YvT heq]
           exact⟨rfl,rfl,rfl,rfl,rfl,rfl,rfl⟩
       . obtain rfl:i=12:=by omega
         simp only[YqM]
         dsimp only[encR,go_sem,reduceIte,YEx]
         simp only[Yd,YEx,YEz,reduceCtorEq,YEy]
         exact⟨⟨by omega,by omega⟩,by omega,by decide,Yp2 (L:=YbK T) h⟩
 . exact h.1.elim
theorem Yss(n:Nat)(L:Nat->Rt):Yb0 n (Yc4 L)=Yc4 L:=rfl
theorem Yri{a b:Nat}(L:Nat->Rt):leL a b (Yc4 L) (Yc4 L):=Ye _ (YkE L _)
def Ysq(L:Nat->Rt)(i:Nat)(r:Rt):Nat->Rt:=fun k=>if k=i then r else L k
def notL(T:Tm):Nat->(Nat->Rt)×Rt
 |0=>(fun _=>YaN,(ofRF 1 1).1)
 |i+1=>(Ysq (notL T i).1 (7*i%12) (Yc6 (notL T i).2).1,(Ya6 (notL T i).2 (YbK T i) 1).1)
def Yj(T:Tm):Nat->Rt:=(notL T 12).1
def notC:Ctr:={ alias:=false,of:=fun l=>match l with
 | [.xp _ cs]=> .ex Tm fun T=> .pre (cs=encT T/\Y4 T=0) (.fin (.agg (Yc4 (Yj T))) [])
 |_=>noC}
def TH1:Env:={ ct:=fun n=>match n with|126=>some wholeC|129=>some mc1|128=>some folC|127=>some fifC|_=>none,fn:=fun _=>none,meth:=fun _ _=>none}
theorem Ygr:TH1.ct 126=some wholeC:=rfl
theorem Ygu:TH1.ct 129=some mc1:=rfl
theorem Ygt:TH1.ct 128=some folC:=rfl
theorem Ygs:TH1.ct 127=some fifC:=rfl
theorem YAK:Ys YEC TH1:=by
 refine⟨fun f c h=>?_,fun f vf h=>?_,(fun _ _ _ h=>by cases h),by kernel_rfl,(fun _ h=>by cases h)⟩
 . simp only[TH1]at h
   split at h
   . cases h;exact⟨YsU,Tryz.f126,Tryz.func126,by kernel_rfl,by kernel_rfl⟩
   . cases h;exact⟨YDH,Tryz.f129,Tryz.func129,by kernel_rfl,by kernel_rfl⟩
   . cases h;exact⟨YBF,Tryz.f128,Tryz.func128,by kernel_rfl,by kernel_rfl⟩
   . cases h;exact⟨fif_c,Tryz.f127,Tryz.func127,by kernel_rfl,by kernel_rfl⟩
   . cases h
 . cases h
theorem not_c:notC.ok YEC 108:=by
 refine Yc Tryz.func108 Yzn YAK 300 notC fun args k h=>?_
 simp only[notC]at h
 split at h
 . rename_i tt cs
   obtain⟨T,⟨rfl,hT⟩,h⟩:=h
   refine⟨[.xp tt (encT T)],by simp only[Ya],?_⟩
   dsimp only[v108,encR,Ybc,Ygr,Ygu,Ygt,Ygs,wholeC,mc1,mcm,m2C,folC,fifC,go_sem,reduceIte,YEx]
   simp only[Yd,YEx,YEz,reduceCtorEq,YEy]
   refine⟨T,⟨rfl,hT⟩,?_⟩
   refine Loop.keep [2,0,0,4] Nat (fun i=>[(10,.int .i64 i)]) (fun i=>[(1,.own false 7 12 (fun k=>encR ((notL T i).1 k))),(2,.box (encR (notL T i).2))]) [] (fun i=>i<=12) (fun i=>12-i) ?_ ?_
   . refine⟨0,by omega,?_⟩
     dsimp only[encR,Yc4,go_sem,reduceIte,YEx]
     simp only[Ya]
     refine⟨⟨by decide,by decide,by decide,rfl⟩,fun k hk=>?_,rfl,rfl,rfl,rfl,rfl,rfl,rfl⟩
     rw[Ys1 hk]
     exact Ybr YaN
   . rintro i hi
     dsimp only[encR,YEB,Ybc,Ygr,Ygu,Ygt,Ygs,wholeC,mc1,mcm,m2C,folC,fifC,go_sem,reduceIte,YEx]
     simp only[Yd,YEx,YEz,reduceCtorEq,YEy]
     refine⟨fun hlt=>?_,fun hge=>?_⟩
     . have hi12:i<12:=by omega
       have e7:(IntKind.i64.wrap (7*(i:Int))).tmod 12=((7*i%12:Nat):Int):=by
         rw[YED _ (by omega),Int.tmod_eq_emod_of_nonneg (by omega)];omega
       simp only[Yss,YkF (YbK T) hi12,e7,YEB]
       dsimp only[encR,YEB,Ybc,Ygr,Ygu,Ygt,Ygs,wholeC,mc1,mcm,m2C,folC,fifC,go_sem,reduceIte,YEx]
       simp only[Yd,YEx,YEz,reduceCtorEq,YEy]
       have hS:notL T (i+1)=(Ysq (notL T i).1 (7*i%12) (Yc6 (notL T i).2).1,(Ya6 (notL T i).2 (YbK T i) 1).1):=rfl
       refine⟨⟨by omega,by omega,rfl⟩,by decide,⟨by omega,by omega⟩,by omega,i+1,by omega,by omega,?_⟩
       rw[hS,YED ((i:Int)+1) (by omega)]
       simp only[Ya]
       refine⟨⟨by decide,by decide,by decide,Yri _,by simp⟩,fun k hk=>?_⟩
       unfold Ysq
       split
       . exact Ybr _
       . exact Ybr _
     . obtain rfl:i=12:=by omega
       exact⟨by decide,Yp2 (L:=Yj T) h⟩
 . exact h.1.elim
theorem YaO(T:Tm):ones (encT T):=by simp [encT,encP,ones,one];rfl
theorem Yyq(L:Nat->Rt):ones (Yc4 L):=by simp [Yc4,encR,ones,one]
theorem YBb{k:SV->List HO->Prop}{al:Bool}{hp:List HO}{e:Int}(h:k (.tup [.nil,.int .i64 e]) []):YO al k (.tup [.nil,.int .i64 e]) hp:=
 YI h (YV (.tup [.nil,.int .i64 e]) ⟨trivial,trivial,trivial⟩) (fun _=>by simp [Ym,Yo])
theorem YwP{k:SV->List HO->Prop}{x:HO}{e:Int}{L:Nat->Rt}(h:k (.tup [.vs true false 12 7 (fun k=>encR (L k)),.int .i64 e]) []):YO false k (.tup [.own 1 0 12 7,.int .i64 e]) [x,.own false 7 12 (Ya4 7 (Yb0 1 (Yc4 L)))]:=by
 refine YI h ?_ (fun _=>by simp [Ym,Yo,encR])
 dsimp only[expo,go_sem,reduceIte,YEx]
 simp only[Ya]
 intro q hq
 rw[Yss,YkF L hq]
 exact Yb _
def NotC:Ctr:={ alias:=false,of:=fun l=>match l with
 | [.agg cs]=> .ex Tm fun T=> .pre (cs=encT T/\T.nm.size<=9223372036854775807) (if Y4 T≠0 then .fin (.tup [.nil,.int .i64 (Y4 T)]) []else .fin (.tup [.vs true false 12 7 (fun k=>encR (Yj T k)),.int .i64 0]) [])
 |_=>noC}
def TH2:Env:={ ct:=fun n=>match n with|107=>some chkTmC|108=>some notC|_=>none,fn:=fun _=>none,meth:=fun _ _=>none}
theorem YpE:TH2.ct 107=some chkTmC:=rfl
theorem YpF:TH2.ct 108=some notC:=rfl
theorem YAL:Ys YEC TH2:=by
 refine⟨fun f c h=>?_,fun f vf h=>?_,(fun _ _ _ h=>by cases h),by kernel_rfl,(fun _ h=>by cases h)⟩
 . simp only[TH2]at h
   split at h
   . cases h;exact⟨Yxa,Tryz.f107,Tryz.func107,by kernel_rfl,by kernel_rfl⟩
   . cases h;exact⟨not_c,Tryz.f108,Tryz.func108,by kernel_rfl,by kernel_rfl⟩
   . cases h
 . cases h
theorem YwI:NotC.ok YEC 87:=by
 refine Yc Tryz.func87 YEk YAL 300 NotC fun args k h=>?_
 simp only[NotC]at h
 split at h
 . rename_i cs
   obtain⟨T,⟨rfl,hnm⟩,h⟩:=h
   refine⟨[.agg (encT T)],⟨Ye _ (YK T _),trivial⟩,?_⟩
   dsimp only[v87,YpE,YpF,chkTmC,notC,go_sem,reduceIte,YEx]
   simp only[Yd,YEx,YEz,reduceCtorEq,YEy]
   refine⟨YaO T,YEK 27,T,⟨rfl,hnm⟩,fun hc=>?_,fun hc=>⟨T,⟨rfl,hc⟩,⟨rfl,Yyq _,by decide⟩,?_⟩⟩
   . rw[if_pos hc]at h
     exact YBb (show k _ []from h)
   . rw[if_neg (by rw[hc];decide)]at h
     exact YwP (show k _ []from h)
 . exact h.1.elim
end Go.Proofs.YtfjodiojchknmaaGreatDoor
