/- Pitches, walked: terms of a note, its frequency. -/
import Derived.Test.YtfjodiojchknmaaGreatDoorMgX39h
import Derived.Test.YtfjodiojchknmaaGreatDoorMgX39e
import Derived.Test.YtfjodiojchknmaaGreatDoorMgX39d
open Bool renaming and_eq_true->YG2,false_eq_true->YHm,not_and->YH4,not_eq_false'->YHA,not_eq_true'->YHn,or_eq_false_iff->YHq,or_eq_true->YHB
open Int renaming eq_ofNat_of_zero_le->YHL,le_refl->YHS,mul_comm->YH9,mul_le_mul_of_nonneg_left->YHb,mul_le_mul_of_nonneg_right->YHj,mul_nonneg->YG7,natCast_mul->YHZ,toNat_natCast->YG0,toNat_of_nonneg->YHs
open Go.IntWalk renaming i64_in->YGZ,u64_in->YHt
open List renaming foldl_cons->YH5,getD_eq_getElem?_getD->YG9,length_append->YHW,length_cons->YH1,map_cons->YHv,mem_append->YHz,mem_cons->YHx,mem_map->YIa,mem_singleton->YHF
open Nat renaming add_mul->YHr,div_add_mod->YHH,div_lt_iff_lt_mul->YHD,eq_zero_or_pos->YHR,gcd->YH6,le_div_iff_mul_le->YHI,le_of_eq->YH2,le_of_mul_le_mul_right->YHp,le_refl->YG8,le_trans->YHc,lt_of_le_of_lt->YHG,lt_of_lt_of_le->YHM,lt_or_ge->YHE,mod_lt->YHT,mul_add->YH7,mul_assoc->YG6,mul_comm->YG4,mul_le_mul->YHi,mul_le_mul_left->YG5,mul_le_mul_right->YG3,mul_left_comm->YHw,mul_one->YH8,mul_pos->YHX,mul_pow->YHy,one_mul->YHN,pow_add->YHa,pow_le_pow_left->YHe,pow_le_pow_right->YHl,pow_mul->YHf,pow_pos->YHO,pow_succ->YHo,reduceAdd->YGU,reduceEqDiff->YGV,reduceLeDiff->YGW,zero_add->YH0
open Go.Proofs.Tryz renaming prog->YGY
set_option linter.all false
namespace Go.Proofs.YtfjodiojchknmaaGreatDoor
open Go Go.Vx
set_option maxRecDepth 100000
set_option maxHeartbeats 4000000
def v53:VF:=⟨23,[.tmp 2],(ZR [u1 1 .box [.tm 0],Zi 2 0] (.seq (ZR [Za 3 0 1,Zf 4 1 3,Zq 5 .lss 4 100000,Zm 6 5,Zj 7 6 false 0 1,Zh 8 6 false 1 7,u2 9 6 false (.cmp .gtr) [.tm 8,.cn (.int .i64 1000000)],u1 10 .or [.tm 6,.tm 9],Zm 11 10,Zj 12 11 false 1 1,Zh 13 11 false 1 12,u2 14 11 false (.call 55) [.tm 13],u2 15 11 false .not [.tm 14],u1 16 .or [.tm 11,.tm 15],Zm 17 16,Zj 18 17 false 2 1,Zh 19 17 false 1 18,u2 20 17 false (.call 55) [.tm 19],u2 21 17 false .not [.tm 20],u1 22 .or [.tm 17,.tm 21]] (ZC 22 (ZR [Zi 2 2] .ret) .skip)) (ZR [Zi 2 0] .ret)))⟩
theorem YGf:Yf YGY Tryz.f53=some v53:=by kernel_rfl
def v49:VF:=⟨77,[.tmp 4,.tmp 5],(ZR [u1 4 .mov [.cn .nil],Zi 5 0] (.seq (.draw [(6,.box [(.int .i64 0),(.int .i64 0),(.int .i64 0),(.int .i64 0),(.int .i64 0),(.int .i64 0),(.int .i64 0)])] [Zu 13 0,w1 14 .nilCheck [.tm 13],Zy 15 3 14,Zv 16 1 15,Zu 17 1,w1 18 .rem [.tm 17,.cn (.int .i64 12)],ZX 19 7 16 18,Zw 20 7 19,Zu 21 0,w1 22 .nilCheck [.tm 21],Zy 23 3 22,Zv 24 1 23,w1 25 (.idxAddr 7) [.tm 24,.cn (.int .i64 9)],Zw 26 7 25,Zz 27 79 20 26,Zu 12 27,ZE 28 0 12,ZE 29 1 12,ZS 7 6 28,Zu 7 29]) (ZR [Zt 31 7 6,Zc 32 80 31,Zm 30 32,Ze 33 0 30,Ze 34 1 30,Ze 35 2 30,Zm 8 33,Zm 9 34,Zm 10 35] (.seq (ZR [Zm 36 8,Zl 37 36,Zi 38 0] (.block 0 (.loop (ZR [Zr 39 .lss 38 37] (.seq (ZC 39 .skip (.exit 0)) (.seq (.block 1 (ZR [Zm 40 38,Zm 11 40] (.region [Zm 41 8,Zm 42 11,Zx 43 2 41 42,Za 44 1 43,Zf 45 1 44,u1 46 (.ari .mul) [.tm 45,.cn (.int .i64 2)],Zx 47 2 41 42,Za 48 1 47,Zs 1 48 46]))) (.region [Zp 49 38 1,Zm 38 49]))))))) (.seq (.draw [] [Zu 50 8,Zu 51 9,w1 52 (.ari .mul) [.cn (.int .i64 2),.tm 51],Zu 53 1,w1 54 .quo [.tm 53,.cn (.int .i64 12)],w1 55 (.ari .sub) [.tm 54,.cn (.int .i64 5)],w1 56 (.ari .mul) [.tm 52,.tm 55],w1 57 (.build [(.int .i64 0),(.int .i64 0)] [(0,1),(1,1)]) [.cn (.int .i64 2),.tm 56],Zu 58 0,w1 59 .nilCheck [.tm 58],Zy 60 0 59,Zy 61 2 60,Zv 62 1 61,Zu 63 9,Zu 65 0,w1 66 .nilCheck [.tm 65],Zy 67 0 66,Zy 68 1 67,Zv 69 1 68,Zu 70 9,w1 71 .neg [.tm 70],Zu 75 9,w1 76 (.ari .mul) [.cn (.int .i64 2),.tm 75],Zz 64 52 62 63,Zz 72 52 69 71,w1 73 (.buildSlice 2 3 [(.int .i64 0),(.int .i64 0)] [(0,2),(2,2),(4,2)]) [.tm 57,.tm 64,.tm 72],⟨u1 74 (.append 2 16 [(.int .i64 0),(.int .i64 0)]) [.tm 50,.tm 73],[.tm 9,.tm 75,.tm 75,.tm 76]⟩,Zu 4 74,Zu 5 76]) .ret)))))⟩
theorem YGd:Yf YGY Tryz.f49=some v49:=by kernel_rfl
def chkS(a t0 t:Int):Int:=if a<100000\/1000000<a\/Yam t0=false\/Yam t=false then 2 else 0
def chkSC:Ctr:={ alias:=false,of:=fun l=>match l with
 | [.agg [.int .i64 a,.int .i64 t0,.int .i64 t]]=> .fin (.int .i64 (chkS a t0 t)) []
 |_=>noC}
def dblT(x:Int×Int):Int×Int:=(x.1,x.2*2)
def Yd1(L:Nat->Rt)(note:Int):Rt:=(Ybq (L (note%12).toNat) (L 9) (-1)).1
def trmL(r:Rt):List (Int×Int):=if chkR r=0 then Yg r else []
def trmD(r:Rt):Int:=if chkR r=0 then r.n else 0
def Yfb(L:Nat->Rt)(t0 t note:Int):List (Int×Int)×Int:=
 ((trmL (Yd1 L note)).map dblT++[(2,2*trmD (Yd1 L note)*(note/12-5)),(273150+t,trmD (Yd1 L note)),(273150+t0, -trmD (Yd1 L note))],2*trmD (Yd1 L note))
def dblA(l:List (Int×Int))(i k:Nat):Int×Int:=if k<i then dblT (l.getD k default)else l.getD k default
theorem Yjb{r:Rt}(h:chkR r=0):∀x,x∈Yg r-> -100000<=x.2/\x.2<=100000:=by
 obtain⟨_,h1,h2,h3,h4,h5,h6,_⟩:=Yhr h
 have key:∀(p n:Int),badN n=false->∀x,x∈tm1 p n-> -100000<=x.2/\x.2<=100000:=fun p n hn x hx=>by
   unfold tm1 at hx
   split at hx
   . cases hx
   . rw[YHF]at hx;subst hx;exact YdG hn
 intro x hx
 simp only[Yg,YHz]at hx
 rcases hx with hx|hx|hx|hx|hx|hx
 . exact key _ _ h1 x hx
 . exact key _ _ h2 x hx
 . exact key _ _ h3 x hx
 . exact key _ _ h4 x hx
 . exact key _ _ h5 x hx
 . exact key _ _ h6 x hx
theorem Yxs{a b c d e f:Int}{k:Nat}(hk:k<3):lenL (YC 2 (Yu (k*2) [SV.int .i64 a,SV.int .i64 b,SV.int .i64 c,SV.int .i64 d,SV.int .i64 e,SV.int .i64 f]))=2/\ones (YC 2 (Yu (k*2) [SV.int .i64 a,SV.int .i64 b,SV.int .i64 c,SV.int .i64 d,SV.int .i64 e,SV.int .i64 f])):=by
 rcases(show k=0\/k=1\/k=2 by omega)with rfl|rfl|rfl <;> exact⟨rfl,trivial,trivial,trivial⟩
def termC:Ctr:={ alias:=false,of:=fun l=>match l with
 | [.xp _ [.int .i64 _,.int .i64 t0,.int .i64 t,.vs _ _ n sz get],.int .i64 note]=> .ex (Nat->Rt) fun L=> .pre ((n=12/\sz=7/\∀k,k<12->leXL (get k) (encR (L k)))/\(0<=note/\note<=139)/\Yam t0=true/\Yam t=true)
     (.fin (.tup [.vs true false (Yfb L t0 t note).1.length 2 (fun k=>enc2 ((Yfb L t0 t note).1.getD k default)),.int .i64 (Yfb L t0 t note).2]) [])
 |_=>noC}
def valdC:Ctr:={ alias:=false,of:=fun l=>match l with
 | [.int .i64 t]=> .fin (.bool (Yam t)) []
 |_=> .pre False (.fin (.bool false) [])}
def TIv:Env:={ ct:=fun _=>none,fn:=fun _=>none,meth:=fun _ _=>none}
theorem YwE:Yl YGY TIv:=by
 refine⟨fun f c h=>?_,fun f vf h=>?_,(fun _ _ _ h=>by cases h),by kernel_rfl,(fun _ h=>by cases h)⟩
 . cases h
 . cases h
theorem YGL:valdC.ok YGY 55:=by
 refine Yb Tryz.func55 Yxx YwE 300 valdC fun args k h=>?_
 simp only[valdC]at h
 split at h
 . rename_i t
   refine⟨[.int .i64 t],by simp [leL,le],?_⟩
   dsimp only[v55,go_sem,reduceIte,YGU]
   simp only[Yc,YGU,YGW,reduceCtorEq,YGV]
   exact Yx h
 . exact h.1.elim
def TI0:Env:={ ct:=fun n=>match n with|55=>some valdC|_=>none,fn:=fun _=>none,meth:=fun _ _=>none}
theorem Yuu:TI0.ct 55=some valdC:=rfl
theorem YCm:Yl YGY TI0:=by
 refine⟨fun f c h=>?_,fun f vf h=>?_,(fun _ _ _ h=>by cases h),by kernel_rfl,(fun _ h=>by cases h)⟩
 . simp only[TI0]at h
   split at h
   . cases h;exact⟨YGL,Tryz.f55,Tryz.func55,by kernel_rfl,by kernel_rfl⟩
   . cases h
 . cases h
theorem YC9:chkSC.ok YGY 53:=by
 refine Yb Tryz.func53 YGf YCm 300 chkSC fun args k h=>?_
 simp only[chkSC]at h
 split at h
 . rename_i a t0 t
   refine⟨[.agg [.int .i64 a,.int .i64 t0,.int .i64 t]],by simp [leL,le],?_⟩
   dsimp only[v53,Yuu,valdC,go_sem,reduceIte,YGU]
   simp only[Yc,YGU,YGW,reduceCtorEq,YGV]
   have h:k (.int .i64 (chkS a t0 t)) []:=h
   refine⟨fun hc=>?_,fun hc=>?_⟩
   . rw[chkS,if_pos (by simpa [or_assoc]using hc)]at h;exact Yi h
   . rw[chkS,if_neg (by simpa [or_assoc,and_assoc]using hc)]at h;exact Yi h
 . exact h.1.elim
def warmC:Ctr:={ alias:=false,of:=fun l=>match l with
 | [.int .i64 t,.int .i64 num]=> .pre (Yam t=true) (.fin (.agg [.int .i64 (273150+t),.int .i64 num]) [])
 |_=>noC}
theorem YeH{t:Int}(h:Yam t=true): -20000<=t/\t<=50000:=by simpa [Yam]using h
theorem YGO:warmC.ok YGY 52:=by
 refine Yb Tryz.func52 Yxw YwE 300 warmC fun args k h=>?_
 simp only[warmC]at h
 split at h
 . rename_i t num
   obtain⟨ht,h⟩:=h
   have ht:=YeH ht
   refine⟨[.int .i64 t,.int .i64 num],by simp [leL,le],?_⟩
   dsimp only[v52,go_sem,reduceIte,YGU]
   simp only[Yc,YGU,YGW,reduceCtorEq,YGV]
   rw[YGZ (273150+t) (by omega)]
   exact YfV h
 . exact h.1.elim
def TI1:Env:={ ct:=fun n=>match n with|79=>some YaZ|80=>some trmC|52=>some warmC|_=>none,fn:=fun _=>none,meth:=fun _ _=>none}
theorem Yfj:TI1.ct 79=some YaZ:=rfl
theorem Yfk:TI1.ct 80=some trmC:=rfl
theorem Yfi:TI1.ct 52=some warmC:=rfl
theorem YCn:Yl YGY TI1:=by
 refine⟨fun f c h=>?_,fun f vf h=>?_,(fun _ _ _ h=>by cases h),by kernel_rfl,(fun _ h=>by cases h)⟩
 . simp only[TI1]at h
   split at h
   . cases h;exact⟨YwL,Tryz.f79,Tryz.func79,by kernel_rfl,by kernel_rfl⟩
   . cases h;exact⟨YFI,Tryz.f80,Tryz.func80,by kernel_rfl,by kernel_rfl⟩
   . cases h;exact⟨YGO,Tryz.f52,Tryz.func52,by kernel_rfl,by kernel_rfl⟩
   . cases h
 . cases h
theorem YFE:termC.ok YGY 49:=by
 refine Yb Tryz.func49 YGd YCn 600 termC fun args k h=>?_
 simp only[termC]at h
 split at h
 . rename_i tt a t0 t tv zv n sz get note
   obtain⟨L,⟨⟨rfl,rfl,hg⟩,hn,h0,h1⟩,h⟩:=h
   refine⟨[.xp tt [.int .i64 a,.int .i64 t0,.int .i64 t,.vs tv zv 12 7 (fun k=>encR (L k))],.int .i64 note],?_,?_⟩
   . simp only[Ykg,Ym2,Yzp,Ysu,and_true,true_and]
     exact⟨id,⟨rfl,rfl⟩,⟨rfl,rfl⟩,⟨rfl,rfl⟩,⟨id,rfl,rfl,rfl,hg⟩,trivial⟩
   dsimp only[v49,Ybw,Yfj,Yfk,YaZ,YdY,trmC,encR,Yfi,warmC,go_sem,reduceIte,YGU]
   simp only[Yc,YGU,YGW,reduceCtorEq,YGV]
   obtain⟨m,rfl⟩:∃m:Nat,note=(m:Int):=⟨note.toNat,by omega⟩
   have em:(m:Int).tmod 12=((m%12:Nat):Int):=by rw[Int.tmod_eq_emod_of_nonneg (by omega)];omega
   simp only[em,YG0]
   obtain⟨r,hr⟩:∃r,r=Yd1 L m:=⟨_,rfl⟩
   have hr':(Ybq (L (m%12)) (L (Int.toNat 9)) (-1)).1=r:=by rw[hr,Yd1,show((m:Int)%12).toNat=m%12 by omega];rfl
   simp only[hr']
   refine⟨by decide,⟨by omega,by omega⟩,by decide,by decide,by decide,?_⟩
   by_cases hc:chkR r=0
   . rw[if_neg (fun hh=>hh hc)]
     dsimp only[Ybw,Yfj,Yfk,YaZ,YdY,trmC,encR,Yfi,warmC,go_sem,reduceIte,YGU]
     simp only[Yc,YGU,YGW,reduceCtorEq,YGV]
     intro z
     refine⟨by decide,by decide,by decide,?_⟩
     have hlen:=YbV r
     refine Loop.keep [0,0,2,0,2,0,27] Nat (fun i=>[(38,.int .i64 i)]) (fun i=>[(2,.own z 2 (Yg r).length (fun k=>enc2 (dblA (Yg r) i k)))]) [] (fun i=>i<=(Yg r).length) (fun i=>(Yg r).length-i) ?_ ?_
     . refine⟨0,Nat.zero_le _,?_⟩
       dsimp only[enc2,go_sem,reduceIte,YGU]
       simp only[Ya]
       refine⟨⟨by decide,rfl⟩,fun k hk=>?_⟩
       rw[dblA,if_neg (Nat.not_lt_zero _)]
       exact⟨rfl,rfl⟩
     . rintro i hi
       dsimp only[Ybw,Yfj,Yfk,YaZ,YdY,trmC,encR,Yfi,warmC,enc2,YG0,go_sem,reduceIte,YGU]
       simp only[Yc,YGU,YGW,reduceCtorEq,YGV]
       refine⟨fun hlt=>?_,fun hge=>?_⟩
       . have hil:i<(Yg r).length:=by omega
         have hx:=Yjb hc _ (YI hil)
         have ei:dblA (Yg r) i i=(Yg r).getD i default:=if_neg (Nat.lt_irrefl _)
         rw[ei,YGZ (((Yg r).getD i default).2*2) (by omega),Yif hil (by omega)]
         refine⟨⟨by omega,by omega⟩,hil,⟨by omega,by omega⟩,hil,i+1,by omega,by omega,?_⟩
         simp only[Ya]
         refine⟨by decide,fun k hk=>?_⟩
         by_cases hki:k=i
         . subst hki
           rw[if_pos rfl,dblA,if_pos (by omega)]
           exact⟨⟨rfl,rfl⟩,⟨rfl,rfl⟩,trivial⟩
         . rw[if_neg hki]
           have:dblA (Yg r) (i+1) k=dblA (Yg r) i k:=by
             unfold dblA
             by_cases h1:k<i
             . rw[if_pos h1,if_pos (by omega)]
             . rw[if_neg h1,if_neg (by omega)]
           rw[this]
           exact⟨⟨rfl,rfl⟩,⟨rfl,rfl⟩,trivial⟩
       . obtain rfl:i=(Yg r).length:=by omega
         have hd:=Ygk hc
         have e1:IntKind.i64.wrap (2*r.n)=2*r.n:=YGZ _ (by omega)
         have e2:IntKind.i64.wrap (IntKind.i64.wrap ((m:Int).tdiv 12)-5)=(m:Int)/12-5:=by
           rw[Int.tdiv_eq_ediv_of_nonneg (by omega),YGZ ((m:Int)/12) (by omega),YGZ _ (by omega)]
         have hm:=YaS (x:=2*r.n) (y:=(m:Int)/12-5) (X:=2000) (Y:=20) (by omega) (by omega)
         have e3:IntKind.i64.wrap (2*r.n*((m:Int)/12-5))=2*r.n*((m:Int)/12-5):=YGZ _ (by omega)
         have e4:IntKind.i64.wrap (0-r.n)= -r.n:=by rw[YGZ _ (by omega)];omega
         rw[e1,e2,e3,e4]
         refine⟨by decide,h1,h0,by decide,⟨by unfold Yah;omega,fun k hk=>Yxs hk⟩,?_⟩
         have hT:Yfb L t0 t m=((Yg r).map dblT++[(2,2*r.n*((m:Int)/12-5)),(273150+t,r.n),(273150+t0, -r.n)],2*r.n):=by
           rw[Yfb,<-hr,trmL,if_pos hc,trmD,if_pos hc]
         refine YD (show k _ []from h) ?_ (fun _=>by simp [Yj,Yk,enc2])
         rw[hT]
         dsimp only[expo,go_sem,reduceIte,YGU]
         simp only[Ya]
         refine⟨by simp,by simp,fun q hq=>?_⟩
         by_cases h2:q<(Yg r).length
         . simp only[if_pos h2,dblA]
           rw[Yf3 (by simpa using h2),YsN h2]
           exact Yd _
         . simp only[if_neg h2]
           rw[Yf4 (by simp;omega),List.length_map]
           rcases(show q-(Yg r).length=0\/q-(Yg r).length=1\/q-(Yg r).length=2 by omega)with e|e|e <;> (rw[e];exact Yd _)
   . rw[if_pos hc]
     dsimp only[Ybw,Yfj,Yfk,YaZ,YdY,trmC,encR,Yfi,warmC,go_sem,reduceIte,YGU]
     simp only[Yc,YGU,YGW,reduceCtorEq,YGV]
     refine⟨by decide,by decide,by decide,?_⟩
     refine Loop.keep [0,0,2,0,2,0,27] Nat (fun i=>[(38,.int .i64 i)]) (fun _=>[]) [] (fun i=>i=0) (fun i=>i) ?_ ?_
     . refine⟨0,rfl,?_⟩
       dsimp only[go_sem,reduceIte,YGU]
       simp only[Ya]
       rfl
     . rintro i rfl
       dsimp only[Ybw,Yfj,Yfk,YaZ,YdY,trmC,encR,Yfi,warmC,enc2,YG0,go_sem,reduceIte,YGU]
       simp only[Yc,YGU,YGW,reduceCtorEq,YGV]
       have e2:IntKind.i64.wrap (IntKind.i64.wrap ((m:Int).tdiv 12)-5)=(m:Int)/12-5:=by
         rw[Int.tdiv_eq_ediv_of_nonneg (by omega),YGZ ((m:Int)/12) (by omega),YGZ _ (by omega)]
       have e3:IntKind.i64.wrap (IntKind.i64.wrap (2*0)*((m:Int)/12-5))=2*0*((m:Int)/12-5):=by
         rw[show IntKind.i64.wrap (2*0)=0 by decide,Int.mul_zero,Int.zero_mul];decide
       rw[e2,e3]
       refine⟨fun hh=>absurd hh (by decide),fun _=>⟨by decide,h1,h0,by decide,⟨by unfold Yah;omega,fun k hk=>Yxs hk⟩,?_⟩⟩
       have hT:Yfb L t0 t m=([(2,2*0*((m:Int)/12-5)),(273150+t,0),(273150+t0, -0)],2*0):=by
         rw[Yfb,<-hr,trmL,if_neg hc,trmD,if_neg hc];rfl
       refine YD (show k _ []from h) ?_ (fun _=>by simp [Yj,Yk,enc2])
       rw[hT]
       dsimp only[expo,go_sem,reduceIte,YGU]
       simp only[Ya]
       refine⟨⟨by decide,rfl,fun q hq=>?_⟩,by decide⟩
       rw[show IntKind.i64.wrap (0-0)= -0 by decide]
       rcases(show q=0\/q=1\/q=2 by omega)with rfl|rfl|rfl <;> exact Yd _
 . exact h.1.elim
structure Rep (L:Int) (r:Rt) (a b c:Int):Prop where
 ok:chkR r=0
 ha:r.a*L=a*r.n
 hb:r.b*L=b*r.n
 hc:r.c*L=c*r.n
 hd:r.d=0
 he:r.e=0
 hf:r.f=0
def sm(x:Int):Prop:= -100000<=x/\x<=100000
theorem Yr0{a b g:Nat}(hg:0<g)(ha:g∣a)(hb:g∣b):(a/g).gcd (b/g)=a.gcd b/g:=Nat.gcd_div ha hb
theorem YkN{x:Int}{g:Nat}:(x.tdiv g).natAbs=x.natAbs/g:=by
 rw[Int.natAbs_tdiv,Int.natAbs_natCast];rfl
theorem Ye4{x y n L:Int}(hn:1<=n)(hnL:n<=L)(h:x*L=y*n)(hy:sm y):sm x:=by
 have h2:x.natAbs*L.natAbs=y.natAbs*n.natAbs:=by rw[<-Int.natAbs_mul,h,Int.natAbs_mul]
 have h3:x.natAbs<=y.natAbs:=by
   refine YHp (c:=L.natAbs) ?_ (by omega)
   rw[h2]
   exact YG5 _ (by omega)
 unfold sm at*
 omega
theorem Ykn{L:Int}{x:Rt}{a b c:Int}(hL:1<=L/\L<=1000)(hn:1<=x.n)(ha:x.a*L=a*x.n)(hb:x.b*L=b*x.n)(hc:x.c*L=c*x.n)
   (hd:x.d=0)(he:x.e=0)(hf:x.f=0)(sa:sm a)(sb:sm b)(sc:sm c):(Ydy x).2=0/\Rep L (Ydy x).1 a b c:=by
 obtain⟨g,hg⟩:∃g,g=gcdR x:=⟨_,rfl⟩
 have hg2:g=((x.n.toNat.gcd x.a.natAbs).gcd x.b.natAbs).gcd x.c.natAbs:=by
   rw[hg,gcdR,hd,he,hf];simp
 have dn:g∣x.n.toNat:=by rw[hg2];exact Nat.dvd_trans (Nat.gcd_dvd_left ..) (Nat.dvd_trans (Nat.gcd_dvd_left ..) (Nat.gcd_dvd_left ..))
 have da:g∣x.a.natAbs:=by rw[hg2];exact Nat.dvd_trans (Nat.gcd_dvd_left ..) (Nat.dvd_trans (Nat.gcd_dvd_left ..) (Nat.gcd_dvd_right ..))
 have db:g∣x.b.natAbs:=by rw[hg2];exact Nat.dvd_trans (Nat.gcd_dvd_left ..) (Nat.gcd_dvd_right ..)
 have dc:g∣x.c.natAbs:=by rw[hg2];exact Nat.gcd_dvd_right ..
 have g0:0<g:=Nat.pos_of_dvd_of_pos dn (by omega)
 have tn:x.n.tdiv g=((x.n.toNat/g:Nat):Int):=by
   rw[Int.tdiv_eq_ediv_of_nonneg (by omega)]
   obtain⟨m,hm⟩:∃m:Nat,x.n=m:=⟨x.n.toNat,by omega⟩
   rw[hm,YG0];rfl
 have mulg:∀{y:Int},g∣y.natAbs->y.tdiv g*g=y:=fun h=>Int.tdiv_mul_cancel (Int.dvd_natAbs.1 (Int.natCast_dvd_natCast.2 h))
 have mn:((x.n.toNat/g:Nat):Int)*g=x.n:=by
   have:=Nat.div_mul_cancel dn
   have e:((x.n.toNat/g*g:Nat):Int)=x.n:=by rw[this];omega
   rw[YHZ]at e
   exact e
 obtain⟨n',hn'⟩:∃n',n'=x.n.toNat/g:=⟨_,rfl⟩
 rw[<-hn']at tn mn
 have n1:1<=n':=by
   rcases YHR n' with h|h
   . rw[h]at mn;omega
   . exact h
 have can:∀{y v:Int},g∣y.natAbs->y*L=v*x.n->y.tdiv g*L=v*n':=fun {y v} h1 h2=>by
   refine Int.eq_of_mul_eq_mul_right (a:=g) (by omega) ?_
   rw[Int.mul_right_comm,mulg h1,Int.mul_assoc,mn,h2]
 have ca:=can da ha
 have cb:=can db hb
 have cc:=can dc hc
 have hgcd:((n'.gcd (x.a.tdiv g).natAbs).gcd (x.b.tdiv g).natAbs).gcd (x.c.tdiv g).natAbs=1:=by
   rw[YkN,YkN,YkN,hn',Yr0 g0 dn da,Yr0 g0 (Nat.dvd_gcd dn da) db,Yr0 g0 (Nat.dvd_gcd (Nat.dvd_gcd dn da) db) dc,<-hg2]
   exact Nat.div_self g0
 have hdv:n'∣L.toNat:=by
   have key:∀{y v:Int},y*L=v*n'->n'∣y.natAbs*L.toNat:=fun {y v} h=>by
     refine⟨v.natAbs,?_⟩
     have:=congrArg Int.natAbs h
     rw[Int.natAbs_mul,Int.natAbs_mul,Int.natAbs_natCast]at this
     rw[show L.toNat=L.natAbs by omega,this,YG4]
   have h1:n'∣n'*L.toNat:=Nat.dvd_mul_right ..
   have:=Nat.dvd_gcd (Nat.dvd_gcd (Nat.dvd_gcd h1 (key ca)) (key cb)) (key cc)
   rw[Nat.gcd_mul_right,Nat.gcd_mul_right,Nat.gcd_mul_right,hgcd,YHN]at this
   exact this
 have nL:n'<=L.toNat:=Nat.le_of_dvd (by omega) hdv
 have sa':=Ye4 (n:=n') (L:=L) (by omega) (by omega) ca sa
 have sb':=Ye4 (n:=n') (L:=L) (by omega) (by omega) cb sb
 have sc':=Ye4 (n:=n') (L:=L) (by omega) (by omega) cc sc
 have eD:divR x (gcdR x)=⟨x.a.tdiv g,x.b.tdiv g,x.c.tdiv g,0,0,0,n'⟩:=by
   rw[<-hg,divR,hd,he,hf,tn];simp
 have bad:∀{y:Int},sm y->badN y=false:=fun h=>by
   simp only[badN,YHq,decide_eq_false_iff_not];unfold sm at h;omega
 have hchk:chkR (divR x (gcdR x))=0:=by
   rw[eD,chkR,if_neg (by simp only;omega),if_neg,if_neg]
   . simp only[gcdR,YG0,Int.natAbs_zero,Nat.gcd_zero_right]
     rw[hgcd];decide
   . simp only[bad sa',bad sb',bad sc']
     decide
 unfold Ydy
 rw[if_pos hchk]
 refine⟨rfl,hchk,?_,?_,?_,?_,?_,?_⟩ <;> rw[eD]
 . exact ca
 . exact cb
 . exact cc
theorem Rep.n_rng{L:Int}{r:Rt}{a b c:Int}(h:Rep L r a b c):1<=r.n/\r.n<=1000:=(Yhr h.ok).1
theorem YgS{L s:Int}{x y:Rt}{a b c a' b' c':Int}(hL:1<=L/\L<=1000)(hx:Rep L x a b c)(hy:Rep L y a' b' c')(sa:sm (a+s*a'))(sb:sm (b+s*b'))(sc:sm (c+s*c')):
   (Ybq x y s).2=0/\Rep L (Ybq x y s).1 (a+s*a') (b+s*b') (c+s*c'):=by
 have nx:=hx.n_rng
 have ny:=hy.n_rng
 unfold Ybq
 rw[if_neg (by rw[hx.ok];decide),if_neg (by rw[hy.ok];decide)]
 have key:∀{u v p q:Int},u*L=p*x.n->v*L=q*y.n->(u*y.n+s*v*x.n)*L=(p+s*q)*(x.n*y.n):=fun {u v p q} h1 h2=>by
   have e1:(u*y.n+s*v*x.n)*L=(u*L)*y.n+s*(v*L)*x.n:=by grind
   rw[e1,h1,h2];grind
 refine Ykn hL ?_ (key hx.ha hy.ha) (key hx.hb hy.hb) (key hx.hc hy.hc) ?_ ?_ ?_ sa sb sc
 . have:=Int.mul_pos (show 0<x.n by omega) (show 0<y.n by omega)
   exact this
 . show x.d*y.n+s*y.d*x.n=0
   rw[hx.hd,hy.hd];simp
 . show x.e*y.n+s*y.e*x.n=0
   rw[hx.he,hy.he];simp
 . show x.f*y.n+s*y.f*x.n=0
   rw[hx.hf,hy.hf];simp
def UP(a b c:Int):Nat:=2^a.toNat*3^b.toNat*5^c.toNat
theorem Ych(a b c:Int):0<UP a b c:=YHX (YHX (YHO (by decide)) (YHO (by decide))) (YHO (by decide))
def Le0(a b c:Int):Prop:=UP a b c<=UP (-a) (-b) (-c)
theorem YnL(a b c x y z:Int):UP (a+x) (b+y) (c+z)*(UP (-a) (-b) (-c)*UP (-x) (-y) (-z))=UP (-(a+x)) (-(b+y)) (-(c+z))*(UP a b c*UP x y z):=by
 have key:∀(p:Nat)(u v:Int),p^(u+v).toNat*(p^(-u).toNat*p^(-v).toNat)=p^(-(u+v)).toNat*(p^u.toNat*p^v.toNat):=fun p u v=>by
   rw[<-YHa,<-YHa,<-YHa,<-YHa];congr 1;omega
 have k2:=key 2 a x
 have k3:=key 3 b y
 have k5:=key 5 c z
 unfold UP
 generalize 2^(a+x).toNat=a1 at*
 generalize 2^(-(a+x)).toNat=a2 at*
 generalize 2^(-a).toNat=a3 at*
 generalize 2^(-x).toNat=a4 at*
 generalize 2^a.toNat=a5 at*
 generalize 2^x.toNat=a6 at*
 generalize 3^(b+y).toNat=b1 at*
 generalize 3^(-(b+y)).toNat=b2 at*
 generalize 3^(-b).toNat=b3 at*
 generalize 3^(-y).toNat=b4 at*
 generalize 3^b.toNat=b5 at*
 generalize 3^y.toNat=b6 at*
 generalize 5^(c+z).toNat=c1 at*
 generalize 5^(-(c+z)).toNat=c2 at*
 generalize 5^(-c).toNat=c3 at*
 generalize 5^(-z).toNat=c4 at*
 generalize 5^c.toNat=c5 at*
 generalize 5^z.toNat=c6 at*
 have e1:a1*b1*c1*(a3*b3*c3*(a4*b4*c4))=(a1*(a3*a4))*(b1*(b3*b4))*(c1*(c3*c4)):=by grind
 rw[e1,k2,k3,k5];grind
theorem Ysk{a b c x y z:Int}(h1:Le0 a b c)(h2:Le0 x y z):Le0 (a+x) (b+y) (c+z):=by
 unfold Le0 at*
 have e:=YnL a b c x y z
 have p1:=Ych (-a) (-b) (-c)
 have p2:=Ych (-x) (-y) (-z)
 refine YHp (c:=UP (-a) (-b) (-c)*UP (-x) (-y) (-z)) ?_ (YHX p1 p2)
 rw[e]
 exact YG5 _ (YHi h1 h2)
theorem YnM(m:Nat)(a b c:Int):UP (m*a) (m*b) (m*c)=UP a b c^m:=by
 have key:∀(p:Nat)(u:Int),p^((m:Int)*u).toNat=(p^u.toNat)^m:=fun p u=>by
   rw[<-YHf]
   congr 1
   rcases Int.le_total 0 u with h|h
   . obtain⟨v,rfl⟩:∃v:Nat,u=v:=⟨u.toNat,by omega⟩
     rw[<-YHZ,YG0,YG0,YG4]
   . have h1:(m:Int)*u<=0:=Int.mul_nonpos_of_nonneg_of_nonpos (by omega) h
     rw[show u.toNat=0 by omega,show((m:Int)*u).toNat=0 by omega,Nat.zero_mul]
 unfold UP
 rw[key,key,key,YHy,YHy]
theorem YdW{m:Nat}(hm:1<=m){a b c:Int}:Le0 (m*a) (m*b) (m*c)↔Le0 a b c:=by
 unfold Le0
 rw[<-Int.mul_neg,<-Int.mul_neg,<-Int.mul_neg,YnM,YnM]
 exact Nat.pow_le_pow_iff_left (by omega)
theorem Yfy{a b c:Int}(h:Le0 a b c):15*a<=24*(b.natAbs:Int)+35*(c.natAbs:Int):=by
 rcases Int.le_total a 0 with h0|h0
 . omega
 . unfold Le0 UP at h
   rw[show(-a).toNat=0 by omega,Nat.pow_zero,YHN]at h
   have h1:2^a.toNat<=3^(-b).toNat*5^(-c).toNat:=by
     refine YHc ?_ h
     rw[YG6]
     exact Nat.le_mul_of_pos_right _ (YHX (YHO (by decide)) (YHO (by decide)))
   have h2:=YHe h1 15
   rw[YHy,<-YHf,<-YHf,<-YHf,YG4 _ 15,YG4 _ 15,YG4 _ 15,YHf 3,YHf 5]at h2
   have h3:(3^15)^(-b).toNat<=(2^24)^(-b).toNat:=YHe (by decide) _
   have h5:(5^15)^(-c).toNat<=(2^35)^(-c).toNat:=YHe (by decide) _
   have h6:=YHc h2 (YHi h3 h5)
   rw[<-YHf,<-YHf,<-YHa]at h6
   have:=LB.pow_of_le h6
   omega
theorem YtU(p:Nat)(n:Int):upP (tm1 (p:Int) n)=p^n.toNat/\dnP (tm1 (p:Int) n)=p^(-n).toNat:=by
 unfold tm1
 split
 . rename_i h
   rw[h]
   simp [upP,dnP]
 . by_cases c:n<0
   . simp only[upP,dnP,if_pos c,YG0,YH8]
     exact⟨by rw[show n.toNat=0 by omega,Nat.pow_zero],trivial⟩
   . simp only[upP,dnP,if_neg c,YG0,YH8]
     exact⟨trivial,by rw[show(-n).toNat=0 by omega,Nat.pow_zero]⟩
theorem Ymz{L:Int}{r:Rt}{a b c:Int}(h:Rep L r a b c):upP (Yg r)=UP r.a r.b r.c/\dnP (Yg r)=UP (-r.a) (-r.b) (-r.c):=by
 have z:∀p:Int,tm1 p 0=[]:=fun p=>rfl
 unfold Yg
 rw[h.hd,h.he,h.hf,z,z,z]
 simp only[List.append_nil]
 rw[(Ya5 _ _).1,(Ya5 _ _).1,(Ya5 _ _).2,(Ya5 _ _).2]
 have t2:=YtU 2 r.a
 have t3:=YtU 3 r.b
 have t5:=YtU 5 r.c
 unfold UP
 rw[<-t2.1,<-t2.2,<-t3.1,<-t3.2,<-t5.1,<-t5.2]
 exact⟨(YG6 ..).symm,(YG6 ..).symm⟩
theorem YtV(w:Nat->Nat)(p:Nat)(n:Int):upS w (tm1 (p:Int) n)+dnS w (tm1 (p:Int) n)=w p*n.natAbs:=by
 unfold tm1
 split
 . rename_i h
   rw[h]
   simp [upS,dnS]
 . by_cases c:n<0
   . simp only[upS,dnS,if_pos c,YG0]
     rw[show(-n).toNat=n.natAbs by omega];omega
   . simp only[upS,dnS,if_neg c,YG0]
     rw[show n.toNat=n.natAbs by omega];omega
theorem wP_2:wP 2=0:=rfl
theorem wP_3:wP 3=1:=rfl
theorem wP_5:wP 5=1:=rfl
theorem Yjd{L:Int}{r:Rt}{a b c:Int}(h:Rep L r a b c):upS wP (Yg r)+dnS wP (Yg r)<=200000:=by
 have z:∀p:Int,tm1 p 0=[]:=fun p=>rfl
 unfold Yg
 rw[h.hd,h.he,h.hf,z,z,z]
 simp only[List.append_nil]
 rw[(Yaz wP _ _).1,(Yaz wP _ _).1,(Yaz wP _ _).2,(Yaz wP _ _).2]
 have t2:=YtV wP 2 r.a
 have t3:=YtV wP 3 r.b
 have t5:=YtV wP 5 r.c
 rw[wP_2]at t2
 rw[wP_3]at t3
 rw[wP_5]at t5
 obtain⟨_,b1,b2,b3,_⟩:=Yhr h.ok
 have b2:=YdG b2
 have b3:=YdG b3
 have e2:((2:Nat):Int)=2:=rfl
 have e3:((3:Nat):Int)=3:=rfl
 have e5:((5:Nat):Int)=5:=rfl
 rw[e2]at t2
 rw[e3]at t3
 rw[e5]at t5
 omega
theorem YAA{l:List (Int×Int)}(hl:∀x,x∈l->okU x)(hn:l.length<=20)(h:0<=YdA l):dnP l^QJ<=upP l^QJ*2^(upS wP l+dnS wP l):=by
 have h2:=(Yng hl hn).1 h
 by_cases c:dnP l<=upP l
 . exact YHc (YHe c _) (Nat.le_mul_of_pos_right _ (YH _))
 . have hu:Und l 2048:=by
     refine⟨Nat.le_of_not_lt fun hh=>?_,h2⟩
     obtain⟨⟨a1,a2⟩,b1,b2⟩:=YaO (K:=KB) (g:=loN) (h:=hiN) (fun n k1 k2=>Ydk k1 k2) _ hl
     have:=Yap b2 a1 hh
     omega
   have:=Ypd (J:=100) (w:=wP) (by decide) hl (fun x hx=>YxA (Ydl (hl x hx)).1 (Yw9 (hl x hx))) hu
   rw[<-Yjg]at this
   exact this
theorem YFu{l:List (Int×Int)}(hl:∀x,x∈l->okU x)(hn:l.length<=20)(h:¬0<=YdA l):upP l<dnP l:=by
 obtain⟨⟨a1,a2⟩,b1,b2⟩:=YaO (K:=KB) (g:=loN) (h:=hiN) (fun n k1 k2=>Ydk k1 k2) _ hl
 exact Yap a2 b1 (Nat.lt_of_not_le fun hh=>h ((Yng hl hn).2 hh))
theorem Rep.cast{L:Int}{r:Rt}{a b c a' b' c':Int}(h:Rep L r a b c)(ea:a=a')(eb:b=b')(ec:c=c'):Rep L r a' b' c':=by
 subst ea eb ec;exact h
theorem Yfz{a b c a' b' c':Int}(h:Le0 a b c)(ea:a=a')(eb:b=b')(ec:c=c'):Le0 a' b' c':=by
 subst ea eb ec;exact h
theorem UP_2(n:Nat):UP n 0 0=2^n/\UP (-(n:Int)) 0 0=1:=by
 unfold UP
 rw[show(-(n:Int)).toNat=0 by omega]
 simp
theorem Ysl{x y z:Int}{n:Nat}(h:UP (-x) (-y) (-z)<=UP x y z*2^n):Le0 (-x+ -(n:Int)) (-y) (-z):=by
 have e:=YnL (-x) (-y) (-z) (-(n:Int)) 0 0
 rw[Int.neg_neg,Int.neg_neg,Int.neg_neg,Int.neg_neg,Int.neg_zero,Int.add_zero,Int.add_zero,(UP_2 n).1,(UP_2 n).2,YH8]at e
 unfold Le0
 refine YHp (c:=UP x y z*2^n) ?_ (YHX (Ych _ _ _) (YH n))
 rw[e]
 exact YG5 _ h
theorem Ymy(l:List (Int×Int))(e:Int):upP (l++[(2,e)])=upP l*UP e 0 0/\dnP (l++[(2,e)])=dnP l*UP (-e) 0 0:=by
 rw[(Ya5 _ _).1,(Ya5 _ _).2]
 have h:upP [(2,e)]=UP e 0 0/\dnP [(2,e)]=UP (-e) 0 0:=by
   unfold UP
   by_cases c:e<0
   . simp only[upP,dnP,if_pos c]
     rw[show e.toNat=0 by omega]
     simp
   . simp only[upP,dnP,if_neg c]
     rw[show(-e).toNat=0 by omega]
     simp
 rw[h.1,h.2]
 exact⟨rfl,rfl⟩
theorem YkO{r:Rt}(h:chkR r=0):∀x,x∈Yg r->2<=x.1/\x.1<=13/\ -100000<=x.2/\x.2<=100000:=by
 intro x hx
 have h2:=Yjb h x hx
 have key:∀(p n:Int),x∈tm1 p n->x.1=p:=fun p n hx=>by
   unfold tm1 at hx
   split at hx
   . cases hx
   . rw[YHF]at hx;rw[hx]
 simp only[Yg,YHz]at hx
 rcases hx with hx|hx|hx|hx|hx|hx
 all_goals (have:=key _ _ hx;omega)
theorem YtQ{r:Rt}(h:chkR r=0):YeM (Yg r)=0:=by
 unfold YeM
 have:=YbV r
 rw[if_neg (by omega),if_neg]
 rw[List.any_eq_true]
 rintro⟨x,hx,ho⟩
 have:=YkO h x hx
 simp only[okT0,YHB,decide_eq_true_eq]at ho
 omega
theorem scl_1(l:List (Int×Int)):l.map (sclT 1)=l:=by
 have:sclT 1=id:=by funext x;unfold sclT;simp
 rw[this,List.map_id]
theorem Yvq{L:Int}{r:Rt}{a b c:Int}(hL:1<=L/\L<=1000)(h:Rep L r a b c)(sa:sm a)(sb:sm b)(sc:sm c)(hz:24*(b.natAbs:Int)+35*(c.natAbs:Int)<=15*(100000-L)):
   ∃k:Int,(YdP r).2.2=0/\Rep L (YdP r).1 (a-k*L) b c/\Le0 (a-k*L-L) b c/\Le0 (8* -(a-k*L)-L) (8* -b) (8* -c):=by
 have hn:=h.n_rng
 obtain⟨tu,td⟩:=Ymz h
 have tw:=Yjd h
 have hlen:=YbV r
 obtain⟨n,hnn⟩:∃n:Nat,r.n=n:=⟨r.n.toNat,by omega⟩
 obtain⟨M,hM⟩:∃M:Nat,L=M:=⟨L.toNat,by omega⟩
 --what the sign says
 have okl:∀m:Int, -1000000000000<=m->m<=1000000000001->∀x,x∈atG (Yg r) r.n m->okU x:=fun m m1 m2 x hx=>by
   rw[atG,YHz,YHF]at hx
   rcases hx with hx|rfl
   . have:=YkO h.ok x hx
     unfold okU;omega
   . have:=YaS (x:= -m) (y:=r.n) (X:=1000000000001) (Y:=1000) (by omega) (by omega)
     unfold okU;simp only;omega
 have lenl:∀m:Int,(atG (Yg r) r.n m).length<=20:=fun m=>by rw[atG,YHW];simp;omega
 have idn:∀e:Int,UP (r.a+e) r.b r.c*(dnP (Yg r++[(2,e)]))=UP (-(r.a+e)) (-r.b) (-r.c)*upP (Yg r++[(2,e)]):=fun e=>by
   have:=YnL r.a r.b r.c e 0 0
   rw[Int.add_zero,Int.add_zero,Int.neg_zero]at this
   rw[(Ymy _ _).1,(Ymy _ _).2,tu,td]
   exact this
 have pos:∀e:Int,0<upP (Yg r++[(2,e)])/\0<dnP (Yg r++[(2,e)]):=fun e=>by
   rw[(Ymy _ _).1,(Ymy _ _).2,tu,td]
   exact⟨YHX (Ych _ _ _) (Ych _ _ _),YHX (Ych _ _ _) (Ych _ _ _)⟩
 have scale:∀m x:Int,x*L=(a-m*L)*r.n->∀{y z:Int},y*L=b*r.n->z*L=c*r.n->(Le0 x y z->Le0 (a-m*L) b c):=fun m x hx y z hy hz h0=>by
   have h1:=(YdW (m:=M) (by omega)).2 h0
   rw[<-hM,YH9 L x,YH9 L y,YH9 L z,hx,hy,hz,YH9 _ r.n,YH9 _ r.n,YH9 _ r.n,hnn]at h1
   exact(YdW (m:=n) (by omega)).1 h1
 have neg:∀m:Int, -1000000000000<=m->m<=1000000000001->isG (Yg r) r.n m=false->Le0 (a-m*L) b c:=fun m m1 m2 hm=>by
   rw[isG,decide_eq_false_iff_not]at hm
   have h1:=YFu (okl m m1 m2) (lenl m) hm
   refine scale m (r.a+ -m*r.n) ?_ h.hb h.hc ?_
   . have:=h.ha;grind
   . unfold Le0
     have e:=idn (-m*r.n)
     have p:=pos (-m*r.n)
     refine YHp (c:=upP (Yg r++[(2, -m*r.n)])) ?_ p.1
     rw[<-e]
     exact YG5 _ (Nat.le_of_lt h1)
 have posi:∀m:Int, -1000000000000<=m->m<=1000000000001->isG (Yg r) r.n m=true->Le0 (8* -(a-m*L)-L) (8* -b) (8* -c):=fun m m1 m2 hm=>by
   rw[isG,decide_eq_true_eq]at hm
   have h1:=YAA (okl m m1 m2) (lenl m) hm
   have hE:upS wP (atG (Yg r) r.n m)+dnS wP (atG (Yg r) r.n m)<=200000:=by
     rw[atG,(Yaz wP _ _).1,(Yaz wP _ _).2]
     have:upS wP [(2, -m*r.n)]+dnS wP [(2, -m*r.n)]=0:=by
       unfold upS dnS upS dnS
       have:wP (2:Int).toNat=0:=rfl
       simp only[this,Nat.zero_mul,ite_self]
     omega
   have e:=idn (-m*r.n)
   have p:=pos (-m*r.n)
   have hu:upP (atG (Yg r) r.n m)=upP (Yg r++[(2, -m*r.n)]):=rfl
   have hd:dnP (atG (Yg r) r.n m)=dnP (Yg r++[(2, -m*r.n)]):=rfl
   rw[hu,hd]at h1
   have h2:UP (-(8*(r.a+ -m*r.n))) (-(8*r.b)) (-(8*r.c))<=UP (8*(r.a+ -m*r.n)) (8*r.b) (8*r.c)*2^n:=by
     have e8:∀x y z:Int,UP (8*x) (8*y) (8*z)=UP x y z^8:=fun x y z=>YnM 8 x y z
     rw[<-Int.mul_neg,<-Int.mul_neg,<-Int.mul_neg,e8,e8]
     have hQ0:QJ≠0:=by rw[Yjg];have:=YH 100;omega
     rw[<-Nat.pow_le_pow_iff_left hQ0]
     refine YHp (c:=(upP (Yg r++[(2, -m*r.n)])^QJ)^8) ?_ (YHO (YHO p.1))
     have h3:(2^(upS wP (atG (Yg r) r.n m)+dnS wP (atG (Yg r) r.n m)))^8<=(2^n)^QJ:=by
       rw[<-YHf,<-YHf]
       refine YHl (by decide) (YHc (YG3 8 hE) ?_)
       have:1*QJ<=n*QJ:=YG3 QJ (by omega)
       have:1600000<=QJ:=by rw[Yjg];decide
       omega
     have h4:=YHe h1 8
     rw[YHy]at h4
     have e2:=congrArg (fun z=>(z^QJ)^8) e
     simp only[YHy]at e2
     have c1:∀x:Nat,(x^8)^QJ=(x^QJ)^8:=fun x=>by rw[<-YHf,<-YHf,YG4]
     rw[c1,YHy,c1]
     have e3:=YG5 ((UP (r.a+ -m*r.n) r.b r.c^QJ)^8) (YHc h4 (YG5 _ h3))
     rw[e2]at e3
     refine YHc e3 (YH2 ?_)
     rw[<-YG6,Nat.mul_right_comm]
   have h5:=Ysl h2
   have h6:=(YdW (m:=M) (by omega)).2 h5
   refine(YdW (m:=n) (by omega)).1 (Yfz h6 ?_ ?_ ?_)
   . rw[<-hM,<-hnn];have:=h.ha;grind
   . rw[<-hM,<-hnn];have:=h.hb;grind
   . rw[<-hM,<-hnn];have:=h.hc;grind
 have bd:=fun m hm1 hm2 hx=>Yfy (neg m hm1 hm2 hx)
 have bp:=fun m hm1 hm2 hx=>Yfy (posi m hm1 hm2 hx)
 unfold sm at*
 have htop:isG (Yg r) r.n 1000000000001=false:=by
   cases hh:isG (Yg r) r.n 1000000000001 with
   |false=>rfl
   |true=>
     have:=bp 1000000000001 (by decide) (by decide) hh
     omega
 have hbot:isG (Yg r) r.n (-1000000000000)=true:=by
   cases hh:isG (Yg r) r.n (-1000000000000)with
   |true=>rfl
   |false=>
     have:=bd (-1000000000000) (by decide) (by decide) hh
     omega
 have hfl:flrF (Yg r) r.n 1=(bisL 64 (isG (Yg r) r.n) (-1000000000000) 1000000000001,oneF (atG (Yg r) r.n (bisL 64 (isG (Yg r) r.n) (-1000000000000) 1000000000001)),0):=by
   unfold flrF
   rw[if_neg (by rw[YtQ h.ok];decide),if_neg,scl_1]
   . unfold flrG
     rw[if_neg (by rw[htop,hbot];decide)]
   . simp only[Yq9,YHB,decide_eq_true_eq];omega
 obtain⟨s1,s2⟩:=YiB (t:=isG (Yg r) r.n) 64 (-1000000000000) 1000000000001 (by decide) (by decide)
 have hr:=Ylg (t:=isG (Yg r) r.n) 64 (-1000000000000) 1000000000001 (by decide)
 generalize bisL 64 (isG (Yg r) r.n) (-1000000000000) 1000000000001=k at*
 have hk:isG (Yg r) r.n k=true:=by
   rcases s1 with e|e
   . rw[e];exact hbot
   . exact e
 have hk1:isG (Yg r) r.n (k+1)=false:=by
   rcases s2 with e|e
   . rw[e];exact htop
   . exact e
 have l1:=neg (k+1) (by omega) (by omega) hk1
 have l2:=posi k (by omega) (by omega) hk
 have b1:=bd (k+1) (by omega) (by omega) hk1
 have b2:=bp k (by omega) (by omega) hk
 rw[Int.add_mul,Int.one_mul]at b1 l1
 have hm:=Ykn (x:=offR r k) (a:=a-k*L) hL hn.1 (by show(r.a-k*r.n)*L=(a-k*L)*r.n;have:=h.ha;grind) h.hb h.hc h.hd h.he h.hf (by unfold sm;omega) sb sc
 refine⟨k,?_⟩
 unfold YdP
 rw[if_neg (by rw[h.ok];decide),hfl]
 simp only
 rw[if_neg (by rw[hm.1];decide)]
 exact⟨rfl,hm.2,Yfz l1 (by omega) rfl rfl,l2⟩
def v26:VF:=⟨19,[.cell 6 true 2],(ZR [Zn 6] (ZR [Zm 10 0,Zm 11 1,Zd 12 49 10 11,Zm 9 12,Ze 13 0 9,Ze 14 1 9,Zm 7 13,Zm 8 14] (ZR [Zm 15 2,Zm 16 8,Zm 17 7,u1 18 (.call 50) [.tm 15,.tm 16,.tm 17],Zs 2 6 18] .ret)))⟩
theorem YFW:Yf YGY Tryz.f26=some v26:=by kernel_rfl
def v24:VF:=⟨31,[.cell 8 true 2,.tmp 9],(ZR [u1 4 .box [.tm 0],u1 5 .box [.tm 1],Zn 8,Zi 9 0] (ZR [Zt 13 3 4,Zt 14 27 5,Zd 15 56 13 14,Zm 12 15,Ze 16 0 12,Ze 17 1 12,Zm 10 16,Zm 11 17] (.seq (.block 0 (ZR [Zm 19 11,Zq 20 .neq 19 0,Zm 18 20] (ZC 18 (ZR [u1 21 (.build [(.int .i64 0),(.int .i64 0)] []) [],Zm 22 11,Zs 2 8 21,Zm 9 22] .ret) (ZR [Zm 24 2,Zc 25 62 24,u1 26 .not [.tm 25],Zm 23 26] (ZC 23 (ZR [u1 27 (.build [(.int .i64 0),(.int .i64 0)] []) [],Zs 2 8 27,Zi 9 2] .ret) .skip))))) (ZR [Zm 28 3,Zm 29 10,u1 30 .callv [.tm 28,.tm 29],Zs 2 8 30,Zi 9 0] .ret))))⟩
theorem YFU:Yf YGY Tryz.f24=some v24:=by kernel_rfl
def v56:VF:=⟨26,[.tmp 4,.tmp 5],(ZR [u1 2 .box [.tm 0],u1 3 .box [.tm 1],u1 4 .mov [.cn (.val (.pointer none))],Zi 5 0] (.seq (ZR [Zt 9 3 2,Zc 10 53 9,Zm 6 10] (ZR [Zm 11 6,Zq 12 .neq 11 0] (ZC 12 (ZR [Zm 13 6,u1 4 .mov [.cn (.val (.pointer none))],Zm 5 13] .ret) .skip))) (ZR [Zt 15 27 3,Zc 16 87 15,Zm 14 16,Ze 17 0 14,Ze 18 1 14,Zm 7 17,Zm 8 18] (.seq (ZR [Zm 19 8,Zq 20 .neq 19 0] (ZC 20 (ZR [Zm 21 8,u1 4 .mov [.cn (.val (.pointer none))],Zm 5 21] .ret) .skip)) (ZR [Zt 22 3 2,Zm 23 7,u1 24 (.build [(.int .i64 0),(.int .i64 0),(.int .i64 0),.nil] [(0,3),(3,1)]) [.tm 22,.tm 23],u1 25 .box [.tm 24],Zm 4 25,Zi 5 0] .ret)))))⟩
theorem YGh:Yf YGY Tryz.f56=some v56:=by kernel_rfl
def v62:VF:=⟨9,[.tmp 2],(ZR [u1 2 .mov [.cn (.bool false)]] (ZR [Zm 3 0,Zq 4 .geq 3 0,Zm 5 4,Zg 6 5 true 0,u2 7 5 true (.cmp .leq) [.tm 6,.cn (.int .i64 139)],u1 8 .and [.tm 5,.tm 7],Zm 2 8] .ret))⟩
theorem YGj:Yf YGY Tryz.f62=some v62:=by kernel_rfl
theorem Ywo(T:Tm):YC 27 (encT T)=encT T:=rfl
theorem lenT(T:Tm):lenL (encT T)=27:=rfl
def YlG(L:Nat->Rt)(t0 t note u:Int):Int×Int:=pspF u (Yfb L t0 t note).1 (Yfb L t0 t note).2
def freqC:Ctr:={ alias:=false,of:=fun l=>match l with
 | [.xp _ [.int .i64 _,.int .i64 t0,.int .i64 t,.vs _ _ n sz get],.int .i64 note,.int .i64 u]=> .ex (Nat->Rt) fun L=> .pre ((n=12/\sz=7/\∀k,k<12->leXL (get k) (encR (L k)))/\(0<=note/\note<=139)/\Yam t0=true/\Yam t=true)
     (.fin (.agg [.int .i64 (YlG L t0 t note u).1,.int .i64 (YlG L t0 t note u).2]) [])
 |_=>noC}
theorem YtP(L:Nat->Rt)(t0 t note:Int):3<=(Yfb L t0 t note).1.length/\(Yfb L t0 t note).1.length<=9:=by
 have:(trmL (Yd1 L note)).length<=6:=by
   unfold trmL;split
   . exact YbV _
   . simp
 simp only[Yfb,YHW,List.length_map,YH1,List.length_nil]
 omega
def TJ0:Env:={ ct:=fun n=>match n with|49=>some termC|50=>some pspC|_=>none,fn:=fun _=>none,meth:=fun _ _=>none}
theorem Yuv:TJ0.ct 49=some termC:=rfl
theorem Yuw:TJ0.ct 50=some pspC:=rfl
theorem YCo:Yl YGY TJ0:=by
 refine⟨fun f c h=>?_,fun f vf h=>?_,(fun _ _ _ h=>by cases h),by kernel_rfl,(fun _ h=>by cases h)⟩
 . simp only[TJ0]at h
   split at h
   . cases h;exact⟨YFE,Tryz.f49,Tryz.func49,by kernel_rfl,by kernel_rfl⟩
   . cases h;exact⟨YEy,Tryz.f50,Tryz.func50,by kernel_rfl,by kernel_rfl⟩
   . cases h
 . cases h
theorem YDv:freqC.ok YGY 26:=by
 refine Yb Tryz.func26 YFW YCo 600 freqC fun args k h=>?_
 simp only[freqC]at h
 split at h
 . rename_i tt a t0 t tv zv n sz get note u
   obtain⟨L,⟨⟨rfl,rfl,hg⟩,hn,h0,h1⟩,h⟩:=h
   refine⟨[.xp tt [.int .i64 a,.int .i64 t0,.int .i64 t,.vs tv zv 12 7 (fun k=>encR (L k))],.int .i64 note,.int .i64 u],?_,?_⟩
   . simp only[Ykg,Ym2,Yzp,Ysu,and_true,true_and]
     exact⟨id,⟨rfl,rfl⟩,⟨rfl,rfl⟩,⟨rfl,rfl⟩,⟨id,rfl,rfl,rfl,hg⟩,trivial⟩
   have hl:=YtP L t0 t note
   dsimp only[v26,Yuv,Yuw,termC,pspC,go_sem,reduceIte,YGU]
   simp only[Yc,YGU,YGW,reduceCtorEq,YGV]
   refine⟨L,⟨fun q _=>Yd _,hn,h0,h1⟩,by decide,by decide,(Yfb L t0 t note).1,⟨⟨rfl,rfl,fun q _=>Yd _⟩,by omega,by omega⟩,?_⟩
   exact YfV (show k _ []from h)
 . exact h.1.elim
theorem Yrv{a t0 t:Int}(h:chkS a t0 t=0):(100000<=a/\a<=1000000)/\Yam t0=true/\Yam t=true:=by
 unfold chkS at h
 split at h
 . cases h
 . rename_i hn
   simp only[not_or,Bool.not_eq_false]at hn
   exact⟨by omega,hn.2.2.1,hn.2.2.2⟩
def YgD(u a t0 t:Int)(T:Tm)(note:Int):(Int×Int)×Int:=
 if chkS a t0 t≠0 then((0,0),chkS a t0 t)else if Yat T≠0 then((0,0),Yat T)else if note<0\/139<note then((0,0),2)
 else(YlG (YaT T) t0 t note u,0)
def v38:VF:=⟨9,[.tmp 2],(ZR [u1 2 .mov [.cn (.bool false)]] (ZR [Zm 3 0,Zq 4 .geq 3 (-4611686018427387904),Zm 5 4,Zg 6 5 true 0,u2 7 5 true (.cmp .leq) [.tm 6,.cn (.int .i64 4611686018427387904)],u1 8 .and [.tm 5,.tm 7],Zm 2 8] .ret))⟩
theorem YF7:Yf YGY Tryz.f38=some v38:=by kernel_rfl
def v37:VF:=⟨36,[.tmp 2],(ZR [Zi 2 0] (.seq (ZR [Zm 7 0,Zl 8 7,Zi 9 0] (.block 0 (.loop (ZR [Zr 10 .lss 9 8] (.seq (ZC 10 .skip (.exit 0)) (.seq (.block 1 (ZR [Zx 11 2 7 9,Zt 12 2 11,Zn 4,Zs 2 4 12] (ZR [Za 13 0 4,Zf 14 1 13,Zc 15 38 14,u1 16 .not [.tm 15],Zm 17 16,Zj 18 17 false 1 4,Zh 19 17 false 1 18,u2 20 17 false (.call 38) [.tm 19],u2 21 17 false .not [.tm 20],u1 22 .or [.tm 17,.tm 21]] (ZC 22 (ZR [Zi 2 7] .ret) .skip)))) (.region [Zp 23 9 1,Zm 9 23]))))))) (.seq (ZR [Zm 24 0,Zl 25 24,Zi 26 0] (.block 2 (.loop (ZR [Zr 27 .lss 26 25] (.seq (ZC 27 .skip (.exit 2)) (.seq (.block 3 (ZR [Zx 28 2 24 26,Zt 29 2 28,Zn 6,Zs 2 6 29] (ZR [Za 30 0 6,Zf 31 1 30,Za 32 1 6,Zf 33 1 32,Zr 34 .gtr 31 33] (ZC 34 (ZR [Zi 2 2] .ret) .skip)))) (.region [Zp 35 26 1,Zm 26 35]))))))) (ZR [Zi 2 0] .ret))))⟩
theorem YF6:Yf YGY Tryz.f37=some v37:=by kernel_rfl
def v70:VF:=⟨8,[.tmp 2],(ZR [u1 2 .mov [.cn (.int .u64 0)]] (ZR [Zm 3 0,Zm 4 0,u1 5 .neg [.tm 4],u1 6 .max [.tm 3,.tm 5],u1 7 (.conv .u64) [.tm 6],Zm 2 7] .ret))⟩
theorem YGp:Yf YGY Tryz.f70=some v70:=by kernel_rfl
def v40:VF:=⟨29,[.cell 4 true 3],(ZR [u1 4 (.alloc [(.bool false),(.int .u64 0),(.int .u64 0)]) []] (ZR [Zm 8 0,Zc 9 70 8,Zm 10 1,Zc 11 70 10,Zd 12 69 9 11,Zm 7 12,Ze 13 0 7,Ze 14 1 7,Zm 5 13,Zm 6 14] (ZR [Zm 15 0,Zq 16 .lss 15 0,Zm 17 1,Zq 18 .lss 17 0,u1 19 (.eqb true) [.tm 16,.tm 18],Zm 20 19,Zg 21 20 true 5,Zg 22 20 true 6,u2 23 20 true (.bit .or) [.tm 21,.tm 22],u2 24 20 true (.cmp .neq) [.tm 23,.cn (.int .u64 0)],u1 25 .and [.tm 20,.tm 24],Zm 26 5,Zm 27 6,u1 28 (.build [(.bool false),(.int .u64 0),(.int .u64 0)] [(0,1),(1,1),(2,1)]) [.tm 25,.tm 26,.tm 27],Zs 3 4 28] .ret)))⟩
theorem YF9:Yf YGY Tryz.f40=some v40:=by kernel_rfl
def v68:VF:=⟨39,[.tmp 4],(ZR [u1 2 .box [.tm 0],u1 3 .box [.tm 1],u1 4 .mov [.cn (.bool false)]] (.seq (ZR [Zt 6 3 2,Zt 7 3 3,u1 8 (.eqv false [false,true,true]) [.tm 6,.tm 7]] (ZC 8 (ZR [u1 4 .mov [.cn (.bool false)]] .ret) .skip)) (.seq (ZR [Za 9 0 2,Zf 10 1 9,Za 11 0 3,Zf 12 1 11,u1 13 (.eqb true) [.tm 10,.tm 12]] (ZC 13 (ZR [Za 14 0 2,Zf 15 1 14,Zm 4 15] .ret) .skip)) (ZR [Za 16 1 2,Zf 17 1 16,Za 18 1 3,Zf 19 1 18,Zr 20 .lss 17 19,Zm 21 20,Zj 22 21 false 1 2,Zh 23 21 false 1 22,Zj 24 21 false 1 3,Zh 25 21 false 1 24,u2 26 21 false (.cmp .eql) [.tm 23,.tm 25],Zg 27 21 false 26,Zj 28 27 true 2 2,Zh 29 27 true 1 28,Zj 30 27 true 2 3,Zh 31 27 true 1 30,u2 32 27 true (.cmp .lss) [.tm 29,.tm 31],u2 33 21 false .and [.tm 27,.tm 32],u1 34 .or [.tm 21,.tm 33],Zm 5 34] (ZR [Zm 35 5,Za 36 0 2,Zf 37 1 36,u1 38 (.eqb true) [.tm 35,.tm 37],Zm 4 38] .ret)))))⟩
theorem YGn:Yf YGY Tryz.f68=some v68:=by kernel_rfl
def v66:VF:=⟨56,[.tmp 6,.tmp 7],(ZR [u1 3 .box [.tm 0],Zi 6 0,u1 7 .mov [.cn (.bool false)]] (.seq (ZR [Za 10 1 3,Zf 11 1 10,Zm 12 1,Zr 13 .geq 11 12] (ZC 13 (ZR [Zi 6 0,u1 7 .mov [.cn (.bool false)]] .ret) .skip)) (ZR [Za 15 1 3,Zf 16 1 15,Za 17 2 3,Zf 18 1 17,Zm 19 1,u1 20 (.call 93) [.tm 16,.tm 18,.tm 19],Zm 14 20,Ze 21 0 14,Ze 22 1 14,Zm 8 21,Zm 9 22] (.seq (ZR [Zm 23 9,u1 24 (.cmp .neq) [.tm 23,.cn (.int .u64 0)],Zm 25 24,Zg 26 25 true 2,Zj 27 25 true 0 3,Zh 28 25 true 1 27,u2 29 25 true (.eqb true) [.tm 26,.tm 28],u1 30 .and [.tm 25,.tm 29]] (ZC 30 (.region [Zm 31 8,u1 32 (.ari .add) [.tm 31,.cn (.int .u64 1)],Zm 8 32]) .skip)) (.seq (ZR [Zm 33 8,u1 34 (.cmp .gtr) [.tm 33,.cn (.int .u64 4611686018427387904)],Zm 35 34,Zg 36 35 false 8,u2 37 35 false (.cmp .eql) [.tm 36,.cn (.int .u64 0)],Zg 38 35 false 37,Zg 39 38 true 9,u2 40 38 true (.cmp .neq) [.tm 39,.cn (.int .u64 0)],u2 41 35 false .and [.tm 38,.tm 40],Zg 42 35 false 41,Zg 43 42 true 2,Zj 44 42 true 0 3,Zh 45 42 true 1 44,u2 46 42 true (.eqb true) [.tm 43,.tm 45],u2 47 35 false .and [.tm 42,.tm 46],u1 48 .or [.tm 35,.tm 47]] (ZC 48 (ZR [Zi 6 0,u1 7 .mov [.cn (.bool false)]] .ret) .skip)) (.seq (ZR [Za 49 0 3,Zf 50 1 49] (ZC 50 (ZR [Zm 51 8,u1 52 (.conv .i64) [.tm 51],u1 53 .neg [.tm 52],Zm 6 53,u1 7 .mov [.cn (.bool true)]] .ret) .skip)) (ZR [Zm 54 8,u1 55 (.conv .i64) [.tm 54],Zm 6 55,u1 7 .mov [.cn (.bool true)]] .ret)))))))⟩
theorem YGl:Yf YGY Tryz.f66=some v66:=by kernel_rfl
def v39:VF:=⟨58,[.cell 4 true 2,.tmp 5],(ZR [Zn 4,Zi 5 0] (.seq (.draw [(6,.box [(.bool false),(.int .u64 0),(.int .u64 0)]),(7,.box [(.bool false),(.int .u64 0),(.int .u64 0)])] [Zu 14 1,w1 15 (.idxAddr 3) [.tm 14,.cn (.int .i64 0)],Zw 16 3 15,Zu 17 1,w1 18 (.idxAddr 3) [.tm 17,.cn (.int .i64 0)],Zw 19 3 18,⟨Zs 3 6 16,[.tm 18]⟩,ZS 3 7 19]) (.seq (ZR [Zm 20 1,u1 21 (.slice 3 true false) [.tm 20,.cn (.int .i64 1)],Zl 22 21,Zi 23 0] (.block 0 (.loop (ZR [Zr 24 .lss 23 22] (.seq (ZC 24 .skip (.exit 0)) (.seq (.block 1 (ZR [Zx 25 3 21 23,Zt 26 3 25,u1 9 (.alloc [(.bool false),(.int .u64 0),(.int .u64 0)]) [],Zs 3 9 26] (.seq (ZR [Zt 27 3 9,Zt 28 3 6,Zd 29 68 27 28] (ZC 29 (.region [Zt 30 3 9,Zs 3 6 30]) .skip)) (ZR [Zt 31 3 7,Zt 32 3 9,Zd 33 68 31 32] (ZC 33 (.region [Zt 34 3 9,Zs 3 7 34]) .skip))))) (.region [Zp 35 23 1,Zm 23 35]))))))) (ZR [Zt 37 3 6,Zm 38 0,u1 39 (.call 66) [.tm 37,.tm 38,.cn (.bool false)],Zm 36 39,Ze 40 0 36,Ze 41 1 36,Zm 10 40,Zm 11 41] (ZR [Zt 43 3 7,Zm 44 0,u1 45 (.call 66) [.tm 43,.tm 44,.cn (.bool true)],Zm 42 45,Ze 46 0 42,Ze 47 1 42,Zm 12 46,Zm 13 47] (.seq (ZR [Zm 48 11,u1 49 .not [.tm 48],Zm 50 49,Zg 51 50 false 13,u2 52 50 false .not [.tm 51],u1 53 .or [.tm 50,.tm 52]] (ZC 53 (ZR [u1 54 (.build [(.int .i64 0),(.int .i64 0)] []) [],Zs 2 4 54,Zi 5 7] .ret) .skip)) (ZR [Zm 55 10,Zm 56 12,u1 57 (.build [(.int .i64 0),(.int .i64 0)] [(0,1),(1,1)]) [.tm 55,.tm 56],Zs 2 4 57,Zi 5 0] .ret)))))))⟩
theorem YF8:Yf YGY Tryz.f39=some v39:=by kernel_rfl
def v67:VF:=⟨18,[.cell 4 true 2,.tmp 5],(ZR [Zn 4,Zi 5 0] (.seq (ZR [Zm 6 0,Zc 7 38 6,u1 8 .not [.tm 7],Zm 9 8,Zg 10 9 false 1,u2 11 9 false (.call 38) [.tm 10],u2 12 9 false .not [.tm 11],u1 13 .or [.tm 9,.tm 12]] (ZC 13 (ZR [u1 14 (.build [(.int .i64 0),(.int .i64 0)] []) [],Zs 2 4 14,Zi 5 7] .ret) .skip)) (ZR [Zm 15 0,Zm 16 1,u1 17 (.build [(.int .i64 0),(.int .i64 0)] [(0,1),(1,1)]) [.tm 15,.tm 16],Zs 2 4 17,Zi 5 0] .ret)))⟩
theorem YGm:Yf YGY Tryz.f67=some v67:=by kernel_rfl
def numC:Ctr:={ alias:=false,of:=fun l=>match l with| [.int .i64 n]=> .fin (.bool (YcD n)) [] |_=>noC}
def ivlC:Ctr:={ alias:=false,of:=fun a=>match a with
 | [.vs _ _ n sz get]=> .ex (List Iv) fun l=> .pre (lsP 2 enc2 n sz get l/\l.length<=1000000) (.fin (.int .i64 (ivE l)) [])
 |_=>noC}
def sizC:Ctr:={ alias:=false,of:=fun l=>match l with
 | [.int .i64 n]=> .pre (-9223372036854775808<=n/\n<=9223372036854775807) (.fin (.int .u64 (n.natAbs:Int)) [])
 |_=>noC}
def timC:Ctr:={ alias:=false,of:=fun l=>match l with
 | [.int .i64 a,.int .i64 b]=> .pre ((-9223372036854775808<=a/\a<=9223372036854775807)/\ -9223372036854775808<=b/\b<=9223372036854775807) (.fin (.agg (YfC (a*b))) [])
 |_=>noC}
def lessC:Ctr:={ alias:=false,of:=fun l=>match l with
 | [.agg [.bool n,.int .u64 h,.int .u64 lo],.agg [.bool n',.int .u64 h',.int .u64 lo']]=> .ex Int fun x=> .ex Int fun y=> .pre (YvL x n h lo/\YvL y n' h' lo') (.fin (.bool (decide (x<y))) [])
 |_=>noC}
def overC:Ctr:={ alias:=false,of:=fun l=>match l with
 | [.agg [.bool n,.int .u64 h,.int .u64 lo],.int .u64 d,.bool up]=> .ex Int fun x=> .pre (YvL x n h lo/\big x/\0<d/\d<=18446744073709551615) (.fin (.tup [.int .i64 (rndF up x d).1,.bool (rndF up x d).2]) [])
 |_=>noC}
def spanC:Ctr:={ alias:=false,of:=fun l=>match l with
 | [.int .u64 d,.vs _ _ n sz get]=> .ex Int fun x=> .ex (List Int) fun r=> .pre (lsP 3 YfC n sz get (x::r)/\r.length<=1000/\(∀y∈x::r,big y)/\0<d/\d<=18446744073709551615) (.fin (.tup [.agg (enc2 (YdC d x r).1),.int .i64 (YdC d x r).2]) [])
 |_=>noC}
def fitC:Ctr:={ alias:=false,of:=fun l=>match l with
 | [.int .i64 a,.int .i64 b]=> .fin (.tup [.agg (enc2 (fitF a b).1),.int .i64 (fitF a b).2]) []
 |_=>noC}
def P0:Env:={ ct:=fun _=>none,fn:=fun _=>none,meth:=fun _ _=>none}
theorem YBP:Yl YGY P0:=by
 refine⟨fun f c h=>?_,fun f vf h=>?_,(fun _ _ _ h=>by cases h),by kernel_rfl,(fun _ h=>by cases h)⟩
 . cases h
 . cases h
theorem YoG:numC.ok YGY 38:=by
 refine Yb Tryz.func38 YF7 YBP 100 numC fun args k h=>⟨args,?_⟩
 simp only[numC]at h
 split at h
 . refine⟨by simp [leL,le],?_⟩
   (try dsimp only[v38,go_sem,reduceIte,YGU])
   (try simp only[Yc,YGU,YGW,reduceCtorEq,YGV])
   exact Yx h
 . exact h.1.elim
theorem Yxp:sizC.ok YGY 70:=by
 refine Yb Tryz.func70 YGp YBP 100 sizC fun args k h=>⟨args,?_⟩
 simp only[sizC]at h
 split at h
 . rename_i n
   obtain⟨⟨h0,h1⟩,h⟩:=h
   refine⟨by simp [leL,le],?_⟩
   (try dsimp only[v70,go_sem,reduceIte,YGU])
   (try simp only[Yc,YGU,YGW,reduceCtorEq,YGV])
   have e:IntKind.u64.wrap (max n (IntKind.i64.wrap (0-n)))=(n.natAbs:Int):=by
     rcases Int.lt_or_le n (-9223372036854775807)with h'|h'
     . obtain rfl:n= -9223372036854775808:=by omega
       decide
     . rw[YGZ _ (by omega),YHt _ (by omega)];omega
   rw[e]
   exact Yi h
 . exact h.1.elim
def P1:Env:={ ct:=fun n=>match n with|38=>some numC|70=>some sizC|69=>some mul64C|93=>some div64C|_=>none,fn:=fun _=>none,meth:=fun _ _=>none}
theorem YxG:P1.ct 38=some numC:=rfl
theorem YxI:P1.ct 70=some sizC:=rfl
theorem YxH:P1.ct 69=some mul64C:=rfl
theorem YxJ:P1.ct 93=some div64C:=rfl
theorem Yuc:Yl YGY P1:=by
 refine⟨fun f c h=>?_,fun f vf h=>?_,(fun _ _ _ h=>by cases h),by kernel_rfl,(fun _ h=>by cases h)⟩
 . simp only[P1]at h
   split at h
   . cases h;exact⟨YoG,Tryz.f38,Tryz.func38,by kernel_rfl,by kernel_rfl⟩
   . cases h;exact⟨Yxp,Tryz.f70,Tryz.func70,by kernel_rfl,by kernel_rfl⟩
   . cases h;exact⟨YfE,Tryz.f69,Tryz.func69,by kernel_rfl,by kernel_rfl⟩
   . cases h;exact⟨YjQ,Tryz.f93,Tryz.func93,by kernel_rfl,by kernel_rfl⟩
   . cases h
 . cases h
theorem Yoy:ivlC.ok YGY 37:=by
 refine Yb Tryz.func37 YF6 Yuc 400 ivlC fun args k h=>?_
 simp only[ivlC]at h
 split at h
 . rename_i tt z n sz get
   obtain⟨l,⟨⟨rfl,rfl,hg⟩,hmax⟩,h⟩:=h
   refine⟨[.vs tt z l.length 2 (fun k=>enc2 (l.getD k default))],by simpa [leL,le]using hg,?_⟩
   (try dsimp only[v37,enc2,go_sem,reduceIte,YGU])
   (try simp only[Yc,YGU,YGW,reduceCtorEq,YGV])
   refine Loop.keep [0,6,0,0] Nat (fun i=>[(9,.int .i64 i)]) (fun _=>[]) [] (fun i=>i<=l.length/\∀j,j<i->(YcD (l.getD j default).1&&YcD (l.getD j default).2)=true) (fun i=>l.length-i) ?_ ?_
   . refine⟨0,⟨Nat.zero_le _,fun j h=>by omega⟩,?_⟩
     (try dsimp only[go_sem,reduceIte,YGU])
     simp only[Ya]
     simp
   . rintro i ⟨hi,ha⟩
     (try dsimp only[YxG,numC,enc2,YG0,go_sem,reduceIte,YGU])
     (try simp only[Yc,YGU,YGW,reduceCtorEq,YGV])
     refine⟨fun hlt=>⟨⟨by omega,hlt⟩,fun hb=>Yi ?_,fun hb=>?_⟩,fun hge=>?_⟩
     . have e:=Yzd (l:=l) (i:=i) (by omega) (by rw[<-YH4,YHn]at hb;exact hb)
       rw[e]at h;exact h
     . rw[<-YH4]at hb
       refine⟨i+1,⟨by omega,fun j hj=>?_⟩,by omega,?_⟩
       . rcases YHE j i with h'|h'
         . exact ha j h'
         . obtain rfl:j=i:=by omega
           simpa using hb
       . have hw:=Yif (i:=i) (n:=l.length) (by omega) (by omega)
         simp only[hw,Ya] <;> simp
     . obtain rfl:i=l.length:=by omega
       refine Loop.keep [0,23,0,0] Nat (fun i=>[(26,.int .i64 i)]) (fun _=>[]) [] (fun i=>i<=l.length/\∀j,j<i->(l.getD j default).1<=(l.getD j default).2) (fun i=>l.length-i) ?_ ?_
       . refine⟨0,⟨Nat.zero_le _,fun j h=>by omega⟩,?_⟩
         (try dsimp only[go_sem,reduceIte,YGU])
         simp only[Ya]
         simp
       . rintro i ⟨hi,hc⟩
         (try dsimp only[enc2,YG0,go_sem,reduceIte,YGU])
         (try simp only[Yc,YGU,YGW,reduceCtorEq,YGV])
         refine⟨fun hlt=>⟨⟨by omega,hlt⟩,fun hb=>Yi ?_,fun hb=>?_⟩,fun hge=>?_⟩
         . have e:=ivE_2 ha (i:=i) (by omega) (by omega)
           rw[e]at h;exact h
         . refine⟨i+1,⟨by omega,fun j hj=>?_⟩,by omega,?_⟩
           . rcases YHE j i with h'|h'
             . exact hc j h'
             . obtain rfl:j=i:=by omega
               omega
           . have hw:=Yif (i:=i) (n:=l.length) (by omega) (by omega)
             simp only[hw,Ya] <;> simp
         . obtain rfl:i=l.length:=by omega
           rw[ivE_0 ha hc]at h
           exact Yi h
 . exact h.1.elim
theorem Yxt:timC.ok YGY 40:=by
 refine Yb Tryz.func40 YF9 Yuc 200 timC fun args k h=>⟨args,?_⟩
 simp only[timC]at h
 split at h
 . rename_i a b
   obtain⟨⟨ha,hb⟩,h⟩:=h
   refine⟨by simp [leL,le],?_⟩
   (try dsimp only[v40,YxI,YxH,sizC,mul64C,go_sem,reduceIte,YGU])
   (try simp only[Yc,YGU,YGW,reduceCtorEq,YGV])
   obtain⟨P,hP⟩:∃P,P=a.natAbs*b.natAbs:=⟨_,rfl⟩
   have hPb:P<=9223372036854775808*9223372036854775808:=by rw[hP];exact YHi (by omega) (by omega)
   have e0:(a.natAbs:Int)*(b.natAbs:Int)=(P:Int):=by rw[hP];exact(YHZ _ _).symm
   have e1:(P:Int)/18446744073709551616=((P/18446744073709551616:Nat):Int):=by omega
   have e2:(P:Int)%18446744073709551616=((P%18446744073709551616:Nat):Int):=by omega
   rw[e0,e1,e2,YuY (by omega) (by omega)]
   refine⟨ha,hb,⟨⟨by omega,by omega⟩,by omega,by omega⟩,by decide,by decide,?_⟩
   have e3:(a*b).natAbs=P:=by rw[hP,Int.natAbs_mul]
   have e4:(!(decide (a<0)==decide (b<0))&& !decide (((P/18446744073709551616||| P%18446744073709551616:Nat):Int)=0))=decide (a*b<0):=by
     have z:decide (((P/18446744073709551616||| P%18446744073709551616:Nat):Int)=0)=decide (P=0):=by
       congr 1
       apply propext
       have:= @Nat.or_eq_zero_iff (P/18446744073709551616) (P%18446744073709551616)
       omega
     rw[z]
     have hz:P=0↔a=0\/b=0:=by rw[hP,Nat.mul_eq_zero];omega
     rcases Int.lt_trichotomy a 0 with h1|h1|h1 <;> rcases Int.lt_trichotomy b 0 with h2|h2|h2
     . have:=Int.mul_pos_of_neg_of_neg h1 h2
       simp [h1,h2];omega
     . subst h2;simp [hz]
     . have:=Int.mul_neg_of_neg_of_pos h1 h2
       have hb':¬b<0:=by omega
       simp [h1,hb',this,hz];omega
     . subst h1;simp [hz]
     . subst h1;simp [hz]
     . subst h1;simp [hz]
     . have:=Int.mul_neg_of_pos_of_neg h1 h2
       have ha':¬a<0:=by omega
       simp [h2,ha',this,hz];omega
     . subst h2;simp [hz]
     . have:=Int.mul_pos h1 h2
       have ha':¬a<0:=by omega
       have hb':¬b<0:=by omega
       simp [ha',hb'];omega
   rw[e4]
   have h:k (.agg (YfC (a*b))) []:=h
   rw[YfC,e3]at h
   exact YD (show k _ []from h) (Yw (.agg [.bool (decide (a*b<0)),.int .u64 ((P/18446744073709551616:Nat):Int),.int .u64 ((P%18446744073709551616:Nat):Int)]) ⟨trivial,trivial,trivial,trivial⟩) (fun _=>by simp [Yj,Yk])
 . exact h.1.elim
theorem Yzs:lessC.ok YGY 68:=by
 refine Yb Tryz.func68 YGn Yuc 200 lessC fun args k h=>⟨args,?_⟩
 simp only[lessC]at h
 split at h
 . rename_i n hi lo n' hi' lo'
   obtain⟨x,y,⟨⟨rfl,rfl,rfl⟩,rfl,rfl,rfl⟩,h⟩:=h
   refine⟨by simp [leL,le],?_⟩
   (try dsimp only[v68,go_sem,reduceIte,YGU])
   (try simp only[Yc,YGU,YGW,reduceCtorEq,YGV])
   refine⟨fun hc=>Yx ?_,fun hc=>⟨fun hd=>Yx ?_,fun hd=>⟨fun h1 h2=>by rw[decide_eq_false h1,decide_eq_true h2];rfl,Yx ?_⟩⟩⟩
   . simp only[YG2,Bool.and_true,decide_eq_true_eq,beq_iff_eq,decide_eq_decide]at hc
     have:x=y:=by omega
     subst this
     have h:k (.bool (decide (x<x))) []:=h
     rw[decide_eq_false (Int.lt_irrefl x)]at h
     exact h
   . have:decide (x<y)=decide (x<0):=by
       rw[beq_eq_false_iff_ne,ne_eq,decide_eq_decide]at hd
       rw[decide_eq_decide];omega
     rw[<-this];exact h
   . have:(!((decide (((x.natAbs/18446744073709551616:Nat):Int)<((y.natAbs/18446744073709551616:Nat):Int)) || decide (((x.natAbs/18446744073709551616:Nat):Int)=((y.natAbs/18446744073709551616:Nat):Int))&&decide (((x.natAbs%18446744073709551616:Nat):Int)<((y.natAbs%18446744073709551616:Nat):Int)))==decide (x<0)))=decide (x<y):=by
       simp only[beq_iff_eq,decide_eq_decide]at hd
       simp only[Bool.and_eq_false_iff,Bool.and_true,decide_eq_false_iff_not,beq_eq_false_iff_ne,ne_eq,decide_eq_decide]at hc
       have e:(decide (((x.natAbs/18446744073709551616:Nat):Int)<((y.natAbs/18446744073709551616:Nat):Int)) || decide (((x.natAbs/18446744073709551616:Nat):Int)=((y.natAbs/18446744073709551616:Nat):Int))&&decide (((x.natAbs%18446744073709551616:Nat):Int)<((y.natAbs%18446744073709551616:Nat):Int)))=decide (x.natAbs<y.natAbs):=by
         rw[Bool.eq_iff_iff]
         simp only[YHB,YG2,decide_eq_true_eq]
         omega
       rw[e]
       by_cases hx:x<0
       . rw[decide_eq_true hx,Bool.eq_iff_iff,YHn,beq_eq_false_iff_ne,ne_eq,decide_eq_true_eq,decide_eq_true_eq];omega
       . rw[decide_eq_false hx,Bool.eq_iff_iff,YHn,beq_eq_false_iff_ne,ne_eq,decide_eq_false_iff_not,decide_eq_true_eq];omega
     rw[this];exact h
 . exact h.1.elim
theorem Yne:overC.ok YGY 66:=by
 refine Yb Tryz.func66 YGl Yuc 200 overC fun args k h=>⟨args,?_⟩
 simp only[overC]at h
 split at h
 . rename_i n hi lo d up
   obtain⟨x,⟨⟨rfl,rfl,rfl⟩,hbx,hd0,hd1⟩,h⟩:=h
   refine⟨by simp [leL,le],?_⟩
   (try dsimp only[v66,YxJ,div64C,go_sem,reduceIte,YGU])
   (try simp only[Yc,YGU,YGW,reduceCtorEq,YGV])
   obtain⟨d,rfl⟩:=YHL (by omega:0<=d)
   obtain⟨m,hm⟩:∃m,m=x.natAbs:=⟨_,rfl⟩
   have hT:=YAo (up:=up) (x:=x) (d:=d) (by omega)
   have e0:((m/18446744073709551616:Nat):Int)*18446744073709551616+((m%18446744073709551616:Nat):Int)=m:=by omega
   have e1:(m:Int)/(d:Int)=((m/d:Nat):Int):=(Int.natCast_ediv _ _).symm
   have e2:(m:Int)%(d:Int)=((m%d:Nat):Int):=(Int.natCast_emod _ _).symm
   rw[<-hm]at hT⊢
   rw[e0,e1,e2]
   have hF:rndF up x d=rndB (nsg (decide (x<0)) (m/d+bump up (decide (x<0)) (m%d))):=by unfold rndF;rw[hT]
   have hfail:4611686018427387904<m/d+bump up (decide (x<0)) (m%d)->rndF up x d=(0,false):=fun hh=>by
     rw[hF,rndB,if_neg]
     have:=Ys3 (decide (x<0)) (m/d+bump up (decide (x<0)) (m%d))
     omega
   have hgood:m/d+bump up (decide (x<0)) (m%d)<=4611686018427387904->rndF up x d=(nsg (decide (x<0)) (m/d+bump up (decide (x<0)) (m%d)),true):=fun hh=>by
     rw[hF,rndB,if_pos]
     have:=Ys3 (decide (x<0)) (m/d+bump up (decide (x<0)) (m%d))
     omega
   have h:k (.tup [.int .i64 (rndF up x d).1,.bool (rndF up x d).2]) []:=h
   have fin:∀(t:Int)(b:Bool)(hp:List HO),rndF up x d=(t,b)->Yy overC.alias k (.tup [.int .i64 t,.bool b]) hp:=fun t b hp hh=>by
     rw[hh]at h
     exact YD (show k _ []from h) (Yw (.tup [.int .i64 t,.bool b]) ⟨trivial,trivial,trivial⟩) (fun _=>by simp [Yj,Yk])
   have hQ1:¬(d:Int)<=((m/18446744073709551616:Nat):Int)->m/d<18446744073709551616:=fun hc=>by
     rw[YHD (by omega)]
     have h1:m/18446744073709551616<d:=by omega
     rw[YHD (by decide)]at h1
     rw[YG4];exact h1
   have hQ2:(d:Int)<=((m/18446744073709551616:Nat):Int)->18446744073709551616<=m/d:=fun hc=>by
     rw[YHI (by omega)]
     have h1:d<=m/18446744073709551616:=by omega
     rw[YHI (by decide)]at h1
     rw[YG4];exact h1
   have hd0':(0:Int)<(d:Int):=hd0
   clear hT e1 e2
   generalize m/d=Q at*
   generalize m%d=R at*
   have ez:(!decide ((R:Int)=0))=decide (R≠0):=by
     rw[<-decide_not];congr 1;exact propext (by omega)
   refine⟨fun hc=>fin _ _ _ (hfail ?_),fun hc=>⟨⟨⟨by omega,by omega⟩,by omega,by omega,by omega⟩,by decide,by decide,fun hb=>?_,fun hb=>?_⟩⟩
   . have:=hQ2 hc
     omega
   . have hQ:=hQ1 hc
     rw[ez]at hb⊢
     have hbump:bump up (decide (x<0)) (R)=1:=by unfold bump;exact if_pos hb
     rw[hbump]at hfail hgood
     have hcond:∀w:Int,((decide (4611686018427387904<w) || decide (w=0)&&decide (R≠0)&& !(up==decide (x<0)))=true↔4611686018427387904<w\/w=0):=fun w=>by
       rw[Bool.and_assoc,hb,Bool.and_true,YHB,decide_eq_true_eq,decide_eq_true_eq]
     have hw:(4611686018427387904<IntKind.u64.wrap ((Q:Int)+1)\/IntKind.u64.wrap ((Q:Int)+1)=0)↔4611686018427387904<Q+1:=by
       rw[Yno];omega
     refine⟨fun h1 h2=>by rw[decide_eq_false h1,decide_eq_true h2];rfl,fun h1 h2=>by rw[decide_eq_false h1,h2];rfl,fun hcc=>fin _ _ _ (hfail (hw.1 ((hcond _).1 hcc))),fun hcc=>?_⟩
     have hsm:Q+1<=4611686018427387904:=by
       refine Nat.le_of_not_lt fun hh=>?_
       have:=(hcond _).2 (hw.2 hh)
       rw[hcc]at this;cases this
     have hg:=hgood hsm
     rw[YHt _ (by omega)]
     refine⟨fun hx=>fin _ _ _ ?_,fun hx=>fin _ _ _ ?_⟩
     . rw[hg,YGZ ((Q:Int)+1) (by omega),YGZ _ (by omega)]
       unfold nsg
       simp only[hx,decide_true,if_true]
       congr 1 <;> omega
     . rw[hg,YGZ _ (by omega)]
       unfold nsg
       simp only[hx,decide_false,YHm,if_false]
       rfl
   . have hQ:=hQ1 hc
     rw[ez]at hb⊢
     have hbump:bump up (decide (x<0)) (R)=0:=by unfold bump;exact if_neg (by rw[show(up !=decide (x<0))= !(up==decide (x<0))from rfl,hb];simp)
     rw[hbump,Nat.add_zero]at hfail hgood
     have hcond:∀w:Int,((decide (4611686018427387904<w) || decide (w=0)&&decide (R≠0)&& !(up==decide (x<0)))=true↔4611686018427387904<w):=fun w=>by
       rw[Bool.and_assoc,hb,Bool.and_false,Bool.or_false,decide_eq_true_eq]
     refine⟨fun h1 h2=>by rw[decide_eq_false h1,decide_eq_true h2];rfl,fun h1 h2=>by rw[decide_eq_false h1,h2];rfl,fun hcc=>fin _ _ _ (hfail (by have:=(hcond _).1 hcc;omega)),fun hcc=>?_⟩
     have hsm:Q<=4611686018427387904:=by
       refine Nat.le_of_not_lt fun hh=>?_
       have:=(hcond (Q:Int)).2 (by omega)
       rw[hcc]at this;cases this
     have hg:=hgood hsm
     refine⟨fun hx=>fin _ _ _ ?_,fun hx=>fin _ _ _ ?_⟩
     . rw[hg,YGZ (Q:Int) (by omega),YGZ _ (by omega)]
       unfold nsg
       simp only[hx,decide_true,if_true]
       congr 1 <;> omega
     . rw[hg,YGZ _ (by omega)]
       unfold nsg
       simp only[hx,decide_false,YHm,if_false]
 . exact h.1.elim
def P2:Env:={ ct:=fun n=>match n with|38=>some numC|68=>some lessC|66=>some overC|_=>none,fn:=fun _=>none,meth:=fun _ _=>none}
theorem YxK:P2.ct 38=some numC:=rfl
theorem YxM:P2.ct 68=some lessC:=rfl
theorem YxL:P2.ct 66=some overC:=rfl
theorem YBQ:Yl YGY P2:=by
 refine⟨fun f c h=>?_,fun f vf h=>?_,(fun _ _ _ h=>by cases h),by kernel_rfl,(fun _ h=>by cases h)⟩
 . simp only[P2]at h
   split at h
   . cases h;exact⟨YoG,Tryz.f38,Tryz.func38,by kernel_rfl,by kernel_rfl⟩
   . cases h;exact⟨Yzs,Tryz.f68,Tryz.func68,by kernel_rfl,by kernel_rfl⟩
   . cases h;exact⟨Yne,Tryz.f66,Tryz.func66,by kernel_rfl,by kernel_rfl⟩
   . cases h
 . cases h
theorem YwS:fitC.ok YGY 67:=by
 refine Yb Tryz.func67 YGm YBQ 200 fitC fun args k h=>⟨args,?_⟩
 simp only[fitC]at h
 split at h
 . rename_i a b
   refine⟨by simp [leL,le],?_⟩
   (try dsimp only[v67,YxK,numC,go_sem,reduceIte,YGU])
   (try simp only[Yc,YGU,YGW,reduceCtorEq,YGV])
   refine⟨fun hc=>?_,fun hc=>?_⟩
   . rw[fitF,if_neg (by rw[<-YH4,YHn]at hc;simp [hc])]at h
     exact YD (show k _ []from h) (Yw (.tup [.agg (enc2 (0,0)),.int .i64 7]) ⟨⟨trivial,trivial,trivial⟩,trivial,trivial⟩) (fun _=>by simp [enc2,Yj,Yk])
   . rw[fitF,if_pos (by rw[<-YH4,YHA]at hc;exact hc)]at h
     exact YD (show k _ []from h) (Yw (.tup [.agg (enc2 (a,b)),.int .i64 0]) ⟨⟨trivial,trivial,trivial⟩,trivial,trivial⟩) (fun _=>by simp [enc2,Yj,Yk])
 . exact h.1.elim
theorem YtF:spanC.ok YGY 39:=by
 refine Yb Tryz.func39 YF8 YBQ 400 spanC fun args k h=>?_
 simp only[spanC]at h
 split at h
 . rename_i d tt z n sz get
   obtain⟨x,r,⟨⟨rfl,rfl,hg⟩,hmax,hbig,hd0,hd1⟩,h⟩:=h
   refine⟨[.int .u64 d,.vs tt z (x::r).length 3 (fun k=>YfC ((x::r).getD k default))],⟨⟨rfl,rfl⟩,by simpa [le]using hg,trivial⟩,?_⟩
   (try dsimp only[v39,YfC,go_sem,reduceIte,YGU])
   (try simp only[Yc,YGU,YGW,reduceCtorEq,YGV])
   have hlen:((x::r).length:Int)=r.length+1:=by simp
   refine⟨⟨by decide,by omega⟩,⟨by decide,by omega⟩,⟨by decide,by omega⟩,?_⟩
   have hlen2:(x::r).length-(0+1)=r.length:=by simp
   refine Loop.keep [0,0,2,0,0,0,13,0] Nat (fun i=>[(23,.int .i64 i)]) (fun i=>[(1,.box (YfC (lowI x (r.take i)))),(2,.box (YfC (YbK x (r.take i))))]) [] (fun i=>i<=r.length) (fun i=>r.length-i) ?_ ?_
   . refine⟨0,Nat.zero_le _,?_⟩
     (try dsimp only[YfC,go_sem,reduceIte,YGU])
     simp only[Ya]
     refine⟨by simp,?_,?_⟩ <;> simp [lowI,YbK] <;> rfl
   . rintro i hi
     (try dsimp only[YxM,YxL,lessC,overC,YfC,YG0,go_sem,reduceIte,YGU])
     (try simp only[Yc,YGU,YGW,reduceCtorEq,YGV])
     have ey:(x::r).getD (1+i) default=r.getD i default:=by rw[Nat.add_comm];rfl
     have elen:(((x::r).length-1:Nat):Int)=r.length:=by simp
     simp only[ey,elen]
     refine⟨fun hlt=>⟨⟨by omega,by omega⟩,r.getD i default,lowI x (r.take i),⟨Yo _,Yo _⟩,?_⟩,fun hge=>?_⟩
     . have eL:lowI x (r.take (i+1))=if r.getD i default<lowI x (r.take i)then r.getD i default else lowI x (r.take i):=YE (by omega)
       have eH:YbK x (r.take (i+1))=if YbK x (r.take i)<r.getD i default then r.getD i default else YbK x (r.take i):=YE (by omega)
       have hw:=Yif (i:=i) (n:=r.length) (by omega) (by omega)
       refine⟨fun h1=>⟨YbK x (r.take i),r.getD i default,⟨Yo _,Yo _⟩,fun h2=>⟨i+1,by omega,by omega,?_⟩,fun h2=>⟨i+1,by omega,by omega,?_⟩⟩,
         fun h1=>⟨YbK x (r.take i),r.getD i default,⟨Yo _,Yo _⟩,fun h2=>⟨i+1,by omega,by omega,?_⟩,fun h2=>⟨i+1,by omega,by omega,?_⟩⟩⟩
       . simp only[eL,eH,if_pos h1,if_pos h2,hw,Ya]
         simp
       . simp only[eL,eH,if_pos h1,if_neg h2,hw,Ya]
         simp
       . simp only[eL,eH,if_neg h1,if_pos h2,hw,Ya]
         simp
       . simp only[eL,eH,if_neg h1,if_neg h2,hw,Ya]
         simp
     . obtain rfl:i=r.length:=by omega
       rw[List.take_length]
       have hl:=YsH x r
       have hh:=Ypu x r
       refine⟨lowI x r,⟨Yo _,hbig _ hl.1,hd0,hd1⟩,by decide,by decide,YbK x r,⟨Yo _,hbig _ hh.1,hd0,hd1⟩,by decide,by decide,?_⟩
       have h:k (.tup [.agg (enc2 (YdC d x r).1),.int .i64 (YdC d x r).2]) []:=h
       unfold YdC YaN at h
       refine⟨fun hb=>?_,fun hb=>?_⟩
       . rw[if_neg (by rw[<-YH4,YHn]at hb;rw[hb];simp)]at h
         exact YD (show k _ []from h) (Yw (.tup [.agg (enc2 (0,0)),.int .i64 7]) ⟨⟨trivial,trivial,trivial⟩,trivial,trivial⟩) (fun _=>by simp [enc2,Yj,Yk])
       . rw[if_pos (by rw[<-YH4,YHA]at hb;exact hb)]at h
         exact YD (show k _ []from h) (Yw (.tup [.agg (enc2 ((rndF false (lowI x r) d).1,(rndF true (YbK x r) d).1)),.int .i64 0]) ⟨⟨trivial,trivial,trivial⟩,trivial,trivial⟩) (fun _=>by simp [enc2,Yj,Yk])
 . exact h.1.elim
def v35:VF:=⟨37,[.cell 4 true 2,.tmp 5],(ZR [u1 2 .box [.tm 0],u1 3 .box [.tm 1],Zn 4,Zi 5 0] (.seq (ZR [Zt 7 2 2,Zt 8 2 3,u1 9 (.buildSlice 2 2 [(.int .i64 0),(.int .i64 0)] [(0,2),(2,2)]) [.tm 7,.tm 8],Zc 10 37 9,Zm 6 10] (ZR [Zm 11 6,Zq 12 .neq 11 0] (ZC 12 (ZR [u1 13 (.build [(.int .i64 0),(.int .i64 0)] []) [],Zm 14 6,Zs 2 4 13,Zm 5 14] .ret) .skip))) (.seq (ZR [Za 15 1 2,Zf 16 1 15,Zq 17 .eql 16 4611686018427387904,Zm 18 17,Zj 19 18 true 1 3,Zh 20 18 true 1 19,u2 21 18 true (.cmp .eql) [.tm 20,.cn (.int .i64 4611686018427387904)],u1 22 .and [.tm 18,.tm 21]] (ZC 22 (ZR [u1 23 (.build [(.int .i64 0),(.int .i64 0)] []) [],Zs 2 4 23,Zi 5 7] .ret) .skip)) (ZR [Za 24 0 2,Zf 25 1 24,Za 26 0 3,Zf 27 1 26,Zo 28 .add 25 27,Za 29 1 2,Zf 30 1 29,Za 31 1 3,Zf 32 1 31,Zo 33 .add 30 32,Zd 34 67 28 33,Ze 35 0 34,Ze 36 1 34,Zs 2 4 35,Zm 5 36] .ret))))⟩
theorem YF4:Yf YGY Tryz.f35=some v35:=by kernel_rfl
def v34:VF:=⟨26,[.cell 4 true 2,.tmp 5],(ZR [u1 2 .box [.tm 0],u1 3 .box [.tm 1],Zn 4,Zi 5 0] (.seq (ZR [Zt 7 2 2,Zt 8 2 3,u1 9 (.buildSlice 2 2 [(.int .i64 0),(.int .i64 0)] [(0,2),(2,2)]) [.tm 7,.tm 8],Zc 10 37 9,Zm 6 10] (ZR [Zm 11 6,Zq 12 .neq 11 0] (ZC 12 (ZR [u1 13 (.build [(.int .i64 0),(.int .i64 0)] []) [],Zm 14 6,Zs 2 4 13,Zm 5 14] .ret) .skip))) (ZR [Zt 15 2 2,Za 16 1 3,Zf 17 1 16,u1 18 .neg [.tm 17],Za 19 0 3,Zf 20 1 19,u1 21 .neg [.tm 20],u1 22 (.build [(.int .i64 0),(.int .i64 0)] [(0,1),(1,1)]) [.tm 18,.tm 21],Zd 23 35 15 22,Ze 24 0 23,Ze 25 1 23,Zs 2 4 24,Zm 5 25] .ret)))⟩
theorem YF3:Yf YGY Tryz.f34=some v34:=by kernel_rfl
def v91:VF:=⟨41,[.cell 4 true 2,.tmp 5],(ZR [u1 2 .box [.tm 0],u1 3 .box [.tm 1],Zn 4,Zi 5 0] (.seq (ZR [Zt 8 2 2,Zt 9 2 3,u1 10 (.buildSlice 2 2 [(.int .i64 0),(.int .i64 0)] [(0,2),(2,2)]) [.tm 8,.tm 9],Zc 11 37 10,Zm 6 11] (ZR [Zm 12 6,Zq 13 .neq 12 0] (ZC 13 (ZR [u1 14 (.build [(.int .i64 0),(.int .i64 0)] []) [],Zm 15 6,Zs 2 4 14,Zm 5 15] .ret) .skip))) (.seq (.draw [(7,.arr 4 3 [(.bool false),(.int .u64 0),(.int .u64 0),(.bool false),(.int .u64 0),(.int .u64 0),(.bool false),(.int .u64 0),(.int .u64 0),(.bool false),(.int .u64 0),(.int .u64 0)])] [Zy 16 0 2,Zv 17 1 16,Zy 18 0 3,Zv 19 1 18,Zy 21 0 2,Zv 22 1 21,Zy 23 1 3,Zv 24 1 23,Zy 26 1 2,Zv 27 1 26,Zy 28 0 3,Zv 29 1 28,Zy 31 1 2,Zv 32 1 31,Zy 33 1 3,Zv 34 1 33,Zz 20 40 17 19,Zz 25 40 22 24,Zz 30 40 27 29,Zz 35 40 32 34,w1 36 (.build [(.bool false),(.int .u64 0),(.int .u64 0),(.bool false),(.int .u64 0),(.int .u64 0),(.bool false),(.int .u64 0),(.int .u64 0),(.bool false),(.int .u64 0),(.int .u64 0)] [(0,3),(3,3),(6,3),(9,3)]) [.tm 20,.tm 25,.tm 30,.tm 35],ZS 12 7 36]) (ZR [u1 37 (.sliceArr 4 3 false false) [.tm 7],u1 38 (.call 39) [.cn (.int .u64 1),.tm 37],Ze 39 0 38,Ze 40 1 38,Zs 2 4 39,Zm 5 40] .ret))))⟩
theorem YGE:Yf YGY Tryz.f91=some v91:=by kernel_rfl
def v33:VF:=⟨89,[.cell 4 true 2,.tmp 5],(ZR [u1 2 .box [.tm 0],u1 3 .box [.tm 1],Zn 4,Zi 5 0] (.seq (ZR [Zt 13 2 2,Zt 14 2 3,u1 15 (.buildSlice 2 2 [(.int .i64 0),(.int .i64 0)] [(0,2),(2,2)]) [.tm 13,.tm 14],Zc 16 37 15,Zm 6 16] (ZR [Zm 17 6,Zq 18 .neq 17 0] (ZC 18 (ZR [u1 19 (.build [(.int .i64 0),(.int .i64 0)] []) [],Zm 20 6,Zs 2 4 19,Zm 5 20] .ret) .skip))) (.seq (ZR [Za 21 0 3,Zf 22 1 21,Zq 23 .leq 22 0,Zm 24 23,Zj 25 24 true 1 3,Zh 26 24 true 1 25,u2 27 24 true (.cmp .geq) [.tm 26,.cn (.int .i64 0)],u1 28 .and [.tm 24,.tm 27]] (ZC 28 (ZR [u1 29 (.build [(.int .i64 0),(.int .i64 0)] []) [],Zs 2 4 29,Zi 5 9] .ret) .skip)) (.seq (ZR [Za 30 1 3,Zf 31 1 30,Zq 32 .lss 31 0] (ZC 32 (.draw [] [Zy 33 1 2,Zv 34 1 33,w1 35 .neg [.tm 34],Zy 36 0 2,Zv 37 1 36,w1 38 .neg [.tm 37],w1 39 (.build [(.int .i64 0),(.int .i64 0)] [(0,1),(1,1)]) [.tm 35,.tm 38],Zy 40 1 3,Zv 41 1 40,w1 42 .neg [.tm 41],Zy 43 0 3,Zv 44 1 43,w1 45 .neg [.tm 44],w1 46 (.build [(.int .i64 0),(.int .i64 0)] [(0,1),(1,1)]) [.tm 42,.tm 45],⟨Zs 2 2 39,[.tm 40,.tm 43]⟩,ZS 2 3 46]) .skip)) (.seq (.draw [] [Zy 47 1 3,Zv 48 1 47,Zy 49 0 3,Zv 50 1 49,Zu 7 48,Zu 8 50]) (.seq (ZR [Za 51 0 2,Zf 52 1 51,Zq 53 .lss 52 0] (ZC 53 (.region [Za 54 0 3,Zf 55 1 54,Zm 7 55]) .skip)) (.seq (ZR [Za 56 1 2,Zf 57 1 56,Zq 58 .lss 57 0] (ZC 58 (.region [Za 59 1 3,Zf 60 1 59,Zm 8 60]) .skip)) (ZR [Za 62 0 2,Zf 63 1 62,u1 64 (.call 40) [.tm 63,.cn (.int .i64 1)],Zm 65 7,u1 66 (.conv .u64) [.tm 65],u1 67 (.call 66) [.tm 64,.tm 66,.cn (.bool false)],Zm 61 67,Ze 68 0 61,Ze 69 1 61,Zm 9 68,Zm 10 69] (ZR [Za 71 1 2,Zf 72 1 71,u1 73 (.call 40) [.tm 72,.cn (.int .i64 1)],Zm 74 8,u1 75 (.conv .u64) [.tm 74],u1 76 (.call 66) [.tm 73,.tm 75,.cn (.bool true)],Zm 70 76,Ze 77 0 70,Ze 78 1 70,Zm 11 77,Zm 12 78] (.seq (ZR [Zm 79 10,u1 80 .not [.tm 79],Zm 81 80,Zg 82 81 false 12,u2 83 81 false .not [.tm 82],u1 84 .or [.tm 81,.tm 83]] (ZC 84 (ZR [u1 85 (.build [(.int .i64 0),(.int .i64 0)] []) [],Zs 2 4 85,Zi 5 7] .ret) .skip)) (ZR [Zm 86 9,Zm 87 11,u1 88 (.build [(.int .i64 0),(.int .i64 0)] [(0,1),(1,1)]) [.tm 86,.tm 87],Zs 2 4 88,Zi 5 0] .ret)))))))))))⟩
theorem YF2:Yf YGY Tryz.f33=some v33:=by kernel_rfl
def v13:VF:=⟨45,[.cell 6 true 2,.tmp 7],(ZR [u1 3 .box [.tm 0],Zn 6,Zi 7 0] (ZR [Zt 9 2 3,u1 10 (.buildSlice 2 1 [(.int .i64 0),(.int .i64 0)] [(0,2)]) [.tm 9],Zc 11 37 10,Zm 8 11] (.seq (.block 0 (ZR [Zm 13 8,Zq 14 .neq 13 0,Zm 12 14] (ZC 12 (ZR [u1 15 (.build [(.int .i64 0),(.int .i64 0)] []) [],Zm 16 8,Zs 2 6 15,Zm 7 16] .ret) (ZR [Zm 18 2,Zq 19 .lss 18 1,Zm 20 19,Zg 21 20 false 2,u2 22 20 false (.call 38) [.tm 21],u2 23 20 false .not [.tm 22],u1 24 .or [.tm 20,.tm 23],Zm 25 24,Zg 26 25 false 1,u2 27 25 false (.call 38) [.tm 26],u2 28 25 false .not [.tm 27],u1 29 .or [.tm 25,.tm 28],Zm 17 29] (ZC 17 (ZR [u1 30 (.build [(.int .i64 0),(.int .i64 0)] []) [],Zs 2 6 30,Zi 7 2] .ret) .skip))))) (.seq (.draw [] [Zu 31 2,w1 32 (.conv .u64) [.tm 31],Zy 33 0 3,Zv 34 1 33,Zu 35 1,Zy 37 1 3,Zv 38 1 37,Zu 39 1,Zz 36 40 34 35,Zz 40 40 38 39,w1 41 (.buildSlice 3 2 [(.bool false),(.int .u64 0),(.int .u64 0)] [(0,3),(3,3)]) [.tm 36,.tm 40],Zz 42 39 32 41,ZE 43 0 42,ZE 44 1 42,ZS 2 6 43,Zu 7 44]) .ret))))⟩
theorem YFP:Yf YGY Tryz.f13=some v13:=by kernel_rfl
def v42:VF:=⟨28,[.cell 2 true 2,.tmp 3],(ZR [u1 1 .box [.tm 0],Zn 2,Zi 3 0] (.seq (ZR [Zt 5 2 1,u1 6 (.buildSlice 2 1 [(.int .i64 0),(.int .i64 0)] [(0,2)]) [.tm 5],Zc 7 37 6,Zm 4 7] (ZR [Zm 8 4,Zq 9 .neq 8 0] (ZC 9 (ZR [u1 10 (.build [(.int .i64 0),(.int .i64 0)] []) [],Zm 11 4,Zs 2 2 10,Zm 3 11] .ret) .skip))) (.seq (.draw [] [Zy 12 0 1,Zv 13 1 12,Zy 15 0 1,Zv 16 1 15,Zy 18 1 1,Zv 19 1 18,Zy 21 1 1,Zv 22 1 21,w1 14 (.call 40) [.tm 13,.cn (.int .i64 3141592653589793238)],w1 17 (.call 40) [.tm 16,.cn (.int .i64 3141592653589793239)],w1 20 (.call 40) [.tm 19,.cn (.int .i64 3141592653589793238)],w1 23 (.call 40) [.tm 22,.cn (.int .i64 3141592653589793239)],w1 24 (.buildSlice 3 4 [(.bool false),(.int .u64 0),(.int .u64 0)] [(0,3),(3,3),(6,3),(9,3)]) [.tm 14,.tm 17,.tm 20,.tm 23],w1 25 (.call 39) [.cn (.int .u64 1000000000000000000),.tm 24],ZE 26 0 25,ZE 27 1 25,ZS 2 2 26,Zu 3 27]) .ret)))⟩
theorem YGb:Yf YGY Tryz.f42=some v42:=by kernel_rfl
def iv2C(f:Iv->Iv->Iv×Int):Ctr:={ alias:=false,of:=fun a=>match a with
 | [.agg [.int .i64 x,.int .i64 y],.agg [.int .i64 z,.int .i64 w]]=> .fin (.tup [.agg (enc2 (f (x,y) (z,w)).1),.int .i64 (f (x,y) (z,w)).2]) []
 |_=>noC}
def ivoC(f:Iv->Iv×Int):Ctr:={ alias:=false,of:=fun a=>match a with
 | [.agg [.int .i64 x,.int .i64 y]]=> .fin (.tup [.agg (enc2 (f (x,y)).1),.int .i64 (f (x,y)).2]) []
 |_=>noC}
def addC:=iv2C addF
def subC:=iv2C subF
def mulC:=iv2C mulF
def quoC:=iv2C quoF
def piC:=ivoC piF
def sclC:Ctr:={ alias:=false,of:=fun a=>match a with
 | [.agg [.int .i64 x,.int .i64 y],.int .i64 n,.int .i64 d]=> .fin (.tup [.agg (enc2 (sclF (x,y) n d).1),.int .i64 (sclF (x,y) n d).2]) []
 |_=>noC}
def P3:Env:={ ct:=fun n=>match n with|38=>some numC|37=>some ivlC|40=>some timC|66=>some overC|39=>some spanC|67=>some fitC|_=>none,fn:=fun _=>none,meth:=fun _ _=>none}
theorem YxN:P3.ct 37=some ivlC:=rfl
theorem YxO:P3.ct 67=some fitC:=rfl
theorem P3_ok:Yl YGY P3:=by
 refine⟨fun f c h=>?_,fun f vf h=>?_,(fun _ _ _ h=>by cases h),by kernel_rfl,(fun _ h=>by cases h)⟩
 . simp only[P3]at h
   split at h
   . cases h;exact⟨YoG,Tryz.f38,Tryz.func38,by kernel_rfl,by kernel_rfl⟩
   . cases h;exact⟨Yoy,Tryz.f37,Tryz.func37,by kernel_rfl,by kernel_rfl⟩
   . cases h;exact⟨Yxt,Tryz.f40,Tryz.func40,by kernel_rfl,by kernel_rfl⟩
   . cases h;exact⟨Yne,Tryz.f66,Tryz.func66,by kernel_rfl,by kernel_rfl⟩
   . cases h;exact⟨YtF,Tryz.f39,Tryz.func39,by kernel_rfl,by kernel_rfl⟩
   . cases h;exact⟨YwS,Tryz.f67,Tryz.func67,by kernel_rfl,by kernel_rfl⟩
   . cases h
 . cases h
theorem YK{k:SV->List HO->Prop}{al:Bool}{hp:List HO}{r:Iv×Int}(h:k (.tup [.agg (enc2 r.1),.int .i64 r.2]) []):Yy al k (.tup [.agg [.int .i64 r.1.1,.int .i64 r.1.2],.int .i64 r.2]) hp:=
 YD (show k _ []from h) (Yw (.tup [.agg (enc2 r.1),.int .i64 r.2]) ⟨⟨trivial,trivial,trivial⟩,trivial,trivial⟩) (fun _=>by simp [enc2,Yj,Yk])
theorem YmO{a b:Int}(ha: -9223372036854775808<=a/\a<=9223372036854775808)(hb: -9223372036854775808<=b/\b<=9223372036854775808):big (a*b):=by
 unfold big
 rw[Int.natAbs_mul]
 have:=YHi (show a.natAbs<=9223372036854775808 by omega) (show b.natAbs<=9223372036854775808 by omega)
 omega
theorem big1{a:Int}(ha: -9223372036854775808<=a/\a<=9223372036854775808):big a:=by
 unfold big;omega
theorem YiZ{a:Int}(h: -4611686018427387904<=a/\a<=4611686018427387904):IntKind.i64.wrap (0-a)= -a:=by rw[YGZ _ (by omega)];omega
theorem YnP:addC.ok YGY 35:=by
 refine Yb Tryz.func35 YF4 P3_ok 200 addC fun args k h=>⟨args,?_⟩
 simp only[addC,iv2C]at h
 split at h
 . rename_i x y z w
   refine⟨by simp [leL,le],?_⟩
   (try dsimp only[v35,YxN,YxO,ivlC,fitC,enc2,go_sem,reduceIte,YGU])
   (try simp only[Yc,YGU,YGW,reduceCtorEq,YGV])
   have h:k (.tup [.agg (enc2 (addF (x,y) (z,w)).1),.int .i64 (addF (x,y) (z,w)).2]) []:=h
   refine⟨by decide,[(x,y),(z,w)],⟨⟨rfl,rfl,fun k hk=>match k,hk with|0,_=>Yd _|1,_=>Yd _⟩,by simp⟩,fun hc=>?_,fun hc=>?_⟩
   . rw[addF,if_pos hc]at h
     exact YK (r:=errI (ivE [(x,y),(z,w)])) h
   . obtain⟨⟨h1,h2,h3⟩,h4,h5,h6⟩:=ivE2 hc
     dsimp only at h1 h2 h3 h4 h5 h6
     rw[addF,if_neg (by rw[hc];simp)]at h
     dsimp only at h
     refine⟨fun hm=>?_,fun hm=>⟨by decide,by decide,?_⟩⟩
     . rw[YG2,decide_eq_true_eq,decide_eq_true_eq]at hm
       have:YcD (y+w)=false:=by
         rw[Bool.eq_false_iff];intro hh;have:=numOk_iff.1 hh;omega
       rw[fitF,this,Bool.and_false]at h
       exact YK (r:=((0,0),7)) h
     . rw[Bool.and_eq_false_iff,decide_eq_false_iff_not,decide_eq_false_iff_not]at hm
       rw[YGZ (x+z) (by omega),YGZ (y+w) (by omega)]
       exact YK h
 . exact h.1.elim
def P4:Env:={ ct:=fun n=>match n with|38=>some numC|37=>some ivlC|40=>some timC|66=>some overC|39=>some spanC|67=>some fitC|35=>some addC|_=>none,fn:=fun _=>none,meth:=fun _ _=>none}
theorem YxQ:P4.ct 38=some numC:=rfl
theorem Yg5:P4.ct 37=some ivlC:=rfl
theorem Yjf:P4.ct 40=some timC:=rfl
theorem YxR:P4.ct 66=some overC:=rfl
theorem Yg6:P4.ct 39=some spanC:=rfl
theorem YxP:P4.ct 35=some addC:=rfl
theorem Yp2:Yl YGY P4:=by
 refine⟨fun f c h=>?_,fun f vf h=>?_,(fun _ _ _ h=>by cases h),by kernel_rfl,(fun _ h=>by cases h)⟩
 . simp only[P4]at h
   split at h
   . cases h;exact⟨YoG,Tryz.f38,Tryz.func38,by kernel_rfl,by kernel_rfl⟩
   . cases h;exact⟨Yoy,Tryz.f37,Tryz.func37,by kernel_rfl,by kernel_rfl⟩
   . cases h;exact⟨Yxt,Tryz.f40,Tryz.func40,by kernel_rfl,by kernel_rfl⟩
   . cases h;exact⟨Yne,Tryz.f66,Tryz.func66,by kernel_rfl,by kernel_rfl⟩
   . cases h;exact⟨YtF,Tryz.f39,Tryz.func39,by kernel_rfl,by kernel_rfl⟩
   . cases h;exact⟨YwS,Tryz.f67,Tryz.func67,by kernel_rfl,by kernel_rfl⟩
   . cases h;exact⟨YnP,Tryz.f35,Tryz.func35,by kernel_rfl,by kernel_rfl⟩
   . cases h
 . cases h
theorem YFB:subC.ok YGY 34:=by
 refine Yb Tryz.func34 YF3 Yp2 200 subC fun args k h=>⟨args,?_⟩
 simp only[subC,iv2C]at h
 split at h
 . rename_i x y z w
   refine⟨by simp [leL,le],?_⟩
   (try dsimp only[v34,Yg5,YxP,ivlC,addC,iv2C,enc2,go_sem,reduceIte,YGU])
   (try simp only[Yc,YGU,YGW,reduceCtorEq,YGV])
   have h:k (.tup [.agg (enc2 (subF (x,y) (z,w)).1),.int .i64 (subF (x,y) (z,w)).2]) []:=h
   refine⟨by decide,[(x,y),(z,w)],⟨⟨rfl,rfl,fun k hk=>match k,hk with|0,_=>Yd _|1,_=>Yd _⟩,by simp⟩,fun hc=>?_,fun hc=>?_⟩
   . rw[subF,if_pos hc]at h
     exact YK (r:=errI (ivE [(x,y),(z,w)])) h
   . obtain⟨⟨h1,h2,h3⟩,h4,h5,h6⟩:=ivE2 hc
     dsimp only at h1 h2 h3 h4 h5 h6
     rw[subF,if_neg (by rw[hc];simp)]at h
     dsimp only at h
     rw[YiZ h4,YiZ h5]
     exact⟨by decide,by decide,YK h⟩
 . exact h.1.elim
theorem YEc:mulC.ok YGY 91:=by
 refine Yb Tryz.func91 YGE Yp2 200 mulC fun args k h=>⟨args,?_⟩
 simp only[mulC,iv2C]at h
 split at h
 . rename_i x y z w
   refine⟨by simp [leL,le],?_⟩
   (try dsimp only[v91,Yg5,Yjf,Yg6,ivlC,timC,spanC,YfC,enc2,go_sem,reduceIte,YGU])
   (try simp only[Yc,YGU,YGW,reduceCtorEq,YGV])
   have h:k (.tup [.agg (enc2 (mulF (x,y) (z,w)).1),.int .i64 (mulF (x,y) (z,w)).2]) []:=h
   refine⟨by decide,[(x,y),(z,w)],⟨⟨rfl,rfl,fun k hk=>match k,hk with|0,_=>Yd _|1,_=>Yd _⟩,by simp⟩,fun hc=>?_,fun hc=>?_⟩
   . rw[mulF,if_pos hc]at h
     exact YK (r:=errI (ivE [(x,y),(z,w)])) h
   . obtain⟨⟨h1,h2,h3⟩,h4,h5,h6⟩:=ivE2 hc
     dsimp only at h1 h2 h3 h4 h5 h6
     rw[mulF,if_neg (by rw[hc];simp)]at h
     dsimp only at h
     refine⟨⟨⟨by omega,by omega⟩,by omega,by omega⟩,⟨⟨by omega,by omega⟩,by omega,by omega⟩,⟨⟨by omega,by omega⟩,by omega,by omega⟩,⟨⟨by omega,by omega⟩,by omega,by omega⟩,?_⟩
     (try dsimp only[Yg6,spanC,enc2,go_sem,reduceIte,YGU])
     (try simp only[Yc,YGU,YGW,reduceCtorEq,YGV])
     refine⟨by decide,?_⟩
     (try dsimp only[Yg6,spanC,enc2,go_sem,reduceIte,YGU])
     (try simp only[Yc,YGU,YGW,reduceCtorEq,YGV])
     refine⟨x*z,[x*w,y*z,y*w],⟨⟨rfl,rfl,fun k hk=>match k,hk with|0,_=>Yd _|1,_=>Yd _|2,_=>Yd _|3,_=>Yd _⟩,by simp,?_,by decide,by decide⟩,by decide,by decide,YK h⟩
     intro p hp
     simp only[YHx,List.not_mem_nil,or_false]at hp
     rcases hp with rfl|rfl|rfl|rfl <;> exact YmO (by omega) (by omega)
 . exact h.1.elim
theorem Yxg:quoC.ok YGY 33:=by
 refine Yb Tryz.func33 YF2 Yp2 300 quoC fun args k h=>⟨args,?_⟩
 simp only[quoC,iv2C]at h
 split at h
 . rename_i x y z w
   refine⟨by simp [leL,le],?_⟩
   (try dsimp only[v33,Yg5,Yjf,YxR,ivlC,timC,overC,YfC,enc2,go_sem,reduceIte,YGU])
   (try simp only[Yc,YGU,YGW,reduceCtorEq,YGV])
   have h:k (.tup [.agg (enc2 (quoF (x,y) (z,w)).1),.int .i64 (quoF (x,y) (z,w)).2]) []:=h
   refine⟨by decide,[(x,y),(z,w)],⟨⟨rfl,rfl,fun k hk=>match k,hk with|0,_=>Yd _|1,_=>Yd _⟩,by simp⟩,fun hc=>?_,fun hc=>?_⟩
   . rw[quoF,if_pos hc]at h
     exact YK (r:=errI (ivE [(x,y),(z,w)])) h
   . obtain⟨⟨h1,h2,h3⟩,h4,h5,h6⟩:=ivE2 hc
     dsimp only at h1 h2 h3 h4 h5 h6
     rw[quoF,if_neg (by rw[hc];simp)]at h
     dsimp only at h
     simp only[YiZ h1,YiZ h2,YiZ h4,YiZ h5,Int.mul_one]
     refine⟨fun hm=>?_,fun hm=>⟨fun hw=>?_,fun hw=>?_⟩⟩
     . rw[YG2,decide_eq_true_eq,decide_eq_true_eq]at hm
       rw[if_pos hm]at h
       exact YK (r:=errI 9) h
     . rw[Bool.and_eq_false_iff,decide_eq_false_iff_not,decide_eq_false_iff_not]at hm
       rw[if_neg (by omega),if_pos hw]at h
       unfold YiL at h
       dsimp only at h
       refine⟨fun hp=>⟨fun hq=>?_,fun hq=>?_⟩,fun hp=>⟨fun hq=>?_,fun hq=>?_⟩⟩
       . rw[if_pos hp,if_pos hq]at h
         simp (disch:=omega) only[YHt]
         refine⟨⟨⟨by omega,by omega⟩,by omega,by omega⟩,_,⟨Yo _,big1 (by omega),by omega,by omega⟩,by decide,by decide,⟨⟨by omega,by omega⟩,by omega,by omega⟩,_,⟨Yo _,big1 (by omega),by omega,by omega⟩,by decide,by decide,fun hb=>?_,fun hb=>?_⟩
         . rw[YaN,if_neg (by rw[<-YH4,YHn]at hb;rw[hb];simp)]at h
           exact YK (r:=((0,0),7)) h
         . rw[YaN,if_pos (by rw[<-YH4,YHA]at hb;exact hb)]at h
           exact YK (r:=((_,_),0)) h
       . rw[if_pos hp,if_neg hq]at h
         simp (disch:=omega) only[YHt]
         refine⟨⟨⟨by omega,by omega⟩,by omega,by omega⟩,_,⟨Yo _,big1 (by omega),by omega,by omega⟩,by decide,by decide,⟨⟨by omega,by omega⟩,by omega,by omega⟩,_,⟨Yo _,big1 (by omega),by omega,by omega⟩,by decide,by decide,fun hb=>?_,fun hb=>?_⟩
         . rw[YaN,if_neg (by rw[<-YH4,YHn]at hb;rw[hb];simp)]at h
           exact YK (r:=((0,0),7)) h
         . rw[YaN,if_pos (by rw[<-YH4,YHA]at hb;exact hb)]at h
           exact YK (r:=((_,_),0)) h
       . rw[if_neg hp,if_pos hq]at h
         simp (disch:=omega) only[YHt]
         refine⟨⟨⟨by omega,by omega⟩,by omega,by omega⟩,_,⟨Yo _,big1 (by omega),by omega,by omega⟩,by decide,by decide,⟨⟨by omega,by omega⟩,by omega,by omega⟩,_,⟨Yo _,big1 (by omega),by omega,by omega⟩,by decide,by decide,fun hb=>?_,fun hb=>?_⟩
         . rw[YaN,if_neg (by rw[<-YH4,YHn]at hb;rw[hb];simp)]at h
           exact YK (r:=((0,0),7)) h
         . rw[YaN,if_pos (by rw[<-YH4,YHA]at hb;exact hb)]at h
           exact YK (r:=((_,_),0)) h
       . rw[if_neg hp,if_neg hq]at h
         simp (disch:=omega) only[YHt]
         refine⟨⟨⟨by omega,by omega⟩,by omega,by omega⟩,_,⟨Yo _,big1 (by omega),by omega,by omega⟩,by decide,by decide,⟨⟨by omega,by omega⟩,by omega,by omega⟩,_,⟨Yo _,big1 (by omega),by omega,by omega⟩,by decide,by decide,fun hb=>?_,fun hb=>?_⟩
         . rw[YaN,if_neg (by rw[<-YH4,YHn]at hb;rw[hb];simp)]at h
           exact YK (r:=((0,0),7)) h
         . rw[YaN,if_pos (by rw[<-YH4,YHA]at hb;exact hb)]at h
           exact YK (r:=((_,_),0)) h
     . rw[Bool.and_eq_false_iff,decide_eq_false_iff_not,decide_eq_false_iff_not]at hm
       rw[if_neg (by omega),if_neg hw]at h
       unfold YiL at h
       dsimp only at h
       refine⟨fun hp=>⟨fun hq=>?_,fun hq=>?_⟩,fun hp=>⟨fun hq=>?_,fun hq=>?_⟩⟩
       . rw[if_pos hp,if_pos hq]at h
         simp (disch:=omega) only[YHt]
         refine⟨⟨⟨by omega,by omega⟩,by omega,by omega⟩,_,⟨Yo _,big1 (by omega),by omega,by omega⟩,by decide,by decide,⟨⟨by omega,by omega⟩,by omega,by omega⟩,_,⟨Yo _,big1 (by omega),by omega,by omega⟩,by decide,by decide,fun hb=>?_,fun hb=>?_⟩
         . rw[YaN,if_neg (by rw[<-YH4,YHn]at hb;rw[hb];simp)]at h
           exact YK (r:=((0,0),7)) h
         . rw[YaN,if_pos (by rw[<-YH4,YHA]at hb;exact hb)]at h
           exact YK (r:=((_,_),0)) h
       . rw[if_pos hp,if_neg hq]at h
         simp (disch:=omega) only[YHt]
         refine⟨⟨⟨by omega,by omega⟩,by omega,by omega⟩,_,⟨Yo _,big1 (by omega),by omega,by omega⟩,by decide,by decide,⟨⟨by omega,by omega⟩,by omega,by omega⟩,_,⟨Yo _,big1 (by omega),by omega,by omega⟩,by decide,by decide,fun hb=>?_,fun hb=>?_⟩
         . rw[YaN,if_neg (by rw[<-YH4,YHn]at hb;rw[hb];simp)]at h
           exact YK (r:=((0,0),7)) h
         . rw[YaN,if_pos (by rw[<-YH4,YHA]at hb;exact hb)]at h
           exact YK (r:=((_,_),0)) h
       . rw[if_neg hp,if_pos hq]at h
         simp (disch:=omega) only[YHt]
         refine⟨⟨⟨by omega,by omega⟩,by omega,by omega⟩,_,⟨Yo _,big1 (by omega),by omega,by omega⟩,by decide,by decide,⟨⟨by omega,by omega⟩,by omega,by omega⟩,_,⟨Yo _,big1 (by omega),by omega,by omega⟩,by decide,by decide,fun hb=>?_,fun hb=>?_⟩
         . rw[YaN,if_neg (by rw[<-YH4,YHn]at hb;rw[hb];simp)]at h
           exact YK (r:=((0,0),7)) h
         . rw[YaN,if_pos (by rw[<-YH4,YHA]at hb;exact hb)]at h
           exact YK (r:=((_,_),0)) h
       . rw[if_neg hp,if_neg hq]at h
         simp (disch:=omega) only[YHt]
         refine⟨⟨⟨by omega,by omega⟩,by omega,by omega⟩,_,⟨Yo _,big1 (by omega),by omega,by omega⟩,by decide,by decide,⟨⟨by omega,by omega⟩,by omega,by omega⟩,_,⟨Yo _,big1 (by omega),by omega,by omega⟩,by decide,by decide,fun hb=>?_,fun hb=>?_⟩
         . rw[YaN,if_neg (by rw[<-YH4,YHn]at hb;rw[hb];simp)]at h
           exact YK (r:=((0,0),7)) h
         . rw[YaN,if_pos (by rw[<-YH4,YHA]at hb;exact hb)]at h
           exact YK (r:=((_,_),0)) h
 . exact h.1.elim
theorem pi_ok:piC.ok YGY 42:=by
 refine Yb Tryz.func42 YGb Yp2 200 piC fun args k h=>⟨args,?_⟩
 simp only[piC,ivoC]at h
 split at h
 . rename_i x y
   refine⟨by simp [leL,le],?_⟩
   (try dsimp only[v42,Yg5,Yjf,Yg6,ivlC,timC,spanC,YfC,enc2,go_sem,reduceIte,YGU])
   (try simp only[Yc,YGU,YGW,reduceCtorEq,YGV])
   have h:k (.tup [.agg (enc2 (piF (x,y)).1),.int .i64 (piF (x,y)).2]) []:=h
   refine⟨by decide,[(x,y)],⟨⟨rfl,rfl,fun k hk=>match k,hk with|0,_=>Yd _⟩,by simp⟩,fun hc=>?_,fun hc=>?_⟩
   . rw[piF,if_pos hc]at h
     exact YK (r:=errI (ivE [(x,y)])) h
   . obtain⟨h1,h2,h3⟩:=ivE1 hc
     dsimp only at h1 h2 h3
     rw[piF,if_neg (by rw[hc];simp)]at h
     dsimp only at h
     refine⟨⟨⟨by omega,by omega⟩,by omega,by omega⟩,⟨⟨by omega,by omega⟩,by omega,by omega⟩,⟨⟨by omega,by omega⟩,by omega,by omega⟩,⟨⟨by omega,by omega⟩,by omega,by omega⟩,by decide,
       x*3141592653589793238,[x*3141592653589793239,y*3141592653589793238,y*3141592653589793239],⟨⟨rfl,rfl,fun k hk=>match k,hk with|0,_=>Yd _|1,_=>Yd _|2,_=>Yd _|3,_=>Yd _⟩,by simp,?_,by decide,by decide⟩,by decide,by decide,YK h⟩
     intro p hp
     simp only[YHx,List.not_mem_nil,or_false]at hp
     rcases hp with rfl|rfl|rfl|rfl <;> exact YmO (by omega) (by omega)
 . exact h.1.elim
theorem Yo0:sclC.ok YGY 13:=by
 refine Yb Tryz.func13 YFP Yp2 200 sclC fun args k h=>⟨args,?_⟩
 simp only[sclC]at h
 split at h
 . rename_i x y n d
   refine⟨by simp [leL,le],?_⟩
   (try dsimp only[v13,Yg5,YxQ,Yjf,Yg6,ivlC,numC,timC,spanC,YfC,enc2,go_sem,reduceIte,YGU])
   (try simp only[Yc,YGU,YGW,reduceCtorEq,YGV])
   have h:k (.tup [.agg (enc2 (sclF (x,y) n d).1),.int .i64 (sclF (x,y) n d).2]) []:=h
   refine⟨by decide,[(x,y)],⟨⟨rfl,rfl,fun k hk=>match k,hk with|0,_=>Yd _⟩,by simp⟩,?_⟩
   refine⟨fun hc=>?_,fun hc=>?_⟩
   . rw[sclF,if_pos hc]at h
     exact YK (r:=errI (ivE [(x,y)])) h
   . obtain⟨h1,h2,h3⟩:=ivE1 hc
     dsimp only at h1 h2 h3
     rw[sclF,if_neg (by rw[hc];simp)]at h
     dsimp only at h
     have hnd:=numOk_iff (x:=d)
     have hnn:=numOk_iff (x:=n)
     have hcond:(decide (d<1) || !YcD d|| !YcD n)=true↔(d<1\/4611686018427387904<d\/n< -4611686018427387904\/4611686018427387904<n):=by
       rw[YHB,YHB,decide_eq_true_eq,YHn,YHn,Bool.eq_false_iff,Bool.eq_false_iff,ne_eq,ne_eq,hnd,hnn]
       omega
     refine⟨fun hb=>?_,fun hb=>?_⟩
     . rw[if_pos (hcond.1 hb)]at h
       exact YK (r:=errI 2) h
     . have hb':¬(d<1\/4611686018427387904<d\/n< -4611686018427387904\/4611686018427387904<n):=fun hh=>by
         have:=hcond.2 hh
         rw[hb]at this;cases this
       rw[if_neg hb']at h
       rw[YHt d (by omega)]
       refine⟨⟨⟨by omega,by omega⟩,by omega,by omega⟩,⟨⟨by omega,by omega⟩,by omega,by omega⟩,by decide,
         x*n,[y*n],⟨⟨rfl,rfl,fun k hk=>match k,hk with|0,_=>Yd _|1,_=>Yd _⟩,by simp,?_,by omega,by omega⟩,by decide,by decide,YK h⟩
       intro p hp
       simp only[YHx,List.not_mem_nil,or_false]at hp
       rcases hp with rfl|rfl <;> exact YmO (by omega) (by omega)
 . exact h.1.elim
def v131:VF:=⟨34,[.tmp 4,.tmp 5],(ZR [u1 4 .mov [.cn (.int .u64 0)],u1 5 .mov [.cn (.bool false)]] (ZR [u1 6 .mov [.cn (.int .u64 1)]] (.seq (ZR [Zm 9 0,u1 10 (.cmp .lss) [.tm 9,.cn (.int .u64 2)],Zm 11 10,Zg 12 11 true 1,u2 13 11 true (.cmp .gtr) [.tm 12,.cn (.int .i64 0)],u1 14 .and [.tm 11,.tm 13]] (ZC 14 (ZR [Zm 15 0,Zm 4 15,u1 5 .mov [.cn (.bool true)]] .ret) .skip)) (.seq (ZR [Zm 16 1,Zi 17 0] (.block 0 (.loop (ZR [Zr 18 .lss 17 16] (.seq (ZC 18 .skip (.exit 0)) (.seq (.block 1 (ZR [Zm 20 6,Zm 21 0,Zd 22 69 20 21,Zm 19 22,Ze 23 0 19,Ze 24 1 19,Zm 7 23,Zm 8 24] (.seq (ZR [Zm 25 7,u1 26 (.cmp .neq) [.tm 25,.cn (.int .u64 0)],Zm 27 26,Zg 28 27 false 8,u2 29 27 false (.cmp .gtr) [.tm 28,.cn (.int .u64 4611686018427387904)],u1 30 .or [.tm 27,.tm 29]] (ZC 30 (ZR [u1 4 .mov [.cn (.int .u64 0)],u1 5 .mov [.cn (.bool false)]] .ret) .skip)) (.region [Zm 31 8,Zm 6 31])))) (.region [Zp 32 17 1,Zm 17 32]))))))) (ZR [Zm 33 6,Zm 4 33,u1 5 .mov [.cn (.bool true)]] .ret)))))⟩
theorem YBc:Yf YGY Tryz.f131=some v131:=by kernel_rfl
def v130:VF:=⟨45,[.tmp 4],(ZR [u1 4 .mov [.cn (.int .u64 0)]] (ZR [Zm 10 0,u1 11 (.ari .add) [.tm 10,.cn (.int .u64 1)],u1 5 .mov [.cn (.int .u64 0)],Zm 6 11] (.seq (ZR [Zm 12 1,Zq 13 .gtr 12 1] (ZC 13 (.region [Zm 14 6,Zm 15 1,u1 16 .quo [.cn (.int .i64 62),.tm 15],Zp 17 16 1,u1 18 .shl [.cn (.int .u64 1),.tm 17],u1 19 .min [.tm 14,.tm 18],Zm 6 19]) .skip)) (.seq (.block 0 (.loop (.seq (ZR [Zm 20 6,Zm 21 5,Zo 22 .sub 20 21,u1 23 (.cmp .gtr) [.tm 22,.cn (.int .u64 1)]] (ZC 23 .skip (.exit 0))) (.block 1 (ZR [Zm 24 5,Zm 25 6,Zm 26 5,Zo 27 .sub 25 26,u1 28 .quo [.tm 27,.cn (.int .u64 2)],Zo 29 .add 24 28,Zm 7 29] (ZR [Zm 31 7,Zm 32 1,Zd 33 131 31 32,Zm 30 33,Ze 34 0 30,Ze 35 1 30,Zm 8 34,Zm 9 35] (ZR [Zm 36 9,Zm 37 36,Zg 38 37 true 8,Zg 39 37 true 0,u2 40 37 true (.cmp .leq) [.tm 38,.tm 39],u1 41 .and [.tm 37,.tm 40]] (ZC 41 (.region [Zm 42 7,Zm 5 42]) (.region [Zm 43 7,Zm 6 43]))))))))) (ZR [Zm 44 5,Zm 4 44] .ret)))))⟩
theorem YBb:Yf YGY Tryz.f130=some v130:=by kernel_rfl
def v110:VF:=⟨58,[.cell 4 true 2,.tmp 5],(ZR [u1 2 .box [.tm 0],Zn 4,Zi 5 0] (ZR [Zt 10 2 2,u1 11 (.buildSlice 2 1 [(.int .i64 0),(.int .i64 0)] [(0,2)]) [.tm 10],Zc 12 37 11,Zm 6 12] (.seq (.block 0 (ZR [Zm 14 6,Zq 15 .neq 14 0,Zm 13 15] (ZC 13 (ZR [u1 16 (.build [(.int .i64 0),(.int .i64 0)] []) [],Zm 17 6,Zs 2 4 16,Zm 5 17] .ret) (ZR [Zm 19 1,Zq 20 .lss 19 1,Zm 21 20,Zg 22 21 false 1,u2 23 21 false (.cmp .gtr) [.tm 22,.cn (.int .i64 62)],u1 24 .or [.tm 21,.tm 23],Zm 18 24] (ZC 18 (ZR [u1 25 (.build [(.int .i64 0),(.int .i64 0)] []) [],Zs 2 4 25,Zi 5 2] .ret) (ZR [Za 27 0 2,Zf 28 1 27,Zq 29 .lss 28 0,Zm 26 29] (ZC 26 (ZR [u1 30 (.build [(.int .i64 0),(.int .i64 0)] []) [],Zs 2 4 30,Zi 5 9] .ret) .skip))))))) (ZR [Za 31 1 2,Zf 32 1 31,u1 33 (.conv .u64) [.tm 32],Zm 34 1,Zd 35 130 33 34,Zm 7 35] (.seq (ZR [Zm 37 7,Zm 38 1,Zd 39 131 37 38,Zm 36 39,Ze 40 0 36,Ze 41 1 36,Zm 8 40,Zm 9 41] (ZR [Zm 42 8,Za 43 1 2,Zf 44 1 43,u1 45 (.conv .u64) [.tm 44],Zr 46 .lss 42 45] (ZC 46 (.region [Zm 47 7,u1 48 (.ari .add) [.tm 47,.cn (.int .u64 1)],Zm 7 48]) .skip))) (ZR [Za 49 0 2,Zf 50 1 49,u1 51 (.conv .u64) [.tm 50],Zm 52 1,Zd 53 130 51 52,u1 54 (.conv .i64) [.tm 53],Zm 55 7,u1 56 (.conv .i64) [.tm 55],u1 57 (.build [(.int .i64 0),(.int .i64 0)] [(0,1),(1,1)]) [.tm 54,.tm 56],Zs 2 4 57,Zi 5 0] .ret))))))⟩
theorem YAR:Yf YGY Tryz.f110=some v110:=by kernel_rfl
def powP(n k:Nat):Nat×Bool:=if n^k<=4611686018427387904 then(n^k,true)else(0,false)
def powpC:Ctr:={ alias:=false,of:=fun l=>match l with
 | [.int .u64 n,.int .i64 k]=> .pre ((0<=n/\n<=18446744073709551615)/\0<=k/\k<=1000) (.fin (.tup [.int .u64 (powP n.toNat k.toNat).1,.bool (powP n.toNat k.toNat).2]) [])
 |_=>noC}
def rootpC:Ctr:={ alias:=false,of:=fun l=>match l with
 | [.int .u64 n,.int .i64 k]=> .pre ((0<=n/\n<=4611686018427387904)/\1<=k/\k<=62) (.fin (.int .u64 (YeO n.toNat k.toNat)) [])
 |_=>noC}
def rootC:Ctr:={ alias:=false,of:=fun a=>match a with
 | [.agg [.int .i64 x,.int .i64 y],.int .i64 k]=> .fin (.tup [.agg (enc2 (Ykw (x,y) k).1),.int .i64 (Ykw (x,y) k).2]) []
 |_=>noC}
def P5:Env:={ ct:=fun n=>match n with|69=>some mul64C|93=>some div64C|_=>none,fn:=fun _=>none,meth:=fun _ _=>none}
theorem YxS:P5.ct 69=some mul64C:=rfl
theorem P5_ok:Yl YGY P5:=by
 refine⟨fun f c h=>?_,fun f vf h=>?_,(fun _ _ _ h=>by cases h),by kernel_rfl,(fun _ h=>by cases h)⟩
 . simp only[P5]at h
   split at h
   . cases h;exact⟨YfE,Tryz.f69,Tryz.func69,by kernel_rfl,by kernel_rfl⟩
   . cases h;exact⟨YjQ,Tryz.f93,Tryz.func93,by kernel_rfl,by kernel_rfl⟩
   . cases h
 . cases h
theorem YqZ{k:SV->List HO->Prop}{al:Bool}{hp:List HO}{κ:IntKind}{x:Int}{b:Bool}(h:k (.tup [.int κ x,.bool b]) []):Yy al k (.tup [.int κ x,.bool b]) hp:=
 YD (show k _ []from h) (Yw (.tup [.int κ x,.bool b]) ⟨trivial,trivial,trivial⟩) (fun _=>by simp [Yj,Yk])
theorem Ytb:powpC.ok YGY 131:=by
 refine Yb Tryz.func131 YBc P5_ok 300 powpC fun args k h=>⟨args,?_⟩
 simp only[powpC]at h
 split at h
 . rename_i n e
   obtain⟨⟨⟨h0,h1⟩,h2,h3⟩,h⟩:=h
   obtain⟨n,rfl⟩:=YHL h0
   obtain⟨e,rfl⟩:=YHL h2
   refine⟨by simp [leL,le],?_⟩
   (try dsimp only[v131,go_sem,reduceIte,YGU])
   (try simp only[Yc,YGU,YGW,reduceCtorEq,YGV])
   have h:k (.tup [.int .u64 (powP n e).1,.bool (powP n e).2]) []:=h
   refine⟨fun hc=>?_,fun hc=>?_⟩
   . rw[YG2,decide_eq_true_eq,decide_eq_true_eq]at hc
     have:n^e=n:=by
       rcases(by omega:n=0\/n=1)with rfl|rfl
       . exact Nat.zero_pow (by omega)
       . exact Nat.one_pow _
     rw[powP,this,if_pos (by omega)]at h
     exact YqZ h
   . rw[Bool.and_eq_false_iff,decide_eq_false_iff_not,decide_eq_false_iff_not]at hc
     refine Loop.keep [0,15] Nat (fun i=>[(6,.int .u64 ((n^i:Nat):Int)),(17,.int .i64 i)]) (fun _=>[]) [] (fun i=>i<=e/\n^i<=4611686018427387904) (fun i=>e-i) ?_ ?_
     . refine⟨0,⟨Nat.zero_le _,by simp⟩,?_⟩
       (try dsimp only[go_sem,reduceIte,YGU])
       simp only[Ya] <;> simp
     . rintro i ⟨hi,hp⟩
       (try dsimp only[YxS,mul64C,go_sem,reduceIte,YGU])
       (try simp only[Yc,YGU,YGW,reduceCtorEq,YGV])
       have e0:((n^i:Nat):Int)*(n:Int)=((n^(i+1):Nat):Int):=by rw[YHo];exact(YHZ _ _).symm
       rw[e0]
       refine⟨fun hlt=>⟨⟨⟨by omega,by omega⟩,by omega,by omega⟩,by decide,by decide,fun hb=>?_,fun hb=>⟨i+1,⟨by omega,?_⟩,by omega,?_⟩⟩,fun hge=>?_⟩
       . have hbig:4611686018427387904<n^(i+1):=by
           rw[YHB,YHn,decide_eq_false_iff_not,decide_eq_true_eq]at hb
           generalize n^(i+1)=t at*
           omega
         have hle:n^(i+1)<=n^e:=YHl (by omega) (by omega)
         rw[powP,if_neg (by omega)]at h
         exact YqZ h
       . rw[YHq,YHA,decide_eq_true_eq,decide_eq_false_iff_not]at hb
         generalize n^(i+1)=t at*
         omega
       . have hm:((n^(i+1):Nat):Int)%18446744073709551616=((n^(i+1):Nat):Int):=by
           rw[YHq,YHA,decide_eq_true_eq,decide_eq_false_iff_not]at hb
           generalize n^(i+1)=t at*
           omega
         rw[hm,Yif (n:=e) (by omega) (by omega)]
         simp only[Ya] <;> simp
       . obtain rfl:i=e:=by omega
         rw[powP,if_pos hp]at h
         exact YqZ h
 . exact h.1.elim
def P6:Env:={ ct:=fun n=>match n with|69=>some mul64C|93=>some div64C|131=>some powpC|70=>some sizC|37=>some ivlC|_=>none,fn:=fun _=>none,meth:=fun _ _=>none}
theorem Ynx:P6.ct 131=some powpC:=rfl
theorem P6_ok:Yl YGY P6:=by
 refine⟨fun f c h=>?_,fun f vf h=>?_,(fun _ _ _ h=>by cases h),by kernel_rfl,(fun _ h=>by cases h)⟩
 . simp only[P6]at h
   split at h
   . cases h;exact⟨YfE,Tryz.f69,Tryz.func69,by kernel_rfl,by kernel_rfl⟩
   . cases h;exact⟨YjQ,Tryz.f93,Tryz.func93,by kernel_rfl,by kernel_rfl⟩
   . cases h;exact⟨Ytb,Tryz.f131,Tryz.func131,by kernel_rfl,by kernel_rfl⟩
   . cases h;exact⟨Yxp,Tryz.f70,Tryz.func70,by kernel_rfl,by kernel_rfl⟩
   . cases h;exact⟨Yoy,Tryz.f37,Tryz.func37,by kernel_rfl,by kernel_rfl⟩
   . cases h
 . cases h
theorem Ywc:rootpC.ok YGY 130:=by
 refine Yb Tryz.func130 YBb P6_ok 300 rootpC fun args k h=>⟨args,?_⟩
 simp only[rootpC]at h
 split at h
 . rename_i n e
   obtain⟨⟨⟨h0,h1⟩,h2,h3⟩,h⟩:=h
   obtain⟨n,rfl⟩:=YHL h0
   obtain⟨e,rfl⟩:=YHL (by omega:0<=e)
   refine⟨by simp [leL,le],?_⟩
   (try dsimp only[v130,go_sem,reduceIte,YGU])
   (try simp only[Yc,YGU,YGW,reduceCtorEq,YGV])
   have h:k (.int .u64 (YeO n e)) []:=h
   have e1:IntKind.i64.wrap (IntKind.i64.wrap (Int.tdiv 62 (e:Int))+1)=((62/e+1:Nat):Int):=by
     have:Int.tdiv 62 (e:Int)=((62/e:Nat):Int):=IntWalk.up_tdiv (x:=62) rfl rfl
     have hle:62/e<=62:=Nat.div_le_self _ _
     generalize 62/e=t at*
     rw[this,YGZ (t:Int) (by omega),YGZ _ (by omega)];omega
   have e2:IntKind.u64.wrap ((n:Int)+1)=((n+1:Nat):Int):=by rw[YHt _ (by omega)];omega
   refine⟨fun hgt=>⟨by omega,?_⟩,fun hle=>?_⟩
   . have hq:62/e<=31:=by
       have:62/e<=62/2:=Nat.div_le_div_left (by omega) (by decide)
       omega
     have e3:IntKind.u64.wrap (1*2^min (62/e+1) 64)=((2^(62/e+1):Nat):Int):=by
       have h1:=Yge (x:=1) (s:=62/e+1) (by omega) (by
         rw[YHN]
         exact YHG (YHl (by decide) (by omega:62/e+1<=32)) (by decide))
       rw[YHN]at h1
       exact h1
     rw[e1,e2]
     simp only[YG0]
     rw[e3]
     refine⟨Int.natCast_nonneg _,?_⟩
     have hhigh:n<(min (n+1) (2^(62/e+1)))^e:=by
       rcases Nat.le_total (n+1) (2^(62/e+1))with hm|hm
       . rw[Nat.min_eq_left hm]
         exact YHM (Nat.lt_succ_self n) (YHc (YH2 (Nat.pow_one _).symm) (YHl (by omega) (by omega)))
       . rw[Nat.min_eq_right hm,<-YHf]
         have h63:63<=(62/e+1)*e:=by
           have:=YHH 62 e
           have:=YHT 62 (by omega:e>0)
           rw[Nat.succ_mul,YG4];omega
         exact YHM (by omega:n<2^63) (YHl (by decide) h63)
     have hm:min ((n+1:Nat):Int) ((2^(62/e+1):Nat):Int)=((min (n+1) (2^(62/e+1)):Nat):Int):=by omega
     rw[hm]
     have hmb:min (n+1) (2^(62/e+1))<=n+1:=Nat.min_le_left _ _
     generalize min (n+1) (2^(62/e+1))=H at hhigh hmb⊢
     refine Loop.keep [0,0] (Nat×Nat) (fun x=>[(5,.int .u64 x.1),(6,.int .u64 x.2)]) (fun _=>[]) [] (fun x=>x.1^e<=n/\n<x.2^e/\x.1<x.2/\x.2<=n+1) (fun x=>x.2-x.1) ?_ ?_
     . refine⟨(0,H),⟨by rw[Nat.zero_pow (by omega)];exact Nat.zero_le _,hhigh,?_,by omega⟩,?_⟩
       . refine Nat.pos_of_ne_zero fun h0=>?_
         have h0:H=0:=h0
         rw[h0,Nat.zero_pow (by omega)]at hhigh
         exact absurd hhigh (Nat.not_lt_zero _)
       . (try dsimp only[go_sem,reduceIte,YGU])
         simp only[Ya] <;> simp
     . rintro⟨l,u⟩ ⟨hl,hu,hlu,hun⟩
       dsimp only at hl hu hlu hun
       (try dsimp only[Ynx,powpC,go_sem,reduceIte,YGU])
       (try simp only[Yc,YGU,YGW,reduceCtorEq,YGV])
       have w1:IntKind.u64.wrap ((u:Int)-(l:Int))=((u-l:Nat):Int):=YAH (by omega) (by omega)
       have w2:IntKind.u64.wrap (((u-l:Nat):Int).tdiv 2)=(((u-l)/2:Nat):Int):=by
         have:((u-l:Nat):Int).tdiv 2=(((u-l)/2:Nat):Int):=IntWalk.up_tdiv (y:=2) rfl rfl
         rw[this];exact Yce (by omega)
       have w3:IntKind.u64.wrap ((l:Int)+(((u-l)/2:Nat):Int))=((l+(u-l)/2:Nat):Int):=YgG (by omega)
       rw[w1,w2,w3]
       simp only[YG0]
       refine⟨fun hgt=>⟨by decide,⟨⟨by omega,by omega⟩,by omega,by omega⟩,by decide,by decide,?_⟩,fun hle=>?_⟩
       . generalize hM:l+(u-l)/2=M
         have hM1:l<M:=by omega
         have hM2:M<u:=by omega
         have hcond:((powP M e).2&&decide (((powP M e).1:Int)<=(n:Int)))=true↔M^e<=n:=by
           unfold powP
           split
           . simp only[Bool.true_and,decide_eq_true_eq]
             generalize M^e=t
             omega
           . simp only[Bool.false_and,YHm,false_iff]
             generalize M^e=t at*
             omega
         refine⟨fun hb=>⟨(M,u),⟨hcond.1 hb,hu,hM2,hun⟩,by simp only;omega,?_⟩,fun hb=>⟨(l,M),⟨hl,?_,hM1,by simp only;omega⟩,by simp only;omega,?_⟩⟩
         . simp only[Ya]
         . refine Nat.lt_of_not_le fun hh=>?_
           have:=hcond.2 hh
           rw[hb]at this;cases this
         . simp only[Ya]
       . obtain rfl:u=l+1:=by omega
         rw[Ykx (by omega) hl hu]at h
         exact Yi h
   . have hhigh:n<(n+1)^e:=YHM (Nat.lt_succ_self n) (YHc (YH2 (Nat.pow_one _).symm) (YHl (by omega) (by omega)))
     rw[e2]
     have hmb:n+1<=n+1:=YG8 _
     generalize hH:n+1=H at hhigh⊢
     rw[hH]at hmb
     refine Loop.keep [0,0] (Nat×Nat) (fun x=>[(5,.int .u64 x.1),(6,.int .u64 x.2)]) (fun _=>[]) [] (fun x=>x.1^e<=n/\n<x.2^e/\x.1<x.2/\x.2<=n+1) (fun x=>x.2-x.1) ?_ ?_
     . refine⟨(0,H),⟨by rw[Nat.zero_pow (by omega)];exact Nat.zero_le _,hhigh,?_,by omega⟩,?_⟩
       . refine Nat.pos_of_ne_zero fun h0=>?_
         have h0:H=0:=h0
         rw[h0,Nat.zero_pow (by omega)]at hhigh
         exact absurd hhigh (Nat.not_lt_zero _)
       . (try dsimp only[go_sem,reduceIte,YGU])
         simp only[Ya] <;> simp
     . rintro⟨l,u⟩ ⟨hl,hu,hlu,hun⟩
       dsimp only at hl hu hlu hun
       (try dsimp only[Ynx,powpC,go_sem,reduceIte,YGU])
       (try simp only[Yc,YGU,YGW,reduceCtorEq,YGV])
       have w1:IntKind.u64.wrap ((u:Int)-(l:Int))=((u-l:Nat):Int):=YAH (by omega) (by omega)
       have w2:IntKind.u64.wrap (((u-l:Nat):Int).tdiv 2)=(((u-l)/2:Nat):Int):=by
         have:((u-l:Nat):Int).tdiv 2=(((u-l)/2:Nat):Int):=IntWalk.up_tdiv (y:=2) rfl rfl
         rw[this];exact Yce (by omega)
       have w3:IntKind.u64.wrap ((l:Int)+(((u-l)/2:Nat):Int))=((l+(u-l)/2:Nat):Int):=YgG (by omega)
       rw[w1,w2,w3]
       simp only[YG0]
       refine⟨fun hgt=>⟨by decide,⟨⟨by omega,by omega⟩,by omega,by omega⟩,by decide,by decide,?_⟩,fun hle=>?_⟩
       . generalize hM:l+(u-l)/2=M
         have hM1:l<M:=by omega
         have hM2:M<u:=by omega
         have hcond:((powP M e).2&&decide (((powP M e).1:Int)<=(n:Int)))=true↔M^e<=n:=by
           unfold powP
           split
           . simp only[Bool.true_and,decide_eq_true_eq]
             generalize M^e=t
             omega
           . simp only[Bool.false_and,YHm,false_iff]
             generalize M^e=t at*
             omega
         refine⟨fun hb=>⟨(M,u),⟨hcond.1 hb,hu,hM2,hun⟩,by simp only;omega,?_⟩,fun hb=>⟨(l,M),⟨hl,?_,hM1,by simp only;omega⟩,by simp only;omega,?_⟩⟩
         . simp only[Ya]
         . refine Nat.lt_of_not_le fun hh=>?_
           have:=hcond.2 hh
           rw[hb]at this;cases this
         . simp only[Ya]
       . obtain rfl:u=l+1:=by omega
         rw[Ykx (by omega) hl hu]at h
         exact Yi h
 . exact h.1.elim
def P7:Env:={ ct:=fun n=>match n with|131=>some powpC|130=>some rootpC|37=>some ivlC|_=>none,fn:=fun _=>none,meth:=fun _ _=>none}
theorem Yue:P7.ct 131=some powpC:=rfl
theorem Yud:P7.ct 130=some rootpC:=rfl
theorem YxT:P7.ct 37=some ivlC:=rfl
theorem P7_ok:Yl YGY P7:=by
 refine⟨fun f c h=>?_,fun f vf h=>?_,(fun _ _ _ h=>by cases h),by kernel_rfl,(fun _ h=>by cases h)⟩
 . simp only[P7]at h
   split at h
   . cases h;exact⟨Ytb,Tryz.f131,Tryz.func131,by kernel_rfl,by kernel_rfl⟩
   . cases h;exact⟨Ywc,Tryz.f130,Tryz.func130,by kernel_rfl,by kernel_rfl⟩
   . cases h;exact⟨Yoy,Tryz.f37,Tryz.func37,by kernel_rfl,by kernel_rfl⟩
   . cases h
 . cases h
theorem YoX{n k:Nat}(hk:0<k):YeO n k<=n:=by
 have h:=(Ygc (n:=n) hk).1
 generalize YeO n k=r at*
 cases r with
 |zero=>exact Nat.zero_le _
 |succ r=>exact YHc (YHc (YH2 (Nat.pow_one _).symm) (YHl (by omega) hk)) h
theorem YAq:rootC.ok YGY 110:=by
 refine Yb Tryz.func110 YAR P7_ok 300 rootC fun args k h=>⟨args,?_⟩
 simp only[rootC]at h
 split at h
 . rename_i x y e
   refine⟨by simp [leL,le],?_⟩
   (try dsimp only[v110,YxT,Yue,Yud,ivlC,powpC,rootpC,enc2,go_sem,reduceIte,YGU])
   (try simp only[Yc,YGU,YGW,reduceCtorEq,YGV])
   have h:k (.tup [.agg (enc2 (Ykw (x,y) e).1),.int .i64 (Ykw (x,y) e).2]) []:=h
   refine⟨by decide,[(x,y)],⟨⟨rfl,rfl,fun k hk=>match k,hk with|0,_=>Yd _⟩,by simp⟩,fun hc=>?_,fun hc=>?_⟩
   . rw[Ykw,if_pos hc]at h
     exact YK (r:=errI (ivE [(x,y)])) h
   . obtain⟨h1,h2,h3⟩:=ivE1 hc
     dsimp only at h1 h2 h3
     rw[Ykw,if_neg (by rw[hc];simp)]at h
     dsimp only at h
     refine⟨fun hb=>?_,fun hb=>⟨fun hx=>?_,fun hx=>?_⟩⟩
     . rw[YHB,decide_eq_true_eq,decide_eq_true_eq]at hb
       rw[if_pos hb]at h
       exact YK (r:=errI 2) h
     . rw[YHq,decide_eq_false_iff_not,decide_eq_false_iff_not]at hb
       rw[if_neg (by omega),if_pos hx]at h
       exact YK (r:=errI 9) h
     . rw[YHq,decide_eq_false_iff_not,decide_eq_false_iff_not]at hb
       rw[if_neg (by omega),if_neg hx]at h
       obtain⟨x,rfl⟩:=YHL (by omega:0<=x)
       obtain⟨y,rfl⟩:=YHL (by omega:0<=y)
       obtain⟨e,rfl⟩:=YHL (by omega:0<=e)
       rw[YHt (x:Int) (by omega),YHt (y:Int) (by omega)]
       simp only[YG0]at h⊢
       have sx:=Ygc (n:=x) (k:=e) (by omega)
       have sy:=Ygc (n:=y) (k:=e) (by omega)
       have lx:=YoX (n:=x) (k:=e) (by omega)
       have ly:=YoX (n:=y) (k:=e) (by omega)
       have hp:powP (YeO y e) e=(YeO y e^e,true):=by unfold powP;rw[if_pos (by omega)]
       rw[hp]
       unfold Yxm at h
       generalize YeO x e=rx at*
       generalize YeO y e=ry at*
       rw[YGZ (rx:Int) (by omega),YGZ (ry:Int) (by omega),YHt ((ry:Int)+1) (by omega),YGZ ((ry:Int)+1) (by omega)]
       refine⟨⟨⟨by omega,by omega⟩,by omega,by omega⟩,⟨⟨by omega,by omega⟩,by omega,by omega⟩,by decide,by decide,fun hc=>⟨⟨⟨by omega,by omega⟩,by omega,by omega⟩,?_⟩,fun hc=>⟨⟨⟨by omega,by omega⟩,by omega,by omega⟩,?_⟩⟩
       . rw[if_pos (by omega)]at h
         exact YK (r:=((_,_),0)) h
       . rw[if_neg (by omega)]at h
         exact YK (r:=((_,_),0)) h
 . exact h.1.elim
structure Prt where
 a:Iv
 b:Iv
 e:Int
theorem YeW{T:Tm}(h:Yat T=0):(0<=T.wolf/\T.wolf<=11)/\(∀j,j<12->badT (T.p j)=false)/\Ykp T.nm=true/\(∀j,j<12->gcdT (T.p j)=1)/\(T.p T.wolf.toNat).1=0/\allT T 12<=120:=by
 unfold Yat at h
 split at h
 . exact absurd h (by decide)
 rename_i h1
 split at h
 . exact absurd h (by decide)
 rename_i h2
 split at h
 . exact absurd h (by decide)
 rename_i h3
 split at h
 . exact absurd h (by decide)
 rename_i h4
 have h5:Ykp T.nm=true/\lowT T 12=true/\(T.p T.wolf.toNat).1=0:=by
   refine⟨?_,?_,?_⟩
   . cases hn:Ykp T.nm
     . exact absurd (.inl hn) h3
     . rfl
   . cases hn:lowT T 12
     . exact absurd (.inr (.inl hn)) h3
     . rfl
   . exact Classical.byContradiction fun hn=>h3 (.inr (.inr hn))
 refine⟨by omega,fun j hj=>?_,h5.1,fun j hj=>?_,h5.2.2,by omega⟩
 . cases hb:badT (T.p j)
   . rfl
   . exact absurd (Yq8 hj hb) h2
 . have:=List.all_eq_true.1 h5.2.1 j (List.mem_range.2 hj)
   exact of_decide_eq_true this
theorem YnQ{T:Tm}:∀{k i:Nat},i<k->allT T k<=120->(T.p i).2.toNat∣allT T k
 |k+1,i,hi,h=>by
   rw[allT]at h⊢
   by_cases c:allT T k<=120
   . rw[if_pos c]at h⊢
     by_cases e:i=k
     . rw[e];exact Nat.dvd_mul_left ..
     . have ih:=YnQ (T:=T) (show i<k by omega) c
       refine Nat.dvd_trans ih ?_
       obtain⟨x,hx⟩:=Nat.gcd_dvd_left (allT T k) (T.p k).2.toNat
       obtain⟨y,hy⟩:=Nat.gcd_dvd_right (allT T k) (T.p k).2.toNat
       generalize YH6 (allT T k) (T.p k).2.toNat=g at*
       refine⟨y,?_⟩
       rcases YHR g with h0|h0
       . rw[h0,Nat.zero_mul]at hx hy
         rw[hx,hy,h0]
         simp
       . rw[hx,hy,Nat.mul_div_cancel_left _ h0]
         simp only[YG6,YHw]
   . rw[if_neg c]at h
     exact absurd h c
def Lm(T:Tm):Int:=allT T 12
def tI(T:Tm)(i:Nat):Int:=(T.p i).1*(Lm T/(T.p i).2)
def cA(T:Tm):Int:=if T.syn=true then -4 else -19
def cB(T:Tm):Int:=if T.syn=true then 4 else 12
def cC(T:Tm):Int:=if T.syn=true then -1 else 0
def bB(T:Tm):Int:=if T.syn=true then 9 else 25
def bC(T:Tm):Int:=if T.syn=true then 2 else 0
theorem Yn6(T:Tm):Yfo T=⟨cA T,cB T,cC T,0,0,0,1⟩:=by
 unfold Yfo cA cB cC
 split
 . decide+kernel
 . decide+kernel
theorem of_32:(ofRF 3 2).1=⟨-1,1,0,0,0,0,1⟩:=by decide+kernel
theorem YEk:(ofRF 128 1).1=⟨7,0,0,0,0,0,1⟩:=by decide+kernel
theorem of_11:(ofRF 1 1).1=⟨0,0,0,0,0,0,1⟩:=by decide+kernel
theorem Ydw{T:Tm}(h:Yat T=0):1<=Lm T/\Lm T<=120:=by
 obtain⟨_,h1,_,_,_,h2⟩:=YeW h
 have:=(YgK (T:=T) (i:=12) h1).1
 unfold Lm;omega
theorem Yxr{T:Tm}(h:Yat T=0){i:Nat}(hi:i<12): -2*Lm T<=tI T i/\tI T i<=2*Lm T/\(Lm T/(T.p i).2)*(T.p i).2=Lm T:=by
 obtain⟨_,h1,_,_,_,h2⟩:=YeW h
 obtain⟨b1,b2,b3⟩:=YnX (h1 i hi)
 have hL:=Ydw h
 have hd:(T.p i).2∣Lm T:=by
   have:=Int.natCast_dvd_natCast.2 (YnQ hi h2)
   rwa [YHs (by omega)]at this
 have he:=Int.ediv_mul_cancel hd
 have hm:0<=Lm T/(T.p i).2:=Int.ediv_nonneg (by omega) (by omega)
 unfold tI
 generalize Lm T/(T.p i).2=m at*
 have k1:=YHj b2 hm
 have k2:=YHj b3 hm
 have e1: -2*(T.p i).2*m= -2*Lm T:=by rw[<-he];grind
 have e2:2*(T.p i).2*m=2*Lm T:=by rw[<-he];grind
 exact⟨by omega,by omega,he⟩
theorem YzV{T:Tm}(h:Yat T=0){i:Nat}(hi:i<12):Rep (Lm T) (pwrF (Yfo T) (T.p i).1 (T.p i).2).1 (cA T*tI T i) (cB T*tI T i) (cC T*tI T i):=by
 have hL:=Ydw h
 obtain⟨t1,t2,t3⟩:=Yxr h hi
 obtain⟨_,h1,_,_,_,h2⟩:=YeW h
 obtain⟨b1,b2,b3⟩:=YnX (h1 i hi)
 have hk:chkR (Yfo T)=0:=by
   rw[Yn6];unfold cA cB cC;cases T.syn <;> decide+kernel
 have hbad:YmN (T.p i).1 (T.p i).2=false:=by
   simp only[YmN,YHq,decide_eq_false_iff_not];omega
 have e:pwrF (Yfo T) (T.p i).1 (T.p i).2=powN (Yfo T) (T.p i).1 (T.p i).2:=by
   unfold pwrF
   rw[if_neg (by rw[hk];decide),if_neg (by rw[hbad];decide),if_neg (by omega)]
 rw[e,powN,Yn6]
 have key:∀v:Int,v*(T.p i).1*Lm T=v*tI T i*(1*(T.p i).2):=fun v=>by
   unfold tI
   have e1:v*(T.p i).1*Lm T=v*(T.p i).1*(Lm T/(T.p i).2*(T.p i).2):=by rw[t3]
   rw[e1];grind
 have smv:∀v:Int, -19<=v->v<=19->sm (v*tI T i):=fun v v1 v2=>by
   have:=YaS (x:=v) (y:=tI T i) (X:=19) (Y:=240) ⟨v1,v2⟩ (by omega)
   unfold sm;omega
 have rA: -19<=cA T/\cA T<=19:=by unfold cA;split <;> omega
 have rB: -19<=cB T/\cB T<=19:=by unfold cB;split <;> omega
 have rC: -19<=cC T/\cC T<=19:=by unfold cC;split <;> omega
 exact(Ykn (L:=Lm T) (by omega) (by simp only;omega) (key _) (key _) (key _) (by simp) (by simp) (by simp) (smv _ rA.1 rA.2) (smv _ rB.1 rB.2) (smv _ rC.1 rC.2)).2
def fA(T:Tm)(i:Nat):Int:= -Lm T-cA T*tI T i
def fB(T:Tm)(i:Nat):Int:=Lm T-cB T*tI T i
def fC(T:Tm)(i:Nat):Int:= -(cC T*tI T i)
theorem Yvl{T:Tm}(h:Yat T=0){i:Nat}(hi:i<12):(-(39*Lm T)<=fA T i/\fA T i<=39*Lm T)/\(-(bB T*Lm T)<=fB T i/\fB T i<=bB T*Lm T)/\ -(bC T*Lm T)<=fC T i/\fC T i<=bC T*Lm T:=by
 have hL:=Ydw h
 obtain⟨t1,t2,_⟩:=Yxr h hi
 unfold fA fB fC cA cB cC bB bC
 split <;> omega
theorem YrT{T:Tm}(h:Yat T=0){i:Nat}(hi:i<12):Rep (Lm T) (fifR T i) (fA T i) (fB T i) (fC T i):=by
 have hL:=Ydw h
 have r32:Rep (Lm T) (ofRF 3 2).1 (-Lm T) (Lm T) 0:=by
   rw[of_32]
   exact⟨by decide+kernel,by simp,by simp,by simp,rfl,rfl,rfl⟩
 have hf:=Yvl h hi
 have hb:bB T<=25/\bC T<=2/\0<=bB T/\0<=bC T:=by unfold bB bC;split <;> omega
 have m1:=YHj hb.1 (show 0<=Lm T by omega)
 have m2:=YHj hb.2.1 (show 0<=Lm T by omega)
 have e1: -Lm T+ -1*(cA T*tI T i)=fA T i:=by unfold fA;omega
 have e2:Lm T+ -1*(cB T*tI T i)=fB T i:=by unfold fB;omega
 have e3:0+ -1*(cC T*tI T i)=fC T i:=by unfold fC;omega
 have:=(YgS (s:= -1) (by omega) r32 (YzV h hi) (by rw[e1];unfold sm;omega) (by rw[e2];unfold sm;omega) (by rw[e3];unfold sm;omega)).2
 exact this.cast e1 e2 e3
def sumF(f:Nat->Int)(w:Int):Nat->Int
 |0=>0
 |i+1=>sumF f w i+(if(i:Int)=w then 0 else f i)
theorem YkJ{f:Nat->Int}{w B:Int}(hB:0<=B)(h:∀i,i<12-> -B<=f i/\f i<=B)(i:Nat):∀d,i+d<=12-> -(B*d)<=sumF f w (i+d)-sumF f w i/\sumF f w (i+d)-sumF f w i<=B*d
 |0,_=>by simp
 |d+1,hd=>by
   have ih:=YkJ hB h (w:=w) i d (by omega)
   rw[<-Nat.add_assoc,sumF]
   have:=h (i+d) (by omega)
   have e:B*((d+1:Nat):Int)=B*d+B:=by rw[Int.natCast_add,Int.mul_add];simp
   rw[e]
   split <;> omega
def gA(T:Tm)(i:Nat):Int:=sumF (fA T) T.wolf i
def gB(T:Tm)(i:Nat):Int:=sumF (fB T) T.wolf i
def gC(T:Tm)(i:Nat):Int:=sumF (fC T) T.wolf i
theorem Yiz{T:Tm}(h:Yat T=0):0<=bB T*Lm T/\bB T*Lm T<=3000/\0<=bC T*Lm T/\bC T*Lm T<=240:=by
 have hL:=Ydw h
 have hb:bB T<=25/\bC T<=2/\0<=bB T/\0<=bC T:=by unfold bB bC;split <;> omega
 have m1:=YHj hb.1 (show 0<=Lm T by omega)
 have m2:=YHj hb.2.1 (show 0<=Lm T by omega)
 exact⟨YG7 hb.2.2.1 (by omega),by omega,YG7 hb.2.2.2 (by omega),by omega⟩
theorem g_bd{T:Tm}(h:Yat T=0)(i d:Nat)(hd:i+d<=12):(-(39*Lm T*d)<=gA T (i+d)-gA T i/\gA T (i+d)-gA T i<=39*Lm T*d)/\(-(bB T*Lm T*d)<=gB T (i+d)-gB T i/\gB T (i+d)-gB T i<=bB T*Lm T*d)/\ -(bC T*Lm T*d)<=gC T (i+d)-gC T i/\gC T (i+d)-gC T i<=bC T*Lm T*d:=by
 have hL:=Ydw h
 have hb:=Yiz h
 exact⟨YkJ (by omega) (fun j hj=>(Yvl h hj).1) i d hd,YkJ hb.1 (fun j hj=>(Yvl h hj).2.1) i d hd,YkJ hb.2.2.1 (fun j hj=>(Yvl h hj).2.2) i d hd⟩
theorem Yko{B:Int}{d n:Nat}(hB:0<=B)(h:d<=n):B*d<=B*n:=YHb (by omega) hB
theorem YoW{T:Tm}(h:Yat T=0):∀i,i<=12->Rep (Lm T) (Ya3 T i) (7*Lm T-gA T i) (-gB T i) (-gC T i)
 |0,_=>by
   rw[Ya3,YEk]
   exact⟨by decide+kernel,by show 7*Lm T=(7*Lm T-0)*1;omega,by show 0*Lm T=(-0)*1;simp,by show 0*Lm T=(-0)*1;simp,rfl,rfl,rfl⟩
 |i+1,hi=>by
   have ih:=YoW h i (by omega)
   have hL:=Ydw h
   have hb:=Yiz h
   have bd:=g_bd h 0 (i+1) (by omega)
   have z:gA T 0=0/\gB T 0=0/\gC T 0=0:=⟨rfl,rfl,rfl⟩
   rw[YH0,z.1,z.2.1,z.2.2]at bd
   have m1:=Yko (show 0<=39*Lm T by omega) hi
   have m2:=Yko hb.1 hi
   have m3:=Yko hb.2.2.1 hi
   rw[Ya3]
   by_cases c:(i:Int)=T.wolf
   . rw[if_pos c]
     refine ih.cast ?_ ?_ ?_
     . unfold gA;rw[sumF,if_pos c];omega
     . unfold gB;rw[sumF,if_pos c];omega
     . unfold gC;rw[sumF,if_pos c];omega
   . rw[if_neg c]
     have e1:7*Lm T-gA T i+ -1*fA T i=7*Lm T-gA T (i+1):=by unfold gA;rw[sumF,if_neg c];omega
     have e2: -gB T i+ -1*fB T i= -gB T (i+1):=by unfold gB;rw[sumF,if_neg c];omega
     have e3: -gC T i+ -1*fC T i= -gC T (i+1):=by unfold gC;rw[sumF,if_neg c];omega
     have:=(YgS (s:= -1) (by omega) ih (YrT h (show i<12 by omega)) (by rw[e1];unfold sm;omega) (by rw[e2];unfold sm;omega) (by rw[e3];unfold sm;omega)).2
     exact this.cast e1 e2 e3
def sA(T:Tm)(i:Nat):Int:=gA T i+(if T.wolf<i then 7*Lm T-gA T 12 else 0)
def sB(T:Tm)(i:Nat):Int:=gB T i+(if T.wolf<i then -gB T 12 else 0)
def sC(T:Tm)(i:Nat):Int:=gC T i+(if T.wolf<i then -gC T 12 else 0)
theorem s_bd{T:Tm}(h:Yat T=0){i m:Nat}(hi:i<=12)(hm:i<=T.wolf->i<=m)(hm2:T.wolf<i->12-i<=m):(-(39*Lm T*12)-7*Lm T<=sA T i/\sA T i<=39*Lm T*12+7*Lm T)/\(-(bB T*Lm T*m)<=sB T i/\sB T i<=bB T*Lm T*m)/\ -(bC T*Lm T*m)<=sC T i/\sC T i<=bC T*Lm T*m:=by
 have hL:=Ydw h
 have hb:=Yiz h
 unfold sA sB sC
 by_cases c:T.wolf<i
 . have bd:=g_bd h i (12-i) (by omega)
   rw[show i+(12-i)=12 by omega]at bd
   rw[if_pos c,if_pos c,if_pos c]
   have m1:=Yko (show 0<=39*Lm T by omega) (show 12-i<=12 by omega)
   have m2:=Yko hb.1 (hm2 c)
   have m3:=Yko hb.2.2.1 (hm2 c)
   omega
 . have bd:=g_bd h 0 i (by omega)
   have z:gA T 0=0/\gB T 0=0/\gC T 0=0:=⟨rfl,rfl,rfl⟩
   rw[YH0,z.1,z.2.1,z.2.2]at bd
   rw[if_neg c,if_neg c,if_neg c]
   have m1:=Yko (show 0<=39*Lm T by omega) hi
   have m2:=Yko hb.1 (hm (by omega))
   have m3:=Yko hb.2.2.1 (hm (by omega))
   omega
theorem Ypt{T:Tm}(h:Yat T=0){k:Nat}(hk:k<12):Rep (Lm T) (Yb6 T k) (sA T (k+1)-sA T k) (sB T (k+1)-sB T k) (sC T (k+1)-sC T k):=by
 obtain⟨hw,_⟩:=YeW h
 unfold Yb6
 by_cases c:k=T.wolf.toNat
 . rw[if_pos c]
   have c2:(k:Int)=T.wolf:=by omega
   have w1:T.wolf<((k+1:Nat):Int):=by omega
   have w2:¬T.wolf<(k:Int):=by omega
   have gw:∀f:Nat->Int,sumF f T.wolf (k+1)=sumF f T.wolf k:=fun f=>by rw[sumF,if_pos c2,Int.add_zero]
   refine(YoW h 12 (by decide)).cast ?_ ?_ ?_
   . unfold sA;rw[if_pos w1,if_neg w2];unfold gA;rw[gw];omega
   . unfold sB;rw[if_pos w1,if_neg w2];unfold gB;rw[gw];omega
   . unfold sC;rw[if_pos w1,if_neg w2];unfold gC;rw[gw];omega
 . rw[if_neg c,fifL,if_pos hk]
   have c2:¬(k:Int)=T.wolf:=by omega
   rw[if_neg c2]
   refine(YrT h hk).cast ?_ ?_ ?_
   . unfold sA gA;rw[sumF,if_neg c2];split <;> split <;> omega
   . unfold sB gB;rw[sumF,if_neg c2];split <;> split <;> omega
   . unfold sC gC;rw[sumF,if_neg c2];split <;> split <;> omega
theorem YoM{T:Tm}(h:Yat T=0):∀i,i<=12->Rep (Lm T) (notL T i).2 (sA T i) (sB T i) (sC T i)
 |0,_=>by
   obtain⟨hw,_⟩:=YeW h
   rw[notL]
   show Rep (Lm T) (ofRF 1 1).1 _ _ _
   rw[of_11]
   have c:¬T.wolf<((0:Nat):Int):=by omega
   refine⟨by decide+kernel,?_,?_,?_,rfl,rfl,rfl⟩
   . show 0*Lm T=sA T 0*1
     unfold sA;rw[if_neg c];unfold gA sumF;simp
   . show 0*Lm T=sB T 0*1
     unfold sB;rw[if_neg c];unfold gB sumF;simp
   . show 0*Lm T=sC T 0*1
     unfold sC;rw[if_neg c];unfold gC sumF;simp
 |i+1,hi=>by
   have ih:=YoM h i (by omega)
   have hL:=Ydw h
   have hb:=Yiz h
   have bd:=s_bd h (i:=i+1) (m:=12) (by omega) (by omega) (by omega)
   rw[notL]
   show Rep (Lm T) (Ybq (notL T i).2 (Yb6 T i) 1).1 _ _ _
   have e1:sA T i+1*(sA T (i+1)-sA T i)=sA T (i+1):=by omega
   have e2:sB T i+1*(sB T (i+1)-sB T i)=sB T (i+1):=by omega
   have e3:sC T i+1*(sC T (i+1)-sC T i)=sC T (i+1):=by omega
   have:=(YgS (s:=1) (by omega) ih (Ypt h (show i<12 by omega)) (by rw[e1];unfold sm;omega) (by rw[e2];unfold sm;omega) (by rw[e3];unfold sm;omega)).2
   exact this.cast e1 e2 e3
theorem Ys1(T:Tm):∀i j,j<i->i<=12->(notL T i).1 (7*j%12)=(YdP (notL T j).2).1
 |i+1,j,hj,hi=>by
   rw[notL]
   show Yty (notL T i).1 (7*i%12) (YdP (notL T i).2).1 (7*j%12)=_
   unfold Yty
   by_cases c:j=i
   . subst c;rw[if_pos rfl]
   . rw[if_neg (by omega)]
     exact Ys1 T i j (by omega) (by omega)
theorem Yl6{T:Tm}(h:Yat T=0){j:Nat}(hj:j<12):∃k:Int,Rep (Lm T) (YaT T (7*j%12)) (sA T j-k*Lm T) (sB T j) (sC T j)/\Le0 (sA T j-k*Lm T-Lm T) (sB T j) (sC T j)/\Le0 (8* -(sA T j-k*Lm T)-Lm T) (8* -sB T j) (8* -sC T j):=by
 obtain⟨hw,_⟩:=YeW h
 have hL:=Ydw h
 have hb:=Yiz h
 have bd:=s_bd h (i:=j) (m:=11) (by omega) (by omega) (by omega)
 obtain⟨k,_,h1,h2,h3⟩:=Yvq (by omega) (YoM h j (by omega)) (by unfold sm;omega) (by unfold sm;omega) (by unfold sm;omega) (by omega)
 refine⟨k,?_,h2,h3⟩
 rw[YaT,Ys1 T 12 j hj (YG8 _)]
 exact h1
theorem Yu8{c:Nat}(hc:c<12):∃j,j<12/\7*j%12=c:=⟨7*c%12,by omega,by omega⟩
theorem Ys2{T:Tm}(h:Yat T=0){note:Int}(hn:0<=note):∃a b c:Int,Rep (Lm T) (Yd1 (YaT T) note) a b c/\Le0 (8*a-9*Lm T) (8*b) (8*c)/\Le0 (8* -a-9*Lm T) (8* -b) (8* -c):=by
 obtain⟨hw,_⟩:=YeW h
 have hL:=Ydw h
 have hb:=Yiz h
 obtain⟨j,hj,hjc⟩:=Yu8 (c:=(note%12).toNat) (by omega)
 obtain⟨k,r1,l1,l2⟩:=Yl6 h hj
 obtain⟨k9,r9,m1,m2⟩:=Yl6 h (show 3<12 by decide)
 rw[hjc]at r1
 rw[show 7*3%12=9 from rfl]at r9
 have bd:=s_bd h (i:=j) (m:=11) (by omega) (by omega) (by omega)
 have b9:=s_bd h (i:=3) (m:=9) (by omega) (by omega) (by omega)
 have u:=Ysk ((YdW (m:=8) (by decide)).2 l1) m2
 have d:=Ysk l2 ((YdW (m:=8) (by decide)).2 m1)
 have u2:Le0 (8*(sA T j-k*Lm T+ -1*(sA T 3-k9*Lm T))-9*Lm T) (8*(sB T j+ -1*sB T 3)) (8*(sC T j+ -1*sC T 3)):=Yfz u (by omega) (by omega) (by omega)
 have d2:Le0 (8* -(sA T j-k*Lm T+ -1*(sA T 3-k9*Lm T))-9*Lm T) (8* -(sB T j+ -1*sB T 3)) (8* -(sC T j+ -1*sC T 3)):=Yfz d (by omega) (by omega) (by omega)
 have q1:=Yfy u2
 have q2:=Yfy d2
 have hbc:(bB T=25/\bC T=0)\/(bB T=9/\bC T=2):=by unfold bB bC;split <;> simp
 have hab: -98000<=sA T j-k*Lm T+ -1*(sA T 3-k9*Lm T)/\sA T j-k*Lm T+ -1*(sA T 3-k9*Lm T)<=98000:=by
   rcases hbc with⟨e1,e2⟩ | ⟨e1,e2⟩
   . rw[e1,e2]at bd b9;omega
   . rw[e1,e2]at bd b9;omega
 have hj2:=(YgS (s:= -1) (by omega) r1 r9 (by unfold sm;omega) (by unfold sm;rcases hbc with⟨e1,e2⟩ | ⟨e1,e2⟩ <;> (rw[e1,e2]at bd b9;omega)) (by unfold sm;rcases hbc with⟨e1,e2⟩ | ⟨e1,e2⟩ <;> (rw[e1,e2]at bd b9;omega))).2
 exact⟨_,_,_,hj2,u2,d2⟩
theorem Yw1{x y z:Int}{n:Nat}(h:Le0 (x+ -(n:Int)) y z):UP x y z<=UP (-x) (-y) (-z)*2^n:=by
 have e:=YnL x y z (-(n:Int)) 0 0
 rw[Int.neg_neg,Int.neg_zero,Int.add_zero,Int.add_zero,(UP_2 n).1,(UP_2 n).2,YH8]at e
 unfold Le0 at h
 have p:=Ych (x+ -(n:Int)) y z
 have p2:=Ych (-(x+ -(n:Int))) (-y) (-z)
 refine Nat.le_of_mul_le_mul_left (c:=UP (-(x+ -(n:Int))) (-y) (-z)) ?_ p2
 rw[<-e]
 exact YG3 _ h
theorem YvX{T:Tm}(h:Yat T=0){note:Int}(hn:0<=note):∃(r:Rt) (n:Nat),Yd1 (YaT T) note=r/\r.n=n/\(1<=n/\n<=1000)/\(∃L a b c,Rep L r a b c)/\UP r.a r.b r.c^8<=UP (-r.a) (-r.b) (-r.c)^8*2^(9*n)/\UP (-r.a) (-r.b) (-r.c)^8<=UP r.a r.b r.c^8*2^(9*n):=by
 obtain⟨a,b,c,hr,hu,hd⟩:=Ys2 h hn
 have hL:=Ydw h
 have hnr:=hr.n_rng
 obtain⟨r,hre⟩:∃r,r=Yd1 (YaT T) note:=⟨_,rfl⟩
 rw[<-hre]at hr hnr
 obtain⟨n,hnn⟩:∃n:Nat,r.n=n:=⟨r.n.toNat,by omega⟩
 obtain⟨M,hM⟩:∃M:Nat,Lm T=M:=⟨(Lm T).toNat,by omega⟩
 have ha:=hr.ha
 have hb:=hr.hb
 have hc:=hr.hc
 rw[hM,hnn]at ha hb hc
 rw[hM]at hu hd
 have scale:∀{x y z x' y' z':Int},x'*M=x*n->y'*M=y*n->z'*M=z*n->Le0 x y z->Le0 x' y' z':=fun h1 h2 h3 h0=>by
   have h4:=(YdW (m:=n) (by omega)).2 h0
   refine(YdW (m:=M) (by omega)).1 (Yfz h4 ?_ ?_ ?_)
   . rw[YH9,<-h1,YH9]
   . rw[YH9,<-h2,YH9]
   . rw[YH9,<-h3,YH9]
 have u:Le0 (8*r.a+ -((9*n:Nat):Int)) (8*r.b) (8*r.c):=scale (by rw[YHZ];grind) (by grind) (by grind) hu
 have d:Le0 (8* -r.a+ -((9*n:Nat):Int)) (8* -r.b) (8* -r.c):=scale (by rw[YHZ];grind) (by grind) (by grind) hd
 have e8:∀x y z:Int,UP (8*x) (8*y) (8*z)=UP x y z^8:=fun x y z=>YnM 8 x y z
 have u3:=Yw1 u
 have d3:=Yw1 d
 rw[<-Int.mul_neg,<-Int.mul_neg,<-Int.mul_neg,e8,e8]at u3
 rw[<-Int.mul_neg,<-Int.mul_neg,<-Int.mul_neg,Int.neg_neg,Int.neg_neg,Int.neg_neg,e8,e8]at d3
 exact⟨r,n,hre.symm,hnn,by omega,⟨_,_,_,_,hr⟩,u3,d3⟩
def setP(p:Nat->Int×Int)(i:Nat)(x:Int×Int):Nat->Int×Int:=fun k=>if k=i then x else p k
theorem Yvg(nm:ByteArray)(syn:Bool)(w:Int)(p:Nat->Int×Int){i:Nat}(h:i<12)(a b:Int):
   YZ (encT ⟨nm,syn,w,p⟩) (3+idxN (i:Int) 2) [.int .i64 a,.int .i64 b]=encT ⟨nm,syn,w,setP p i (a,b)⟩:=by
 rcases Yh9 h with rfl|rfl|rfl|rfl|rfl|rfl|rfl|rfl|rfl|rfl|rfl|rfl <;> rfl
theorem YDB(i:Nat):idxN (i:Int) 2=i*2:=by simp [idxN]
def fstP:Nat->Nat->Int×Int
 |0=>fun _=>(0,0)
 |i+1=>setP (fstP i) i (0,1)
def madP(den:Int)(l:List Int):Nat->Int×Int:=l.foldl (fun p x=>setP p x.toNat (1,den)) (fstP 12)
theorem YFz{a b:ByteArray}:(a.toList==b.toList)=decide (a.data.toList=b.data.toList):=by
 rw[ByteArray.toList_eq,ByteArray.toList_eq]
 by_cases h:a.data.toList=b.data.toList
 . rw[decide_eq_true h,beq_iff_eq];exact h
 . rw[decide_eq_false h,beq_eq_false_iff_ne];exact h
def EQ:Tm:=⟨⟨#[101,113,117,97,108]⟩,false,11,madP 12 [0,1,2,3,4,5,6,7,8,9,10]⟩
theorem YwJ{k:SV->List HO->Prop}{al:Bool}{hp:List HO}{T:Tm}{e:Int}(h:k (.tup [.agg (encT T),.int .i64 e]) []):Yy al k (.tup [.agg (encT T),.int .i64 e]) hp:=
 YD h (Yw (.tup [.agg (encT T),.int .i64 e]) ⟨Ydb T _,trivial,trivial⟩) (fun _=>by simp [Yj,Yk,encT,encP])
theorem elev{k:Nat}(h:k<11):k=0\/k=1\/k=2\/k=3\/k=4\/k=5\/k=6\/k=7\/k=8\/k=9\/k=10:=by omega
def v8:VF:=⟨15,[.cell 6 true 2,.tmp 7],(ZR [u1 3 .box [.tm 0],u1 4 .box [.tm 1],u1 5 .box [.tm 2],Zn 6,Zi 7 0] (ZR [Zt 8 3 3,Zt 9 27 4,Zf 10 1 5,u1 11 (.mkfn (.func 25) 0) [.tm 5,.tm 3],u1 12 (.call 24) [.tm 8,.tm 9,.tm 10,.tm 11],Ze 13 0 12,Ze 14 1 12,Zs 2 6 13,Zm 7 14] .ret))⟩
theorem v8_is:Yf YGY Tryz.f8=some v8:=by kernel_rfl
def v25:VF:=⟨10,[.cell 4 true 2],(ZR [Zn 4] (ZR [Zm 5 0,Zf 6 1 1,Za 7 0 2,Zf 8 1 7,u1 9 (.call 26) [.tm 5,.tm 6,.tm 8],Zs 2 4 9] .ret))⟩
theorem YFV:Yf YGY Tryz.f25=some v25:=by kernel_rfl
def TW1:Env:={ ct:=fun n=>match n with|26=>some freqC|53=>some chkSC|87=>some NotC|_=>none,fn:=fun n=>match n with|24=>some v24|56=>some v56|62=>some v62|25=>some v25|_=>none,meth:=fun _ _=>none}
theorem Yjr:TW1.ct 26=some freqC:=rfl
theorem Yjs:TW1.ct 53=some chkSC:=rfl
theorem Yjv:TW1.ct 87=some NotC:=rfl
theorem Yjp:TW1.ct 24=none:=rfl
theorem Yjw:TW1.fn 24=some v24:=rfl
theorem Yjt:TW1.ct 56=none:=rfl
theorem Yjy:TW1.fn 56=some v56:=rfl
theorem Yju:TW1.ct 62=none:=rfl
theorem Yjz:TW1.fn 62=some v62:=rfl
theorem Yjq:TW1.ct 25=none:=rfl
theorem Yjx:TW1.fn 25=some v25:=rfl
theorem YCp:Yl YGY TW1:=by
 refine⟨fun f c h=>?_,fun f vf h=>?_,(fun _ _ _ h=>by cases h),by kernel_rfl,(fun _ h=>by cases h)⟩
 . simp only[TW1]at h
   split at h
   . cases h;exact⟨YDv,Tryz.f26,Tryz.func26,by kernel_rfl,by kernel_rfl⟩
   . cases h;exact⟨YC9,Tryz.f53,Tryz.func53,by kernel_rfl,by kernel_rfl⟩
   . cases h;exact⟨Not_c,Tryz.f87,Tryz.func87,by kernel_rfl,by kernel_rfl⟩
   . cases h
 . simp only[TW1]at h
   split at h
   . cases h;exact⟨Tryz.f24,Tryz.func24,YFU,Tryz.f24,Tryz.func24,by kernel_rfl,by kernel_rfl⟩
   . cases h;exact⟨Tryz.f56,Tryz.func56,YGh,Tryz.f56,Tryz.func56,by kernel_rfl,by kernel_rfl⟩
   . cases h;exact⟨Tryz.f62,Tryz.func62,YGj,Tryz.f62,Tryz.func62,by kernel_rfl,by kernel_rfl⟩
   . cases h;exact⟨Tryz.f25,Tryz.func25,YFV,Tryz.f25,Tryz.func25,by kernel_rfl,by kernel_rfl⟩
   . cases h
theorem Yr2(M:Nat)(t:Bool)(c:Nat):∀(f A B S:Nat),(gl M t f A B (S+c)).1=(gl M t f A B S).1+c*2^f/\(gl M t f A B (S+c)).2=(gl M t f A B S).2+c*2^f
 |0,A,B,S=>by
   rw[Nat.pow_zero,YH8]
   exact⟨rfl,Nat.add_right_comm S c 1⟩
 |f+1,A,B,S=>by
   have hp:(2:Nat)^(f+1)=2*2^f:=by rw[YHo,YG4]
   have e0:c*2^(f+1)=2*c*2^f:=by rw[hp,<-YG6,YG4 c]
   rw[gl.eq_def M t (f+1),gl.eq_def M t (f+1)]
   simp only
   split
   . split
     . have:=Yr2 M t (2*c) f (A*A/M) (cdiv (B*B) M) (2*S)
       rw[show 2*(S+c)=2*S+2*c by omega,e0]
       exact this
     . exact⟨YHr ..,by
         show(S+c+1)*2^(f+1)=(S+1)*2^(f+1)+c*2^(f+1)
         rw[Nat.add_right_comm S c 1]
         exact YHr ..⟩
   . split
     . exact⟨YHr ..,by
         show(S+c+1)*2^(f+1)=(S+1)*2^(f+1)+c*2^(f+1)
         rw[Nat.add_right_comm S c 1]
         exact YHr ..⟩
     . have:=Yr2 M t (2*c) f (A*A/M/2) (cdiv (cdiv (B*B) M) 2) (2*S+1)
       rw[show 2*(S+c)+1=2*S+1+2*c by omega,e0]
       exact this
theorem YsC{n:Nat}(h:1<=n):lgK (2*n)=lgK n+1:=by
 obtain⟨a,b⟩:=YlX h
 obtain⟨c,d⟩:=YlX (n:=2*n) (by omega)
 have key:∀{x y:Nat},2^x<2^y->x<y:=fun h=>(Nat.pow_lt_pow_iff_right (by decide)).1 h
 have h1:2^lgK (2*n)<2^(lgK n+2):=by rw[YHo];omega
 have h2:2^(lgK n+1)<2^(lgK (2*n)+1):=by rw[YHo];omega
 have:=key h1
 have:=key h2
 omega
theorem Ysf{n:Nat}(h1:1<=n)(h2:n<1152921504606846976):YaY ((2*n:Nat):Int)=YaY (n:Int):=by
 have hk:lgK n<60:=YdX (by decide) h2
 cases ha:YaY (n:Int)with
 |true=>
   have:=Ykb h1 (by omega) ha
   rw[this,<-Nat.pow_succ']
   exact YhG _ (by omega)
 |false=>
   cases hb:YaY ((2*n:Nat):Int)with
   |false=>rfl
   |true=>
     have:=Ykb (n:=2*n) (by omega) (by omega) hb
     rw[YsC h1,YHo]at this
     have e:n=2^lgK n:=by omega
     rw[e,YhG _ (by omega)]at ha
     cases ha
theorem YDI{n p:Nat}(h1:1<=n)(h2:n<1152921504606846976):(lN (2*n) p).1=(lN n p).1+2^p/\(lN (2*n) p).2=(lN n p).2+2^p:=by
 have hk:lgK n<60:=YdX (by decide) h2
 unfold lN
 rw[Ysf h1 h2,YsC h1]
 split
 . simp only[YHr,YHN,and_self]
 . have e:2*n*2^(2*p+64-(lgK n+1))=n*2^(2*p+64-lgK n):=by
     rw[show 2*p+64-lgK n=(2*p+64-(lgK n+1))+1 by omega,YHo]
     grind
   rw[e]
   have:=Yr2 (2^(2*p+64)) false 1 p (n*2^(2*p+64-lgK n)) (n*2^(2*p+64-lgK n)) (lgK n)
   rw[YHN]at this
   exact this
def W2:Nat:=KB
theorem Yzu{n:Nat}(h1:1<=n)(h2:n<2^29):loN (2*n)=loN n+W2:=by
 have h:=(YDI (p:=2048) h1 (Nat.lt_trans h2 (by decide))).1
 unfold loN W2 KB
 exact h
theorem lo_2:loN 2=W2/\hiN 2=W2:=by
 have e:lgK 2=1:=by
   obtain⟨a,b⟩:=YlX (n:=2) (by decide)
   have key:∀{x y:Nat},2^x<2^y->x<y:=fun h=>(Nat.pow_lt_pow_iff_right (by decide)).1 h
   have h1:2^lgK 2<2^2:=by omega
   have h2:2^1<2^(lgK 2+1):=by omega
   have:=key h1
   have:=key h2
   omega
 unfold loN hiN lN W2 KB
 rw[if_pos Yse,e]
 simp only[YHN,and_self]
theorem YyF:∀l:List (Int×Int),upP (l.map dblT)=upP l^2/\dnP (l.map dblT)=dnP l^2
 | []=>by simp [upP,dnP]
 |x::l=>by
   obtain⟨h1,h2⟩:=YyF l
   rw[YHv,upP,dnP,upP,dnP,h1,h2,YHy,YHy]
   unfold dblT
   by_cases c:x.2<0
   . have c2:x.2*2<0:=by omega
     simp only[if_pos c,if_pos c2,Nat.one_pow]
     rw[show(-(x.2*2)).toNat=(-x.2).toNat*2 by omega,YHf]
     exact⟨trivial,rfl⟩
   . have c2:¬x.2*2<0:=by omega
     simp only[if_neg c,if_neg c2,Nat.one_pow]
     rw[show(x.2*2).toNat=x.2.toNat*2 by omega,YHf]
     exact⟨rfl,trivial⟩
theorem YyG(w:Nat->Nat):∀l:List (Int×Int),upS w (l.map dblT)=2*upS w l/\dnS w (l.map dblT)=2*dnS w l
 | []=>by simp [upS,dnS]
 |x::l=>by
   obtain⟨h1,h2⟩:=YyG w l
   rw[YHv,upS,dnS,upS,dnS,h1,h2]
   unfold dblT
   by_cases c:x.2<0
   . have c2:x.2*2<0:=by omega
     simp only[if_pos c,if_pos c2]
     rw[show(-(x.2*2)).toNat=2*(-x.2).toNat by omega,YHw]
     omega
   . have c2:¬x.2*2<0:=by omega
     simp only[if_neg c,if_neg c2]
     rw[show(x.2*2).toNat=2*x.2.toNat by omega,YHw]
     omega
def lstF(r:Rt)(n:Nat)(o t t0:Int):List (Int×Int):=(Yg r).map dblT++[(2,2*(n:Int)*o),(273150+t,(n:Int)),(273150+t0, -(n:Int))]
structure NR (r:Rt) (n:Nat):Prop where
 hn:r.n=n
 rng:1<=n/\n<=1000
 rep:∃L a b c,Rep L r a b c
 u:UP r.a r.b r.c^8<=UP (-r.a) (-r.b) (-r.c)^8*2^(9*n)
 d:UP (-r.a) (-r.b) (-r.c)^8<=UP r.a r.b r.c^8*2^(9*n)
theorem YzI{T:Tm}(h:Yat T=0){note:Int}(hn:0<=note):∃(r:Rt) (n:Nat),Yd1 (YaT T) note=r/\NR r n:=by
 obtain⟨r,n,h1,h2,h3,h4,h5,h6⟩:=YvX h hn
 exact⟨r,n,h1,⟨h2,h3,h4,h5,h6⟩⟩
theorem NR.ok{r:Rt}{n:Nat}(h:NR r n):chkR r=0:=by
 obtain⟨_,_,_,_,hr⟩:=h.rep
 exact hr.ok
theorem Ywp{T:Tm}{r:Rt}{n:Nat}{t t0 note:Int}(hr:Yd1 (YaT T) note=r)(h:NR r n):Yfb (YaT T) t0 t note=(lstF r n (note/12-5) t t0,2*(n:Int)):=by
 unfold Yfb lstF trmL trmD
 rw[hr,if_pos h.ok,if_pos h.ok,h.hn]
theorem Yzz{r:Rt}{n:Nat}{o t t0:Int}(h:NR r n)(ht:Yam t=true)(ht0:Yam t0=true):
   upP (lstF r n o t t0)=UP r.a r.b r.c^2*(UP (2*(n:Int)*o) 0 0*(273150+t).toNat^n)/\dnP (lstF r n o t t0)=UP (-r.a) (-r.b) (-r.c)^2*(UP (-(2*(n:Int)*o)) 0 0*(273150+t0).toNat^n):=by
 obtain⟨_,_,_,_,hr⟩:=h.rep
 obtain⟨tu,td⟩:=Ymz hr
 have hn:=h.rng
 unfold lstF
 rw[(Ya5 _ _).1,(Ya5 _ _).2,(YyF _).1,(YyF _).2,tu,td]
 have h1:¬((n:Int)<0):=by omega
 have h2: -(n:Int)<0:=by omega
 have e:upP [(2,2*(n:Int)*o),(273150+t,(n:Int)),(273150+t0, -(n:Int))]=UP (2*(n:Int)*o) 0 0*(273150+t).toNat^n/\dnP [(2,2*(n:Int)*o),(273150+t,(n:Int)),(273150+t0, -(n:Int))]=UP (-(2*(n:Int)*o)) 0 0*(273150+t0).toNat^n:=by
   have a:=Ymy [] (2*(n:Int)*o)
   simp only[List.nil_append,upP,dnP,if_neg h1,if_pos h2,YG0,Int.neg_neg,YH8,YHN]at a⊢
   rw[a.1,a.2]
   exact⟨rfl,rfl⟩
 rw[e.1,e.2]
 exact⟨rfl,rfl⟩
theorem YD6{r:Rt}{n:Nat}{o t t0:Int}(h:NR r n)(ht:Yam t=true)(ht0:Yam t0=true)(ho: -5<=o/\o<=6):(∀x,x∈lstF r n o t t0->okU x/\x.1<=1000000/\ -1000000<=x.2/\x.2<=1000000)/\(lstF r n o t t0).length<=9:=by
 have ht:=YeH ht
 have ht0:=YeH ht0
 have hn:=h.rng
 have hlen:=YbV r
 constructor
 . intro x hx
   unfold lstF at hx
   rw[YHz,YIa]at hx
   rcases hx with⟨y,hy,rfl⟩ |hx
   . have:=YkO h.ok y hy
     unfold okU dblT;simp only;omega
   . have hm:=YaS (x:=2*(n:Int)) (y:=o) (X:=2000) (Y:=6) (by omega) (by omega)
     simp only[YHx,List.not_mem_nil,or_false]at hx
     unfold okU
     rcases hx with rfl|rfl|rfl <;> simp only <;> omega
 . unfold lstF
   rw[YHW,List.length_map]
   simp only[YH1,List.length_nil]
   omega
theorem YDa{l:List (Int×Int)}(h:∀x,x∈l->okU x/\x.1<=1000000/\ -1000000<=x.2/\x.2<=1000000)(hn:l.length<=16):YeM l=0:=by
 unfold YeM
 rw[if_neg (by omega),if_neg]
 rw[List.any_eq_true]
 rintro⟨x,hx,ho⟩
 obtain⟨h1,h2,h3,h4⟩:=h x hx
 have:=h1.1
 simp only[okT0,YHB,decide_eq_true_eq]at ho
 omega
theorem YBJ{n:Nat}(h:n<2^29\/n=331300000000):wP n<=2^52:=by
 unfold wP
 split
 . decide
 . split
   . decide
   . exact YG8 _
theorem lst_S{r:Rt}{n:Nat}{o t t0:Int}(h:NR r n)(ht:Yam t=true)(ht0:Yam t0=true):upS wP (lstF r n o t t0)+dnS wP (lstF r n o t t0)<=400000+n*2^53:=by
 obtain⟨_,_,_,_,hr⟩:=h.rep
 have tw:=Yjd hr
 have ht:=YeH ht
 have ht0:=YeH ht0
 unfold lstF
 rw[(Yaz wP _ _).1,(Yaz wP _ _).2,(YyG wP _).1,(YyG wP _).2]
 have h1:¬((n:Int)<0):=by omega
 have w1:=YBJ (n:=(273150+t).toNat) (Or.inl (by omega))
 have w2:=YBJ (n:=(273150+t0).toNat) (Or.inl (by omega))
 have m1:=YG3 n w1
 have m2:=YG3 n w2
 have e:upS wP [(2,2*(n:Int)*o),(273150+t,(n:Int)),(273150+t0, -(n:Int))]+dnS wP [(2,2*(n:Int)*o),(273150+t,(n:Int)),(273150+t0, -(n:Int))]<=wP (273150+t).toNat*n+wP (273150+t0).toNat*n:=by
   have z:wP (2:Int).toNat=0:=rfl
   simp only[upS,dnS,if_neg h1,z,Nat.zero_mul,ite_self,YG0,Int.neg_neg]
   split
   . omega
   . rename_i h2
     have:n=0:=by omega
     subst this
     simp
 omega
theorem YCB{n:Nat}{o:Int}(h:o<=6):UP (2*(n:Int)*o) 0 0<=UP (-(2*(n:Int)*o)) 0 0*64^(2*n):=by
 have hm:(2*(n:Int))*o<=2*(n:Int)*6:=YHb h (by omega)
 unfold UP
 simp only[Int.toNat_zero,Nat.pow_zero,YH8]
 rw[show(64:Nat)=2^6 from rfl,<-YHf,<-YHa]
 exact YHl (by decide) (by omega)
theorem YAp{U V E F n c x y s B:Nat}(hn:1<=n)(hV:0<V)(hF:0<F)(h1:U^8<=V^8*2^(9*n))(h2:E<=F*c^(2*n))(h:2^9*c^8*x^4*s^8<y^4*B^8):
   U^2*(E*x^n)*s^(2*n)<V^2*(F*y^n)*B^(2*n):=by
 refine(Nat.pow_lt_pow_iff_left (show 4≠0 by decide)).1 ?_
 have e1:(U^2*(E*x^n)*s^(2*n))^4=U^8*E^4*((x^4*s^8)^n):=by
   simp only[YHy,<-YHf]
   rw[show 2*4=8 from rfl,YG4 n 4,show 2*n*4=8*n by omega]
   simp only[YG6]
 have e2:(V^2*(F*y^n)*B^(2*n))^4=V^8*F^4*((y^4*B^8)^n):=by
   simp only[YHy,<-YHf]
   rw[show 2*4=8 from rfl,YG4 n 4,show 2*n*4=8*n by omega]
   simp only[YG6]
 rw[e1,e2]
 have h3:=YHe h2 4
 rw[YHy,<-YHf]at h3
 have h4:=YG3 ((x^4*s^8)^n) (YHi h1 h3)
 refine YHG h4 ?_
 have e3:V^8*2^(9*n)*(F^4*c^(2*n*4))*(x^4*s^8)^n=V^8*F^4*(2^9*c^8*x^4*s^8)^n:=by
   rw[YHf 2 9,show 2*n*4=8*n by omega,YHf c 8,YG6 (2^9*c^8),YHy (2^9*c^8),YHy (2^9)]
   generalize(2^9)^n=p at*
   generalize(c^8)^n=q at*
   generalize(x^4*s^8)^n=z at*
   generalize V^8=v at*
   generalize F^4=f at*
   grind
 rw[e3]
 refine Nat.mul_lt_mul_of_pos_left ?_ (YHX (YHO hV) (YHO hF))
 exact Nat.pow_lt_pow_left h (by omega)
def YpQ(k:Nat)(ex:Bool):Int×Int:=if ex=true then((k:Int),(k:Int))else((k:Int),(k:Int)+1)
theorem Yv2{s:Int}{l:List (Int×Int)}{den:Int}{k:Nat}(h:(Yb9 s l den).1=(k:Int))(hk:k<2^29):pspF s l den=YpQ k (Yb9 s l den).2.1:=by
 unfold pspF YpQ
 rw[h]
 split
 . rfl
 . rw[YGZ ((k:Int)+1) (by omega)]
theorem Yg2{t:Int}(h:Yam t=true):253150<=(273150+t).toNat/\(273150+t).toNat<=323150:=by
 have:=YeH h
 omega
theorem YzJ{x y a:Nat}(hx:x<=323150)(hy:253150<=y)(ha:a<=1000000):2^9*64^8*x^4*a^8<y^4*160000000^8:=by
 have h1:=YHe hx 4
 have h2:=YHe hy 4
 have h3:=YHe ha 8
 exact YHG (YHi (YG5 _ h1) h3) (YHM (show 2^9*64^8*323150^4*1000000^8<253150^4*160000000^8 by decide+kernel) (YG3 _ h2))
theorem YrX{a t0 t note:Int}{T:Tm}{r:Rt}{n:Nat}(hS:chkS a t0 t=0)(hn:0<=note/\note<=139)(hr:Yd1 (YaT T) note=r)(h:NR r n):
   ∃k ex,YlG (YaT T) t0 t note a=YpQ k ex/\PowR (lstF r n (note/12-5) t t0) a.toNat (2*n) 160000000 k ex:=by
 obtain⟨ha,h0,h1⟩:=Yrv hS
 have ho: -5<=note/12-5/\note/12-5<=6:=by omega
 obtain⟨l1,l2⟩:=YD6 h h1 h0 ho
 obtain⟨p1,p2⟩:=Yzz (o:=note/12-5) h h1 h0
 have hs:=lst_S (o:=note/12-5) h h1 h0
 have hrn:=h.rng
 have t1:=Yg2 h1
 have t2:=Yg2 h0
 have posV:=Ych (-r.a) (-r.b) (-r.c)
 have posF:=Ych (-(2*(n:Int)*(note/12-5))) 0 0
 have hw:wide (lstF r n (note/12-5) t t0) a.toNat (2*n):=by
   have w:=YG3 (2*n) (YBJ (n:=a.toNat) (Or.inl (by omega)))
   unfold wide
   omega
 have hY:0<dnP (lstF r n (note/12-5) t t0):=by
   rw[p2]
   exact YHX (YHO posV) (YHX posF (YHO (by omega)))
 have hB:upP (lstF r n (note/12-5) t t0)*a.toNat^(2*n)<dnP (lstF r n (note/12-5) t t0)*160000000^(2*n):=by
   rw[p1,p2]
   exact YAp hrn.1 posV posF h.u (YCB ho.2) (YzJ t1.2 t2.1 (by omega))
 obtain⟨k,hk,hp⟩:=Yta (s:=a.toNat) (den:=2*n) (B:=160000000) (YDa l1 (by omega)) (fun x hx=>(l1 x hx).1) (by omega) (by omega) hw hY hB (by decide)
 have ea:((a.toNat:Nat):Int)=a:=YHs (by omega)
 rw[ea]at hk hp
 refine⟨k,_,?_,hp⟩
 unfold YlG
 rw[Ywp hr h]
 have e2:2*(n:Int)=((2*n:Nat):Int):=by omega
 simp only
 rw[e2]
 exact Yv2 hk (Nat.lt_of_succ_lt hp.lt)
theorem PowR.le_of{l:List (Int×Int)}{s den B r v:Nat}{ex:Bool}(h:PowR l s den B r ex)(hd:1<=den)(hY:0<dnP l)(hv:v<2^30)(hx:upP l*s^den<=dnP l*v^den):r<=v:=by
 rcases YHR r with h0|h0
 . omega
 . have h1:=h.near h0
   have h1':(dnP l*r^den)^QJ<=(upP l*s^den)^QJ*2^(den*(0*QJ+2^55)):=by rw[Nat.zero_mul,YH0];exact h1
   have h2:=YhN (t:=2^40) (show 1<=QJ by rw[Yjg];decide) (by rw[Yjg];decide) (by decide) h1'
   have h3:dnP l*(r*2^40)^den<=dnP l*(v*(2^0*(2^40+1)))^den:=by
     refine YHc h2 ?_
     rw[YHy v,<-YG6]
     exact YG3 _ hx
   have h4:=Nat.le_of_mul_le_mul_left h3 hY
   have h5:=(Nat.pow_le_pow_iff_left (show den≠0 by omega)).1 h4
   omega
theorem PowR.exact{l:List (Int×Int)}{s den B r v:Nat}{ex:Bool}(h:PowR l s den B r ex)(hd:1<=den)(hY:0<dnP l)(hv1:1<=v)(hv:v<2^29)(hx:upP l*s^den=dnP l*v^den):r=v/\ex=true:=by
 have h1:=h.le_of hd hY (by omega) (YH2 hx)
 have h2:=h.tru v hv1 hv (YH2 hx.symm)
 have e:r=v:=by omega
 subst e
 exact⟨rfl,h.ex_iff.2 ⟨hv1,hx⟩⟩
theorem YtS{l l':List (Int×Int)}{s s' den B B' r r':Nat}{ex ex':Bool}(h:PowR l s den B r ex)(h':PowR l' s' den B' r' ex')(hd:1<=den)(hB:B<2^28-2)(hY:0<dnP l)(hY':0<dnP l')
   (hS:∀k,1<=k->k<2^28->(isS l' s' den (2*k)↔isS l s den k))(hx:upP l'*s'^den*dnP l=upP l*s^den*dnP l'*2^den):
   (r'=2*r\/r'=2*r+1)/\(ex=true->r'=2*r/\ex'=true)/\(ex'=true->ex=false->r'=2*r+1):=by
 have hrB:=h.leB
 have h1:2*r<=r':=by
   rcases YHR r with h0|h0
   . omega
   . exact(h'.seg (2*r) (by omega) (by omega)).1 ((hS r h0 (by omega)).2 ((h.seg r h0 (by omega)).2 (YG8 r)))
 have h2:r'<2*(r+1):=by
   refine Nat.lt_of_not_le fun hh=>?_
   have:=(hS (r+1) (by omega) (by omega)).1 ((h'.seg (2*(r+1)) (by omega) (by omega)).2 hh)
   have:=(h.seg (r+1) (by omega) (by omega)).1 this
   omega
 have back:∀v,upP l'*s'^den=dnP l'*(2*v)^den->upP l*s^den=dnP l*v^den:=fun v hv=>by
   rw[hv,YHy]at hx
   have hp:0<dnP l'*2^den:=YHX hY' (YH den)
   refine Nat.eq_of_mul_eq_mul_right hp ?_
   generalize upP l*s^den=a at*
   generalize v^den=b at*
   generalize 2^den=c at*
   grind
 have forth:∀v,upP l*s^den=dnP l*v^den->upP l'*s'^den=dnP l'*(2*v)^den:=fun v hv=>by
   rw[hv]at hx
   rw[YHy]
   refine Nat.eq_of_mul_eq_mul_right hY ?_
   generalize upP l'*s'^den=a at*
   generalize v^den=b at*
   generalize 2^den=c at*
   grind
 refine⟨by omega,fun he=>?_,fun he' he=>?_⟩
 . obtain⟨e1,e2⟩:=h.ex_iff.1 he
   obtain⟨e3,e4⟩:=h'.exact hd hY' (by omega) (by omega) (forth r e2)
   exact⟨e3,e4⟩
 . rcases(show r'=2*r\/r'=2*r+1 by omega)with c|c
   . exfalso
     obtain⟨e1,e2⟩:=h'.ex_iff.1 he'
     rw[c]at e2
     have:=h.ex_iff.2 ⟨by omega,back r e2⟩
     rw[he]at this
     cases this
   . exact c
def dblB(a b:Int×Int):Bool:=
 decide (a.1<=a.2)&&decide (b.1<=b.2)&&decide (0<=a.1)&&decide (a.2<1099511627776)&&(decide (b.1=2*a.1) || decide (b.1=2*a.1+1))&&(decide (b.2=2*a.2) || decide (b.2=2*a.2-1))&&(decide (a.1<a.2) || decide (b.1=b.2))
theorem YrA{l l':List (Int×Int)}{s s' den B B' r r':Nat}{ex ex':Bool}(h:PowR l s den B r ex)(h':PowR l' s' den B' r' ex')(hd:1<=den)(hB:B<2^28-2)(hY:0<dnP l)(hY':0<dnP l')
   (hS:∀k,1<=k->k<2^28->(isS l' s' den (2*k)↔isS l s den k))(hx:upP l'*s'^den*dnP l=upP l*s^den*dnP l'*2^den):dblB (YpQ r ex) (YpQ r' ex')=true:=by
 obtain⟨h1,h2,h3⟩:=YtS h h' hd hB hY hY' hS hx
 have:=h.lt
 unfold dblB YpQ
 cases hex:ex with
 |true=>
   obtain⟨e1,e2⟩:=h2 hex
   rw[e1,e2]
   simp only[eq_self,if_true,YG2,YHB,decide_eq_true_eq,or_true,and_true]
   omega
 |false=>
   cases hex':ex' with
   |true=>
     have:=h3 hex' hex
     rw[this]
     simp only[eq_self,if_true,YHm,if_false,YG2,YHB,decide_eq_true_eq]
     omega
   |false=>
     simp only[YHm,if_false,YG2,YHB,decide_eq_true_eq]
     omega
theorem YvO(g:Nat->Nat)(e:Int)(a b:List (Int×Int)):upS g (a++(2,e)::b)=upS g a+(g 2*e.toNat+upS g b)/\dnS g (a++(2,e)::b)=dnS g a+(g 2*(-e).toNat+dnS g b):=by
 rw[(Yaz g _ _).1,(Yaz g _ _).2,upS,dnS]
 by_cases c:e<0
 . simp only[if_pos c]
   rw[show e.toNat=0 by omega,Nat.mul_zero]
   exact⟨rfl,rfl⟩
 . simp only[if_neg c]
   rw[show(-e).toNat=0 by omega,Nat.mul_zero]
   exact⟨rfl,rfl⟩
theorem oct_S{a b:List (Int×Int)}{s n k:Nat}{e:Int}(hk:1<=k/\k<2^28):isS (a++(2,e+2*(n:Int))::b) s (2*n) (2*k)↔isS (a++(2,e)::b) s (2*n) k:=by
 unfold isS
 rw[(YvO loN _ a b).2,(YvO hiN _ a b).1,(YvO loN _ a b).2,(YvO hiN _ a b).1,Yzu hk.1 (by omega),lo_2.1,lo_2.2]
 have hi:(e+2*(n:Int)).toNat+(-e).toNat=e.toNat+(-(e+2*(n:Int))).toNat+2*n:=by omega
 have hm:=congrArg (fun z=>W2*z) hi
 simp only[YH7]at hm
 rw[YHr,YG4 W2 (2*n)]at*
 generalize W2*(e+2*(n:Int)).toNat=x1 at*
 generalize W2*(-e).toNat=x2 at*
 generalize W2*e.toNat=x3 at*
 generalize W2*(-(e+2*(n:Int))).toNat=x4 at*
 have h2:W2*(2*n)=2*n*W2:=YG4 ..
 generalize 2*n*W2=x5 at*
 constructor <;> intro h <;> omega
theorem Yx9{n:Nat}{o:Int}:UP (2*(n:Int)*(o+1)) 0 0*UP (-(2*(n:Int)*o)) 0 0=UP (2*(n:Int)*o) 0 0*UP (-(2*(n:Int)*(o+1))) 0 0*2^(2*n):=by
 have e:2*(n:Int)*(o+1)=2*(n:Int)*o+2*(n:Int):=by grind
 rw[e]
 generalize 2*(n:Int)*o=x
 unfold UP
 simp only[Int.toNat_zero,Nat.pow_zero,YH8]
 rw[<-YHa,<-YHa,<-YHa]
 congr 1
 omega
theorem YoC(r:Rt)(n:Nat)(o t t0:Int):lstF r n o t t0=(Yg r).map dblT++(2,2*(n:Int)*o):: [(273150+t,(n:Int)),(273150+t0, -(n:Int))]:=rfl
theorem YzH(L:Nat->Rt)(note:Int):Yd1 L (note+12)=Yd1 L note:=by
 unfold Yd1
 rw[show(note+12)%12=note%12 by omega]
theorem YyW{a t0 t note:Int}{T:Tm}(hS:chkS a t0 t=0)(hT:Yat T=0)(hn:0<=note)(hn2:note+12<=139):dblB (YlG (YaT T) t0 t note a) (YlG (YaT T) t0 t (note+12) a)=true:=by
 obtain⟨ha,h0,h1⟩:=Yrv hS
 obtain⟨r,n,hr,h⟩:=YzI hT hn
 obtain⟨k,ex,e1,p⟩:=YrX hS ⟨hn,by omega⟩ hr h
 obtain⟨k',ex',e2,p'⟩:=YrX (note:=note+12) hS ⟨by omega,hn2⟩ (by rw[YzH];exact hr) h
 rw[show(note+12)/12-5=note/12-5+1 by omega]at p'
 rw[e1,e2]
 have hrn:=h.rng
 have t1:=Yg2 h1
 have t2:=Yg2 h0
 obtain⟨p1,p2⟩:=Yzz (o:=note/12-5) h h1 h0
 obtain⟨q1,q2⟩:=Yzz (o:=note/12-5+1) h h1 h0
 have posV:=Ych (-r.a) (-r.b) (-r.c)
 have hst:=Yx9 (n:=n) (o:=note/12-5)
 refine YrA p p' (by omega) (by decide) ?_ ?_ (fun j j1 j2=>?_) ?_
 . rw[p2];exact YHX (YHO posV) (YHX (Ych _ _ _) (YHO (by omega)))
 . rw[q2];exact YHX (YHO posV) (YHX (Ych _ _ _) (YHO (by omega)))
 . rw[YoC,YoC,show 2*(n:Int)*(note/12-5+1)=2*(n:Int)*(note/12-5)+2*(n:Int)by grind]
   exact oct_S ⟨j1,j2⟩
 . rw[p1,p2,q1,q2]
   generalize UP (2*(n:Int)*(note/12-5+1)) 0 0=E' at*
   generalize UP (2*(n:Int)*(note/12-5)) 0 0=E at*
   generalize UP (-(2*(n:Int)*(note/12-5+1))) 0 0=F' at*
   generalize UP (-(2*(n:Int)*(note/12-5))) 0 0=F at*
   generalize UP r.a r.b r.c^2=U at*
   generalize UP (-r.a) (-r.b) (-r.c)^2=V at*
   generalize(273150+t).toNat^n=x at*
   generalize(273150+t0).toNat^n=y at*
   generalize a.toNat^(2*n)=z at*
   generalize 2^(2*n)=c at*
   have e3:U*(E'*x)*z*(V*(F*y))=(E'*F)*(U*x*z*V*y):=by grind
   rw[e3,hst];grind
def widS(s:Scl)(note:Int):Iv:=(sclF (piF (diaS s note)).1 s.mn s.md).1
def cutS(s:Scl)(note:Int):Iv×Int:=sclF (widS s note) s.cn s.cd
def mouS(s:Scl)(note:Int):Iv×Iv×Int:=if askS s note note≠0 then((0,0),(0,0),askS s note note)else(widS s note,(cutS s note).1,(cutS s note).2)
def bodB(s:Scl)(note kind:Int):Bdy:=⟨kind,(diaS s note).1,if kind=3 then Int.tdiv ((diaS s note).1*2) 3 else(diaS s note).1,(widS s note).1,(cutS s note).1.1⟩
def bod0:Bdy:=⟨0,0,0,0,0⟩
def bodF(s:Scl)(note kind:Int):Bdy×Int:=
 if(mouS s note).2.2≠0 then(bod0,(mouS s note).2.2)else if inF kind 1 3=true then if chkB (bodB s note kind)≠0 then(bod0,7)else(bodB s note kind,0)else(bod0,2)
def spkL(b:Bdy)(f:Iv)(t:Int):Iv×Int:=addF (lenF b f t).1 (addF (YaB b) (endF b)).1
def spkF(f:Iv×Int)(b:Bdy×Int)(t:Int):Iv×Bool:=
 if f.2≠0\/b.2≠0 then((0,0),false)else if(lenF b.1 f.1 t).2≠0 then((0,0),false)
 else((spkL b.1 f.1 t).1,decide ((addF (YaB b.1) (endF b.1)).2=0)&&decide ((spkL b.1 f.1 t).2=0))
theorem YAv{a:Iv}{n d:Int}(h0:0<=a.1)(h1:a.1<=a.2)(h2:a.2<=4000000000000)(hn:0<=n)(hn1:n<=100000)(hd:1<=d)(hd1:d<=100000):sclF a n d=((a.1*n/d, -((-(a.2*n))/d)),0):=by
 have he:=Ytt h0 h1 h2 hn hn1 hd hd1
 refine Prod.ext ?_ he
 unfold sclF at he⊢
 have e1:ivE [a]=0:=okE1 (by omega) h1 (by omega)
 rw[e1,if_neg (by decide),if_neg (by omega)]at he⊢
 unfold YdC at he⊢
 obtain⟨e,k1,k2⟩:=Yg1 he
 rw[e]
 have hm:a.1*n<=a.2*n:=YHj h1 hn
 unfold rndF at k1 k2⊢
 rw[Ye9 k1,Ye9 k2]
 have l1:lowI (a.1*n) [a.2*n]=a.1*n:=by
   simp only[lowI,YH5,List.foldl_nil];rw[if_neg (by omega)]
 have l2:YbK (a.1*n) [a.2*n]=a.2*n:=by
   simp only[YbK,YH5,List.foldl_nil];split <;> omega
 rw[l1,l2]
 simp only[rndT,if_true,YHm,if_false]
theorem Yro{x d:Int}(hd:1<=d)(hx:0<=x):0<= -((-x)/d)/\ -((-x)/d)<=x:=by
 have m2: -x<=(-x)/d:=by
   rw[Int.le_ediv_iff_mul_le (by omega)]
   have:x*1<=x*d:=YHb hd hx
   rw[Int.neg_mul];omega
 have m3:(-x)/d<=0:=Int.ediv_nonpos_of_nonpos_of_neg (by omega) (by omega)
 omega
theorem Yll{x y d:Int}(hd:1<=d)(h:x<=y): -((-x)/d)<= -((-y)/d):=by
 have:=Int.ediv_le_ediv (a:= -y) (b:= -x) (c:=d) (by omega) (by omega)
 omega
theorem YrQ{x y d:Int}(hd:1<=d)(h:x<=y):x/d<= -((-y)/d):=by
 refine Int.ediv_le_of_le_mul (by omega) ?_
 have:=Int.ediv_mul_le (-y) (show d≠0 by omega)
 rw[Int.neg_mul];omega
theorem pi_v{a:Iv}(h0:0<=a.1)(h1:a.1<=a.2)(h2:a.2<=3000000):piF a=((a.1*3141592653589793238/1000000000000000000, -((-(a.2*3141592653589793239))/1000000000000000000)),0):=by
 have e1:ivE [a]=0:=okE1 (by omega) h1 (by omega)
 unfold piF
 rw[e1,if_neg (by decide)]
 unfold YdC
 have l1:lowI (a.1*3141592653589793238) [a.1*3141592653589793239,a.2*3141592653589793238,a.2*3141592653589793239]=a.1*3141592653589793238:=by
   simp only[lowI,YH5,List.foldl_nil];rw[if_neg (by omega),if_neg (by omega),if_neg (by omega)]
 have l2:YbK (a.1*3141592653589793238) [a.1*3141592653589793239,a.2*3141592653589793238,a.2*3141592653589793239]=a.2*3141592653589793239:=by
   simp only[YbK,YH5,List.foldl_nil]
   repeat' split
   all_goals omega
 rw[l1,l2]
 unfold rndF
 simp only[rndT,if_true,YHm,if_false]
 rw[Yds (by omega) (by omega),Yds (by omega) (by omega)]
 rfl
theorem Yl9{s:Scl}(h:chkL s=0):(1<=s.mn/\s.mn<=20)/\(1<=s.md/\s.md<=20)/\(1<=s.cn/\s.cn<=20)/\(1<=s.cd/\s.cd<=20):=by
 have h3:=(Ye6 h).2.2
 simp only[okS,Ydm,inS,YG2,decide_eq_true_eq]at h3
 omega
theorem YGP{s:Scl}(hs:chkL s=0){note:Int}(hn:0<=note/\note<=139):
   widS s note=((diaS s note).1*3141592653589793238/1000000000000000000*s.mn/s.md, -((-(-((-((diaS s note).2*3141592653589793239))/1000000000000000000)*s.mn))/s.md))/\
   0<=(widS s note).1/\(widS s note).1<=(widS s note).2/\(widS s note).2<=200000000:=by
 obtain⟨d0,d1,d2,d3⟩:=YrB hs hn
 obtain⟨p1,p2,_,_⟩:=Yl9 hs
 have hp:=pi_v d0 d1 d3
 obtain⟨A,hA⟩:∃A,A=(diaS s note).1*3141592653589793238/1000000000000000000:=⟨_,rfl⟩
 obtain⟨B,hB⟩:∃B,B= -((-((diaS s note).2*3141592653589793239))/1000000000000000000):=⟨_,rfl⟩
 have hA0:0<=A:=by omega
 have hAB:A<=B:=by omega
 have hB1:B<=10000000:=by omega
 have e:widS s note=(A*s.mn/s.md, -((-(B*s.mn))/s.md)):=by
   unfold widS
   rw[hp,<-hA,<-hB,YAv hA0 hAB (by simp only;omega) (by omega) (by omega) p2.1 (by omega)]
 rw[<-hA,<-hB,e]
 have m1:A*s.mn<=B*s.mn:=YHj hAB (by omega)
 have m0:0<=A*s.mn:=YG7 hA0 (by omega)
 have m2:B*s.mn<=10000000*20:=YaG hB1 p1.2 (by omega) (by decide)
 refine⟨rfl,Int.ediv_nonneg m0 (by omega),YrQ p2.1 m1,?_⟩
 have:=(Yro (d:=s.md) p2.1 (show 0<=B*s.mn by omega)).2
 simp only
 omega
theorem Yoc{s:Scl}(hs:chkL s=0){note:Int}(h0:Yft s<=note):∀k:Nat,note+k<=139->(diaS s (note+k)).1<=(diaS s note).1/\(diaS s (note+k)).2<=(diaS s note).2
 |0,_=>by rw[show note+((0:Nat):Int)=note by omega];exact⟨YHS _,YHS _⟩
 |k+1,h=>by
   have a:=Yoc hs h0 k (by omega)
   have b:=Yu9 hs (note:=note+k) (by omega) (by omega)
   rw[show note+((k+1:Nat):Int)=note+k+1 by omega]
   omega
theorem Yww{s:Scl}{note:Int}(h:askS s note note=0)(h2:note+12<=139):(widS s (note+12)).1<=(widS s note).1/\(widS s (note+12)).2<=(widS s note).2:=by
 obtain⟨hs,h0,_⟩:=YuX h
 have hf:=YdO hs
 obtain⟨p1,p2,_,_⟩:=Yl9 hs
 obtain⟨e1,e2⟩:=Yoc hs h0.1 12 (by omega)
 rw[show note+((12:Nat):Int)=note+12 from rfl]at e1 e2
 rw[(YGP hs (note:=note) (by omega)).1,(YGP hs (note:=note+12) (by omega)).1]
 simp only
 constructor
 . refine Int.ediv_le_ediv (by omega) (YHj (Int.ediv_le_ediv (by decide) (by omega)) (by omega))
 . exact Yll p2.1 (YHj (Yll (by decide) (by omega)) (by omega))
theorem Yyv{s:Scl}{note kind:Int}(h:(bodF s note kind).2=0):askS s note note=0/\bodF s note kind=(bodB s note kind,0)/\chkB (bodB s note kind)=0/\(mouS s note).2.2=0:=by
 unfold bodF at h⊢
 split at h
 . exact absurd h ‹_›
 . rename_i h1
   rw[if_neg h1]
   split at h
   . rename_i h2
     rw[if_pos h2]
     split at h
     . cases h
     . rename_i h3
       rw[if_neg h3]
       refine⟨?_,rfl,by simpa using h3,by simpa using h1⟩
       unfold mouS at h1
       split at h1
       . rename_i h4;exact absurd h4 (by simpa using h1)
       . rename_i h4;simpa using h4
   . cases h
theorem YCY{b:Bdy}(hc:chkB b=0)(x:Iv)(least most t:Int):begE b x least most t=0\/begE b x least most t=2:=by
 unfold begE
 rw[if_neg (by omega)]
 split
 . exact Or.inr rfl
 . exact Or.inl rfl
theorem YwT(x:Iv)(e m:Int):(Ycy x e m).2=0\/(Ycy x e m).2=7:=by
 unfold Ycy
 split
 . exact Or.inr rfl
 . exact Or.inl rfl
theorem len_e{b:Bdy}(hc:chkB b=0)(f:Iv)(t:Int):(lenF b f t).2=0\/(lenF b f t).2=2\/(lenF b f t).2=7:=by
 unfold lenF
 split
 . rename_i h
   rcases YCY hc f 1000 20000000 t with h1|h1
   . exact absurd h1 h
   . exact Or.inr (Or.inl h1)
 . rcases YwT (subF (quoF (wayF b t).1 f).1 (Yao b)).1 (YhH (YhH (wayF b t).2 (quoF (wayF b t).1 f).2) (subF (quoF (wayF b t).1 f).1 (Yao b)).2) 12000000 with h|h
   . exact Or.inl h
   . exact Or.inr (Or.inr h)
theorem pit_e{b:Bdy}(hc:chkB b=0)(f:Iv)(t:Int):(pitF b f t).2=0\/(pitF b f t).2=2\/(pitF b f t).2=7:=by
 unfold pitF
 split
 . rename_i h
   rcases YCY hc f 1 12000000 t with h1|h1
   . exact absurd h1 h
   . exact Or.inr (Or.inl h1)
 . rcases YwT (quoF (wayF b t).1 (addF f (Yao b)).1).1 (YhH (wayF b t).2 (quoF (wayF b t).1 (addF f (Yao b)).1).2) 200000000 with h|h
   . exact Or.inl h
   . exact Or.inr (Or.inr h)
theorem top_1{b:Bdy}(hc:chkB b=0){f:Iv}{t:Int}(h:(lenF b f t).2≠7):((lenF b f t).2=0\/(lenF b f t).2=2)/\((lenF b f t).2=0->((pitF b (lenF b f t).1 t).2=0\/(pitF b (lenF b f t).1 t).2=7)/\((pitF b (lenF b f t).1 t).2=0->(pitF b (lenF b f t).1 t).1.1<=f.1/\f.2<=(pitF b (lenF b f t).1 t).1.2)):=by
 refine⟨?_,fun h0=>?_⟩
 . rcases len_e hc f t with e|e|e
   . exact Or.inl e
   . exact Or.inr e
   . exact absurd e h
 . obtain⟨k1,k2⟩:=YCR h0
   refine⟨?_,fun hp=>?_⟩
   . rcases pit_e hc (lenF b f t).1 t with e|e|e
     . exact Or.inl e
     . exact absurd e k1
     . exact Or.inr e
   . have:=k2 hp
     simp only[Ynw,YG2,decide_eq_true_eq]at this
     exact this
theorem YtD{p q:Int×Bool}(h:(YaN p q).2≠0):(YaN p q).1=(0,0):=by
 unfold YaN at h⊢
 split
 . rename_i hc;rw[if_pos hc]at h;exact absurd rfl h
 . rfl
theorem Yz2{A B:Iv}(h0:0<=A.1)(h1:0<=A.2)(hB:0<=B.1):(quoF A B).1.2<=A.2:=by
 by_cases hq:(quoF A B).2=0
 . rcases Int.lt_or_le 0 B.1 with hB|hB
   . obtain⟨e,l1,l2⟩:=Ytk h0 hB hq
     rw[e]
     exact(Yro (by omega) h1).2
   . unfold quoF at hq⊢
     split
     . exact h1
     . rename_i h0
       obtain⟨l1,l2⟩:=leE2 (by simpa using h0)
       rw[if_pos (by omega)]
       exact h1
 . have:(quoF A B).1=(0,0):=by
     unfold quoF at hq⊢
     split
     . rfl
     . rename_i h0
       rw[if_neg h0]at hq
       split
       . rfl
       . rename_i h1'
         rw[if_neg h1']at hq
         split
         . rename_i h2';rw[if_pos h2']at hq;exact YtD hq
         . rename_i h2';rw[if_neg h2']at hq;exact YtD hq
   rw[this];exact h1
theorem YsR{b:Bdy}(h:chkB b=0):(YaB b).2<=200000000000000:=by
 obtain⟨_,⟨b0,b1⟩,⟨c0,c1⟩,⟨d0,d1⟩,e0,e1⟩:=Yhq h
 have hb1:b.bottom*b.bottom<=500000*500000:=YaG b1 b1 (by omega) (by decide)
 have hb0:0<=b.bottom*b.bottom:=YG7 (by omega) (by omega)
 unfold YaB
 rw[Yl3 (by omega) (by omega) (by omega) (by omega),YAv hb0 (YHS _) (by simp only;omega) (by decide) (by decide) (by decide) (by decide)]
 have ha:0<=(Yiy b).1:=by
   unfold Yiy Ykw
   split
   . exact YHS _
   . split
     . exact YHS _
     . split
       . exact YHS _
       . exact Int.natCast_nonneg _
 refine Int.le_trans (Yz2 (by simp only;omega) (by simp only;omega) ha) ?_
 simp only;omega
theorem YyN{b:Bdy}(h:chkB b=0):(endF b).2<=200000000000000:=by
 obtain⟨_,⟨b0,b1⟩,⟨c0,c1⟩,⟨d0,d1⟩,e0,e1⟩:=Yhq h
 unfold endF
 split
 . decide
 . rw[YAv (by simp only;omega) (YHS _) (by simp only;omega) (by decide) (by decide) (by decide) (by decide)]
   simp only;omega
theorem YFy{f:Iv×Int}{b:Bdy×Int}{t:Int}(hc:chkB b.1=0)(h:(spkF f b t).2=true):1000<=f.1.1/\f.1.1<=f.1.2/\0<=(spkF f b t).1.1/\(spkF f b t).1.1<=(wayF b.1 t).1.1/f.1.2/\ -((-(wayF b.1 t).1.2)/f.1.1)<=(spkF f b t).1.2/\(spkF f b t).1.2<=1000000000000000/\(spkF f b t).1.1<=(spkF f b t).1.2:=by
 unfold spkF at h⊢
 split at h
 . cases h
 . rename_i h1
   rw[if_neg h1]
   split at h
   . cases h
   . rename_i h2
     rw[if_neg h2]
     simp only[YG2,decide_eq_true_eq]at h
     have h2:(lenF b.1 f.1 t).2=0:=by simpa using h2
     obtain⟨hb,e⟩:=YD1 h2
     obtain⟨_,hs,hx0,hx1,hx2⟩:=YCX hb
     obtain⟨ha,hsum⟩:=h
     unfold spkL at hsum⊢
     obtain⟨es,s1,s2⟩:=YqU hsum
     obtain⟨eb,t1,t2⟩:=YqU ha
     obtain⟨k0,k1⟩:=Yri hc
     have m1:=YsR hc
     have m2:=YyN hc
     rw[es]
     have hbo:(addF (YaB b.1) (endF b.1)).1=Yao b.1:=rfl
     rw[hbo]at eb s2⊢
     have hk2:(Yao b.1).2<=400000000000000:=by rw[eb];simp only;omega
     rw[e]at h2 s1⊢
     obtain⟨he,l0,l1,e2⟩:=YrU h2
     rw[e2]at s1⊢
     obtain⟨he,hsub⟩:=YlS he
     obtain⟨_,hquo⟩:=YlS he
     obtain⟨w0,w1,w2⟩:=Ypg b.1 t
     obtain⟨eq,_,_⟩:=Ytk w0 (by omega:0<f.1.1) hquo
     obtain⟨es2,s3,s4⟩:=YFA hsub
     rw[es2]at l0 l1 s1⊢
     rw[eq]at l0 l1 s1⊢
     simp only at l0 l1 s1⊢
     omega
theorem YFt{a:Iv}(h0:0<=a.1)(h1:a.1<=a.2)(h2:a.2<=1000000000000000):sclF a 2 1=((a.1*2,a.2*2),0):=by
 unfold sclF
 rw[okE1 (by omega) h1 (by omega),if_neg (by decide),if_neg (by omega)]
 unfold YdC
 have l1:lowI (a.1*2) [a.2*2]=a.1*2:=by
   simp only[lowI,YH5,List.foldl_nil];rw[if_neg (by omega)]
 have l2:YbK (a.1*2) [a.2*2]=a.2*2:=by
   simp only[YbK,YH5,List.foldl_nil];split <;> omega
 rw[l1,l2]
 unfold rndF
 simp only[rndT,if_true,YHm,if_false,Int.ediv_one,Int.neg_neg]
 rw[Yds (by omega) (by omega),Yds (by omega) (by omega)]
 rfl
theorem top_2{f f':Iv×Int}{b b':Bdy×Int}{t:Int}(hc:chkB b.1=0)(hc':chkB b'.1=0)(hk:b.1.kind=b'.1.kind)(hd:dblB f.1 f'.1=true)(h:(spkF f b t).2=true)(h':(spkF f' b' t).2=true):
   sclF (spkF f' b' t).1 2 1=(((spkF f' b' t).1.1*2,(spkF f' b' t).1.2*2),0)/\(spkF f b t).1.1<=(spkF f' b' t).1.2*2/\(spkF f' b' t).1.1*2<=(spkF f b t).1.2:=by
 obtain⟨a1,a2,a3,a4,a5,a6,a7⟩:=YFy hc h
 obtain⟨c1,c2,c3,c4,c5,c6,c7⟩:=YFy hc' h'
 have hw:wayF b'.1 t=wayF b.1 t:=by unfold wayF YfF;rw[hk]
 rw[hw]at c4 c5
 obtain⟨w0,w1,w2⟩:=Ypg b.1 t
 simp only[dblB,YG2,YHB,decide_eq_true_eq]at hd
 obtain⟨⟨⟨⟨⟨⟨d1,d2⟩,d3⟩,d4⟩,d5⟩,d6⟩,d7⟩:=hd
 generalize spkF f b t=A at*
 generalize spkF f' b' t=C at*
 generalize wayF b.1 t=W at*
 obtain⟨⟨W0,W1⟩,We⟩:=W
 simp only at*
 have e0:=Int.ediv_mul_le W0 (show f'.1.2≠0 by omega)
 have e1:=Int.ediv_mul_le (-W1) (show f'.1.1≠0 by omega)
 have e2:=Int.ediv_mul_le (-W1) (show f.1.1≠0 by omega)
 obtain⟨q0,hq0⟩:∃q,q=W0/f'.1.2:=⟨_,rfl⟩
 obtain⟨q1,hq1⟩:∃q,q= -(-W1/f'.1.1):=⟨_,rfl⟩
 obtain⟨r1,hr1⟩:∃q,q= -(-W1/f.1.1):=⟨_,rfl⟩
 have g1:W1<=q1*f'.1.1:=by rw[hq1,Int.neg_mul];omega
 have g2:W1<=r1*f.1.1:=by rw[hr1,Int.neg_mul];omega
 rw[<-hq0]at c4 e0
 rw[<-hq1]at c5
 rw[<-hr1]at a5
 have p1:0<=q1:=by
   rw[hq1];have: -W1/f'.1.1<=0:=Int.ediv_nonpos_of_nonpos_of_neg (by omega) (by omega)
   omega
 have p0:0<=q0:=by rw[hq0];exact Int.ediv_nonneg w0 (by omega)
 refine⟨?_,?_,?_⟩
 . have hh:=YFt c3 c7 (by omega:C.1.2<=1000000000000000)
   exact hh
 . have k1:q1*f'.1.1<=q1*(2*f.1.2):=YHb (by omega) p1
   have k2:W0/f.1.2<=2*q1:=by
     refine Int.ediv_le_of_le_mul (by omega) ?_
     have:2*q1*f.1.2=q1*(2*f.1.2):=by rw[YH9 2 q1,Int.mul_assoc]
     omega
   omega
 . have k1:q0*(2*f.1.1)<=q0*f'.1.2:=YHb (by omega) p0
   have k2:2*q0*f.1.1<=r1*f.1.1:=by
     have:2*q0*f.1.1=q0*(2*f.1.1):=by rw[YH9 2 q0,Int.mul_assoc]
     omega
   have k3:=Int.le_of_mul_le_mul_right k2 (by omega:0<f.1.1)
   omega
set_option maxHeartbeats 8000000
def frqA:Ctr:={ alias:=false,of:=fun l=>match l with
 | [.agg [.int .i64 a,.int .i64 t0,.int .i64 t],.agg cs,.int .i64 note]=> .ex Tm fun T=> .pre (cs=encT T/\T.nm.size<=9223372036854775807) (.fin (.tup [.agg [.int .i64 (YgD a a t0 t T note).1.1,.int .i64 (YgD a a t0 t T note).1.2],.int .i64 (YgD a a t0 t T note).2]) [])
 |_=>noC}
theorem YrW:frqA.ok YGY 8:=by
 refine Yb Tryz.func8 v8_is YCp 900 frqA fun args k h=>?_
 simp only[frqA]at h
 split at h
 . rename_i a t0 t cs note
   obtain⟨T,⟨rfl,hnm⟩,h⟩:=h
   refine⟨[.agg [.int .i64 a,.int .i64 t0,.int .i64 t],.agg (encT T),.int .i64 note],⟨⟨⟨rfl,rfl⟩,⟨rfl,rfl⟩,⟨rfl,rfl⟩,trivial⟩,Yp _ (Ydb T _),⟨rfl,rfl⟩,trivial⟩,?_⟩
   dsimp only[v8,Ywo,lenT,Yjr,freqC,Yjs,chkSC,Yjv,NotC,Yjp,Yjw,v24,Yjt,Yjy,v56,Yju,Yjz,v62,Yjq,Yjx,v25,go_sem,reduceIte,YGU]
   simp only[Yc,YGU,YGW,reduceCtorEq,YGV]
   refine⟨YhR T,YhR T,YhR T,fun hs=>?_,fun hs=>⟨T,⟨rfl,hnm⟩,?_⟩⟩
   . rw[YgD,if_pos hs]at h
     exact⟨by decide,by decide,fun _=>⟨by decide,by decide,YdE (show k _ []from h)⟩,fun hh=>absurd hh hs⟩
   . rw[YgD,if_neg (fun hh=>hh hs)]at h
     by_cases hT:Yat T=0
     . rw[if_neg (fun hh=>hh hT)]at h⊢
       dsimp only[Ywo,lenT,Yjr,freqC,Yjs,chkSC,Yjv,NotC,Yjp,Yjw,v24,Yjt,Yjy,v56,Yju,Yjz,v62,Yjq,Yjx,v25,go_sem,reduceIte,YGU]
       simp only[Yc,YGU,YGW,reduceCtorEq,YGV]
       refine⟨by decide,by decide,fun hh=>absurd trivial hh,?_⟩
       obtain⟨ha,hb0,hb1⟩:=Yrv hs
       refine⟨by decide,by decide,fun hh=>absurd trivial hh,fun hc=>?_,fun hc=>⟨YaT T,⟨fun q _=>Yd _,?_,hb0,hb1⟩,by decide,by decide,?_⟩⟩
       . have hc:note<0\/139<note:=by simp only[Bool.and_eq_false_iff,decide_eq_false_iff_not]at hc;omega
         rw[if_pos hc]at h
         exact⟨by decide,by decide,YdE (show k _ []from h)⟩
       . simpa using hc
       . have hc:0<=note/\note<=139:=by simpa using hc
         rw[if_neg (by omega)]at h
         exact YdE (show k _ []from h)
     . rw[if_pos hT]at h⊢
       dsimp only[Ywo,lenT,Yjr,freqC,Yjs,chkSC,Yjv,NotC,Yjp,Yjw,v24,Yjt,Yjy,v56,Yju,Yjz,v62,Yjq,Yjx,v25,go_sem,reduceIte,YGU]
       simp only[Yc,YGU,YGW,reduceCtorEq,YGV]
       exact⟨by decide,by decide,fun _=>⟨by decide,by decide,fun _=>⟨by decide,by decide,YdE (show k _ []from h)⟩,fun hh=>absurd hh hT⟩,fun hh=>absurd hh hT⟩
 . exact h.1.elim
theorem Yxb{u a t0 t note:Int}{T:Tm}(h:(YgD u a t0 t T note).2=0):chkS a t0 t=0/\Yat T=0/\0<=note/\note<=139/\YgD u a t0 t T note=(YlG (YaT T) t0 t note u,0):=by
 unfold YgD at h⊢
 split at h
 . exact absurd h ‹_›
 . rename_i h1
   rw[if_neg h1]
   split at h
   . exact absurd h ‹_›
   . rename_i h2
     rw[if_neg h2]
     split at h
     . cases h
     . rename_i h3
       rw[if_neg h3]
       exact⟨by omega,by omega,by omega,by omega,rfl⟩
def v94:VF:=⟨15,[.tmp 6],(ZR [u1 6 .mov [.cn (.bool false)]] (ZR [Zm 7 0,Zm 8 1,Zr 9 .geq 7 8,Zm 10 9,Zg 11 10 true 0,Zg 12 10 true 2,u2 13 10 true (.cmp .leq) [.tm 11,.tm 12],u1 14 .and [.tm 10,.tm 13],Zm 6 14] .ret))⟩
theorem YGH:Yf YGY Tryz.f94=some v94:=by kernel_rfl
def v72:VF:=⟨16,[.tmp 4],(ZR [u1 2 .box [.tm 0],u1 4 .mov [.cn (.bool false)]] (ZR [Zm 5 1,Za 6 2 2,Zf 7 1 6,u1 8 (.idxAddr 2) [.tm 7,.cn (.int .i64 0)],Za 9 0 8,Zf 10 1 9,Zr 11 .geq 5 10,Zm 12 11,Zg 13 12 true 1,u2 14 12 true (.cmp .leq) [.tm 13,.cn (.int .i64 139)],u1 15 .and [.tm 12,.tm 14],Zm 4 15] .ret))⟩
theorem YGr:Yf YGY Tryz.f72=some v72:=by kernel_rfl
def v71:VF:=⟨87,[.tmp 2],(ZR [u1 1 .box [.tm 0],Zi 2 0] (.seq (ZR [Za 9 2 1,Zf 10 1 9,Zl 11 10,Zq 12 .gtr 11 3] (ZC 12 (ZR [Zi 2 3] .ret) .skip)) (ZR [Za 13 2 1,Zf 14 1 13,Zl 15 14,Zq 16 .gtr 15 0,Zm 17 16,Zj 18 17 true 0 1,Zh 19 17 true 1 18,u2 20 17 true (.call 94) [.tm 19,.cn (.int .i64 1000),.cn (.int .i64 500000)],u1 21 .and [.tm 17,.tm 20],Zm 22 21,Zj 23 22 true 1 1,Zh 24 22 true 1 23,Zj 25 22 true 0 1,Zh 26 22 true 1 25,u2 27 22 true (.ari .sub) [.tm 26,.cn (.int .i64 1)],u2 28 22 true .min [.cn (.int .i64 50000),.tm 27],u2 29 22 true (.call 94) [.tm 24,.cn (.int .i64 0),.tm 28],u1 30 .and [.tm 22,.tm 29],Zm 3 30] (.seq (ZR [Za 31 3 1,Zf 32 1 31,Za 33 4 1,Zf 34 1 33,Za 35 5 1,Zf 36 1 35,Za 37 6 1,Zf 38 1 37,u1 39 (.build [(.int .i64 0),(.int .i64 0),(.int .i64 0),(.int .i64 0)] [(0,1),(1,1),(2,1),(3,1)]) [.tm 32,.tm 34,.tm 36,.tm 38],Zi 40 0] (.block 0 (.loop (ZR [Zq 41 .lss 40 4] (.seq (ZC 41 .skip (.exit 0)) (.seq (.block 1 (ZR [u1 42 (.index false 4 1) [.tm 39,.tm 40],Zm 5 42] (.region [Zm 43 3,Zm 44 43,Zg 45 44 true 5,u2 46 44 true (.call 94) [.tm 45,.cn (.int .i64 1),.cn (.int .i64 20)],u1 47 .and [.tm 44,.tm 46],Zm 3 47]))) (.region [Zp 48 40 1,Zm 40 48]))))))) (ZR [Zi 6 (-1)] (.seq (ZR [Za 49 2 1,Zf 50 1 49,Zl 51 50,Zi 52 0] (.block 2 (.loop (ZR [Zr 53 .lss 52 51] (.seq (ZC 53 .skip (.exit 2)) (.seq (.block 3 (ZR [Zx 54 2 50 52,Zt 55 2 54,Zn 8,Zs 2 8 55] (ZR [Zm 56 3,Zm 57 56,Zj 58 57 true 0 8,Zh 59 57 true 1 58,Zg 60 57 true 6,u2 61 57 true (.cmp .gtr) [.tm 59,.tm 60],u1 62 .and [.tm 57,.tm 61],Zm 63 62,Zj 64 63 true 0 8,Zh 65 63 true 1 64,u2 66 63 true (.cmp .leq) [.tm 65,.cn (.int .i64 139)],u1 67 .and [.tm 63,.tm 66],Zm 68 67,Zj 69 68 true 1 8,Zh 70 68 true 1 69,u2 71 68 true (.call 94) [.tm 70,.cn (.int .i64 8),.cn (.int .i64 64)],u1 72 .and [.tm 68,.tm 71],Zm 3 72] (.region [Zm 73 6,Za 74 0 8,Zf 75 1 74,u1 76 .max [.tm 73,.tm 75],Zm 6 76])))) (.region [Zp 77 52 1,Zm 52 77]))))))) (.seq (ZR [Zm 78 3,u1 79 .not [.tm 78],Zm 80 79,Zj 81 80 false 3 1,Zh 82 80 false 1 81,Zj 83 80 false 4 1,Zh 84 80 false 1 83,u2 85 80 false (.cmp .geq) [.tm 82,.tm 84],u1 86 .or [.tm 80,.tm 85]] (ZC 86 (ZR [Zi 2 2] .ret) .skip)) (ZR [Zi 2 0] .ret))))))))⟩
theorem YGq:Yf YGY Tryz.f71=some v71:=by kernel_rfl
def v41:VF:=⟨28,[.tmp 6],(ZR [u1 3 .box [.tm 0],Zi 6 0] (.seq (ZR [Zt 8 7 3,Zc 9 71 8,Zm 7 9] (ZR [Zm 10 7,Zq 11 .neq 10 0] (ZC 11 (ZR [Zm 12 7,Zm 6 12] .ret) .skip))) (.seq (ZR [Zt 13 7 3,Zm 14 1,Zd 15 72 13 14,u1 16 .not [.tm 15],Zm 17 16,u2 18 17 false (.load true 7) [.tm 3],Zg 19 17 false 2,u2 20 17 false (.call 72) [.tm 18,.tm 19],u2 21 17 false .not [.tm 20],u1 22 .or [.tm 17,.tm 21],Zm 23 22,Zg 24 23 false 1,Zg 25 23 false 2,u2 26 23 false (.cmp .gtr) [.tm 24,.tm 25],u1 27 .or [.tm 23,.tm 26]] (ZC 27 (ZR [Zi 6 2] .ret) .skip)) (ZR [Zi 6 0] .ret))))⟩
theorem YGa:Yf YGY Tryz.f41=some v41:=by kernel_rfl
def inSC:Ctr:={ alias:=false,of:=fun l=>match l with
 | [.int .i64 n,.int .i64 a,.int .i64 b]=> .fin (.bool (inS n a b)) []
 |_=> .pre False (.fin (.bool false) [])}
def UK00:Env:={ ct:=fun _=>none,fn:=fun _=>none,meth:=fun _ _=>none}
theorem Yqv:Yl YGY UK00:=by
 refine⟨fun f c h=>?_,fun f vf h=>?_,(fun _ _ _ h=>by cases h),by kernel_rfl,(fun _ h=>by cases h)⟩
 . cases h
 . cases h
theorem inS_c:inSC.ok YGY 94:=by
 refine Yb Tryz.func94 YGH Yqv 100 inSC fun args k h=>?_
 simp only[inSC]at h
 split at h
 . rename_i n a b
   refine⟨[.int .i64 n,.int .i64 a,.int .i64 b],by simp [leL,le],?_⟩
   dsimp only[v94,go_sem,reduceIte,YGU]
   simp only[Yc,YGU,YGW,reduceCtorEq,YGV]
   exact Yx h
 . exact h.1.elim
def hasC:Ctr:={ alias:=false,of:=fun l=>match l with
 | [.agg [.int .i64 d,.int .i64 c,.vs _ _ n sz get,.int .i64 mn,.int .i64 md,.int .i64 cn,.int .i64 cd],.int .i64 note]=>
   .ex (List (Int×Int)) fun bs=> .pre (lsP 2 enc2 n sz get bs/\0<n/\n<=9223372036854775807) (.fin (.bool (hasS ⟨d,c,bs,mn,md,cn,cd⟩ note)) [])
 |_=> .pre False (.fin (.bool false) [])}
theorem YDx:hasC.ok YGY 72:=by
 refine Yb Tryz.func72 YGr Yqv 100 hasC fun args k h=>?_
 simp only[hasC]at h
 split at h
 . rename_i d c tt z n sz get mn md cn cd note
   obtain⟨bs,⟨⟨rfl,rfl,hg⟩,hn0,hn⟩,h⟩:=h
   refine⟨[.agg [.int .i64 d,.int .i64 c,.vs tt z bs.length 2 (fun k=>enc2 (bs.getD k default)),.int .i64 mn,.int .i64 md,.int .i64 cn,.int .i64 cd],.int .i64 note],⟨⟨⟨rfl,rfl⟩,⟨rfl,rfl⟩,⟨id,rfl,rfl,rfl,hg⟩,⟨rfl,rfl⟩,⟨rfl,rfl⟩,⟨rfl,rfl⟩,⟨rfl,rfl⟩,trivial⟩,⟨rfl,rfl⟩,trivial⟩,?_⟩
   dsimp only[v72,enc2,Int.toNat_zero,go_sem,reduceIte,YGU]
   simp only[Yc,YGU,YGW,reduceCtorEq,YGV]
   refine⟨⟨by omega,by omega⟩,Yx h⟩
 . exact h.1.elim
def ptB(g:Bool)(mn md cn cd:Int):Nat->Bool
 |0=>g
 |1=>g&&Ydm mn
 |2=>g&&Ydm mn&&Ydm md
 |3=>g&&Ydm mn&&Ydm md&&Ydm cn
 |_=>g&&Ydm mn&&Ydm md&&Ydm cn&&Ydm cd
def stepG(g:Bool×Int)(b:Int×Int):Bool×Int:=(g.1&&decide (g.2<b.1)&&decide (b.1<=139)&&inS b.2 8 64,max g.2 b.1)
theorem Ypb:∀(r:List (Int×Int))(g:Bool)(last:Int),(r.foldl stepG (g,last)).1=(g&&benL r last)
 | [],g,last=>by rw[benL,Bool.and_true];rfl
 |b::r,g,last=>by
   rw[YH5,stepG,Ypb r,benL]
   simp only
   by_cases c:last<b.1
   . rw[decide_eq_true c,show max last b.1=b.1 by omega]
     simp only[Bool.and_true,Bool.true_and,Bool.and_assoc]
   . rw[decide_eq_false c]
     simp only[Bool.and_false,Bool.false_and]
def chkLC:Ctr:={ alias:=false,of:=fun l=>match l with
 | [.agg [.int .i64 d,.int .i64 c,.vs _ _ n sz get,.int .i64 mn,.int .i64 md,.int .i64 cn,.int .i64 cd]]=>
   .ex (List (Int×Int)) fun bs=> .pre (lsP 2 enc2 n sz get bs/\n<=9223372036854775807) (.fin (.int .i64 (chkL ⟨d,c,bs,mn,md,cn,cd⟩)) [])
 |_=>noC}
def UK01:Env:={ ct:=fun n=>match n with|94=>some inSC|_=>none,fn:=fun _=>none,meth:=fun _ _=>none}
theorem Yb1:UK01.ct 94=some inSC:=rfl
theorem YxV:Yl YGY UK01:=by
 refine⟨fun f c h=>?_,fun f vf h=>?_,(fun _ _ _ h=>by cases h),by kernel_rfl,(fun _ h=>by cases h)⟩
 . simp only[UK01]at h
   split at h
   . cases h;exact⟨inS_c,Tryz.f94,Tryz.func94,by kernel_rfl,by kernel_rfl⟩
   . cases h
 . cases h
theorem YC8:chkLC.ok YGY 71:=by
 refine Yb Tryz.func71 YGq YxV 400 chkLC fun args k h=>?_
 simp only[chkLC]at h
 split at h
 . rename_i d c tt z n sz get mn md cn cd
   obtain⟨bs,⟨⟨rfl,rfl,hg⟩,hn⟩,h⟩:=h
   refine⟨[.agg [.int .i64 d,.int .i64 c,.vs tt z bs.length 2 (fun k=>enc2 (bs.getD k default)),.int .i64 mn,.int .i64 md,.int .i64 cn,.int .i64 cd]],⟨⟨⟨rfl,rfl⟩,⟨rfl,rfl⟩,⟨id,rfl,rfl,rfl,hg⟩,⟨rfl,rfl⟩,⟨rfl,rfl⟩,⟨rfl,rfl⟩,⟨rfl,rfl⟩,trivial⟩,trivial⟩,?_⟩
   dsimp only[v71,Yb1,inSC,enc2,go_sem,reduceIte,YGU]
   simp only[Yc,YGU,YGW,reduceCtorEq,YGV]
   refine⟨fun hc=>?_,fun hc=>?_⟩
   . rw[chkL,if_pos (by simp only;omega)]at h;exact Yi h
   . rw[chkL,if_neg (by simp only;omega)]at h
     obtain⟨G,hG⟩:∃G,G=(decide (0<(bs.length:Int))&&inS d 1000 500000&&inS c 0 (min 50000 (IntKind.i64.wrap (d-1)))):=⟨_,rfl⟩
     rw[<-hG]
     refine Loop.keep [1,37] Nat (fun i=>[(3,.bool (ptB G mn md cn cd i)),(40,.int .i64 i)]) (fun _=>[]) [] (fun i=>i<=4) (fun i=>4-i) ?_ ?_
     . refine⟨0,by omega,?_⟩
       dsimp only[go_sem,reduceIte,YGU]
       simp only[Ya]
       exact⟨by decide,rfl,rfl⟩
     . intro i hi
       rcases(by omega:i=0\/i=1\/i=2\/i=3\/i=4)with rfl|rfl|rfl|rfl|rfl
       . dsimp only[Yb1,inSC,YG0,go_sem,reduceIte,YGU]
         simp only[Yc,YGU,YGW,reduceCtorEq,YGV]
         refine⟨fun _=>⟨by decide,1,by decide,by decide,?_⟩,fun hh=>absurd (by decide) hh⟩
         simp only[Ya]
         exact⟨by decide,rfl,rfl⟩
       . dsimp only[Yb1,inSC,YG0,go_sem,reduceIte,YGU]
         simp only[Yc,YGU,YGW,reduceCtorEq,YGV]
         refine⟨fun _=>⟨by decide,2,by decide,by decide,?_⟩,fun hh=>absurd (by decide) hh⟩
         simp only[Ya]
         exact⟨by decide,rfl,rfl⟩
       . dsimp only[Yb1,inSC,YG0,go_sem,reduceIte,YGU]
         simp only[Yc,YGU,YGW,reduceCtorEq,YGV]
         refine⟨fun _=>⟨by decide,3,by decide,by decide,?_⟩,fun hh=>absurd (by decide) hh⟩
         simp only[Ya]
         exact⟨by decide,rfl,rfl⟩
       . dsimp only[Yb1,inSC,YG0,go_sem,reduceIte,YGU]
         simp only[Yc,YGU,YGW,reduceCtorEq,YGV]
         refine⟨fun _=>⟨by decide,4,by decide,by decide,?_⟩,fun hh=>absurd (by decide) hh⟩
         simp only[Ya]
         exact⟨by decide,rfl,rfl⟩
       . dsimp only[Yb1,inSC,YG0,go_sem,reduceIte,YGU]
         simp only[Yc,YGU,YGW,reduceCtorEq,YGV]
         refine⟨fun hh=>absurd hh (by decide),fun _=>?_⟩
         obtain⟨G2,hG2⟩:∃G2,G2=ptB G mn md cn cd 4:=⟨_,rfl⟩
         rw[<-hG2]
         refine Loop.keep [1,48,0] Nat (fun i=>[(3,.bool ((bs.take i).foldl stepG (G2, -1)).1),(6,.int .i64 ((bs.take i).foldl stepG (G2, -1)).2),(52,.int .i64 i)]) (fun _=>[]) [] (fun i=>i<=bs.length) (fun i=>bs.length-i) ?_ ?_
         . refine⟨0,by omega,?_⟩
           dsimp only[go_sem,reduceIte,YGU]
           simp only[Ya]
           exact⟨by decide,rfl,rfl,rfl⟩
         . intro i hi
           dsimp only[Yb1,inSC,enc2,YG0,go_sem,reduceIte,YGU]
           simp only[Yc,YGU,YGW,reduceCtorEq,YGV]
           refine⟨fun hlt=>⟨⟨by omega,by omega⟩,i+1,by omega,by omega,?_⟩,fun hge=>?_⟩
           . rw[YE (by omega),YGZ ((i:Int)+1) (by omega)]
             simp only[Ya]
             exact⟨by decide,rfl,rfl,rfl⟩
           . obtain rfl:i=bs.length:=by omega
             rw[List.take_length,Ypb]
             have e:okS ⟨d,c,bs,mn,md,cn,cd⟩=(G2&&benL bs (-1)&&decide (mn<md)):=by
               have hp:ptB G mn md cn cd 4=(G&&Ydm mn&&Ydm md&&Ydm cn&&Ydm cd):=rfl
               rw[hG2,hp,hG,okS]
               have e1:decide (bs≠ [])=decide (0<(bs.length:Int)):=by
                 cases bs with
                 |nil=>rfl
                 |cons b r=>rw[decide_eq_true (by simp),decide_eq_true (by rw[YH1];omega)]
               simp only
               rw[e1]
               by_cases hd:inS d 1000 500000=true
               . have hd':=hd
                 simp only[inS,YG2,decide_eq_true_eq]at hd'
                 rw[YGZ (d-1) (by omega)]
               . rw[Bool.not_eq_true]at hd
                 rw[hd]
                 simp only[Bool.and_false,Bool.false_and]
             rw[e]at h
             have e2:decide (md<=mn)= !decide (mn<md):=by
               by_cases hh:mn<md
               . rw[decide_eq_true hh,decide_eq_false (by omega)];rfl
               . rw[decide_eq_false hh,decide_eq_true (by omega)];rfl
             rw[e2,<-YH4]
             refine⟨fun hh=>?_,fun hh=>?_⟩
             . rw[YHn]at hh
               rw[hh,if_neg (by decide)]at h;exact Yi h
             . rw[YHA]at hh
               rw[hh,if_pos rfl]at h;exact Yi h
 . exact h.1.elim
def v73:VF:=⟨37,[.cell 4 false 1,.cell 5 false 1],(ZR [u1 2 .box [.tm 0],u1 4 (.alloc [(.int .i64 0)]) [],u1 5 (.alloc [(.int .i64 0)]) []] (.scope (ZR [u0 (.store 1) [.tm 5,.cn (.int .i64 1)]] (ZR [u1 6 (.alloc [(.int .i64 0)]) [],u1 7 (.alloc [(.int .i64 0)]) [],u0 (.store 1) [.tm 6,.cn (.int .i64 0)],u0 (.store 1) [.tm 7,.cn (.int .i64 0)]] (ZR [u1 11 (.mkfn (.func 95) 0) [.tm 7,.tm 4,.tm 6,.tm 5],Zm 8 11] (.seq .skip (.seq (ZR [Za 12 2 2,Zf 13 1 12,Zl 14 13,Zi 15 0] (.block 0 (.loop (ZR [Zr 16 .lss 15 14] (.seq (ZC 16 .skip (.exit 0)) (.seq (.block 1 (ZR [Zx 17 2 13 15,Zt 18 2 17,Zn 10,Zs 2 10 18] (.seq (ZR [Za 19 0 10,Zf 20 1 19,Zm 21 1,Zr 22 .geq 20 21] (ZC 22 (.exit 0) .skip)) (ZR [Zm 23 8,Za 24 0 10,Zf 25 1 24,u1 26 .callv [.tm 23,.tm 25]] (.draw [] [Zy 27 0 10,Zv 28 1 27,Zy 29 1 10,Zv 30 1 29,⟨Zs 1 6 28,[.tm 29]⟩,ZS 1 7 30]))))) (.region [Zp 31 15 1,Zm 15 31]))))))) (ZR [Zm 32 8,Zm 33 1,u1 34 .callv [.tm 32,.tm 33]] (.seq (.draw [] [Zv 35 1 4,Zv 36 1 5,⟨Zs 1 4 35,[.tm 5]⟩,ZS 1 5 36]) .ret)))))))))⟩
theorem YGs:Yf YGY Tryz.f73=some v73:=by kernel_rfl
def v95:VF:=⟨20,[],(ZR [Zf 6 1 1,Zq 7 .gtr 6 0] (ZC 7 (.draw [] [Zv 8 1 2,Zv 9 1 1,w1 10 (.ari .mul) [.tm 8,.tm 9],Zu 11 0,Zv 12 1 3,w1 13 (.ari .sub) [.tm 11,.tm 12],Zv 14 1 4,w1 15 (.ari .mul) [.tm 13,.tm 14],w1 16 (.ari .add) [.tm 10,.tm 15],Zv 17 1 4,Zv 18 1 1,w1 19 (.ari .mul) [.tm 17,.tm 18],⟨Zs 1 2 16,[.tm 4,.tm 1]⟩,ZS 1 4 19]) .skip))⟩
theorem YGI:Yf YGY Tryz.f95=some v95:=by kernel_rfl
def v43:VF:=⟨48,[.cell 4 true 2],(ZR [u1 2 .box [.tm 0],Zn 4] (ZR [Zt 12 7 2,Zm 13 1,Zd 14 73 12 13,Zm 11 14,Ze 15 0 11,Ze 16 1 11,Zm 5 15,Zm 6 16] (ZR [Za 18 0 2,Zf 19 1 18,Za 20 1 2,Zf 21 1 20,Zo 22 .sub 19 21,Zm 23 5,u1 24 .neg [.tm 23],u1 25 (.build [(.int .i64 0),(.int .i64 0)] [(0,1),(1,1)]) [.cn (.int .i64 2),.tm 24],u1 26 (.buildSlice 2 1 [(.int .i64 0),(.int .i64 0)] [(0,2)]) [.tm 25],Zm 27 6,u1 28 (.call 74) [.tm 22,.tm 26,.tm 27],Zm 17 28,Ze 29 0 17,Ze 30 1 17,Ze 31 2 17,Zm 7 29,Zm 8 30,Zm 9 31] (ZR [Za 32 1 2,Zf 33 1 32,Zm 34 7,Zo 35 .add 33 34,Za 36 1 2,Zf 37 1 36,Zm 38 7,Zo 39 .add 37 38,u1 40 (.build [(.int .i64 0),(.int .i64 0)] [(0,1),(1,1)]) [.tm 35,.tm 39],Zn 10,Zs 2 10 40] (.seq (ZR [Zm 41 8,u1 42 .not [.tm 41]] (ZC 42 (.region [Za 43 1 10,Zf 44 1 43,Zp 45 44 1,Za 46 1 10,Zs 1 46 45]) .skip)) (ZR [Zt 47 2 10,Zs 2 4 47] .ret))))))⟩
theorem YGc:Yf YGY Tryz.f43=some v43:=by kernel_rfl
def v28:VF:=⟨18,[.cell 4 true 2,.tmp 5],(ZR [u1 2 .box [.tm 0],Zn 4,Zi 5 0] (.seq (ZR [Zt 7 7 2,Zm 8 1,Zm 9 1,u1 10 (.call 41) [.tm 7,.tm 8,.tm 9],Zm 6 10] (ZR [Zm 11 6,Zq 12 .neq 11 0] (ZC 12 (ZR [u1 13 (.build [(.int .i64 0),(.int .i64 0)] []) [],Zm 14 6,Zs 2 4 13,Zm 5 14] .ret) .skip))) (ZR [Zt 15 7 2,Zm 16 1,Zd 17 43 15 16,Zs 2 4 17,Zi 5 0] .ret)))⟩
theorem YFY:Yf YGY Tryz.f28=some v28:=by kernel_rfl
theorem YdL{α:Type}[Inhabited α]{l:List α}{i:Nat}(h:i<l.length):l.drop i=l.getD i default::l.drop (i+1):=by
 rw[List.drop_eq_getElem_cons h,YG9,List.getElem?_eq_getElem h];rfl
theorem YnT{k:SV->List HO->Prop}{al:Bool}{hp:List HO}{κ κ':IntKind}{x y:Int}(h:k (.tup [.int κ x,.int κ' y]) []):Yy al k (.tup [.int κ x,.int κ' y]) hp:=
 YD (show k _ []from h) (Yw (.tup [.int κ x,.int κ' y]) ⟨trivial,trivial,trivial⟩) (fun _=>by simp [Yj,Yk])
def askC:Ctr:={ alias:=false,of:=fun l=>match l with
 | [.agg [.int .i64 d,.int .i64 c,.vs _ _ n sz get,.int .i64 mn,.int .i64 md,.int .i64 cn,.int .i64 cd],.int .i64 low,.int .i64 high]=>
   .ex (List (Int×Int)) fun bs=> .pre (lsP 2 enc2 n sz get bs/\n<=9223372036854775807) (.fin (.int .i64 (askS ⟨d,c,bs,mn,md,cn,cd⟩ low high)) [])
 |_=>noC}
def UK10:Env:={ ct:=fun n=>match n with|71=>some chkLC|72=>some hasC|_=>none,fn:=fun _=>none,meth:=fun _ _=>none}
theorem Yqw:UK10.ct 71=some chkLC:=rfl
theorem Yqx:UK10.ct 72=some hasC:=rfl
theorem YxW:Yl YGY UK10:=by
 refine⟨fun f c h=>?_,fun f vf h=>?_,(fun _ _ _ h=>by cases h),by kernel_rfl,(fun _ h=>by cases h)⟩
 . simp only[UK10]at h
   split at h
   . cases h;exact⟨YC8,Tryz.f71,Tryz.func71,by kernel_rfl,by kernel_rfl⟩
   . cases h;exact⟨YDx,Tryz.f72,Tryz.func72,by kernel_rfl,by kernel_rfl⟩
   . cases h
 . cases h
theorem YCN:askC.ok YGY 41:=by
 refine Yb Tryz.func41 YGa YxW 300 askC fun args k h=>?_
 simp only[askC]at h
 split at h
 . rename_i d c tt z n sz get mn md cn cd low high
   obtain⟨bs,⟨⟨rfl,rfl,hg⟩,hn⟩,h⟩:=h
   refine⟨[.agg [.int .i64 d,.int .i64 c,.vs tt z bs.length 2 (fun k=>enc2 (bs.getD k default)),.int .i64 mn,.int .i64 md,.int .i64 cn,.int .i64 cd],.int .i64 low,.int .i64 high],⟨⟨⟨rfl,rfl⟩,⟨rfl,rfl⟩,⟨id,rfl,rfl,rfl,hg⟩,⟨rfl,rfl⟩,⟨rfl,rfl⟩,⟨rfl,rfl⟩,⟨rfl,rfl⟩,trivial⟩,⟨rfl,rfl⟩,⟨rfl,rfl⟩,trivial⟩,?_⟩
   dsimp only[v41,Yqw,Yqx,chkLC,hasC,enc2,go_sem,reduceIte,YGU]
   simp only[Yc,YGU,YGW,reduceCtorEq,YGV]
   have self:lsP 2 enc2 bs.length 2 (fun k=>[SV.int IntKind.i64 (bs.getD k default).fst,SV.int IntKind.i64 (bs.getD k default).snd]) bs:=⟨rfl,rfl,fun k _=>Yd _⟩
   refine⟨bs,⟨self,hn⟩,fun hc=>?_,fun hc=>?_⟩
   . rw[askS,if_pos hc]at h;exact Yi h
   . rw[askS,if_neg (by rw[hc];decide)]at h
     have hl:=(Ye6 hc).1
     refine⟨bs,⟨self,hl,hn⟩,bs,fun _=>⟨self,hl,hn⟩,fun hh=>?_,fun hh=>?_⟩
     . rw[if_pos hh]at h;exact Yi h
     . rw[if_neg (by rw[hh];decide)]at h;exact Yi h
 . exact h.1.elim
def expC:Ctr:={ alias:=false,of:=fun l=>match l with
 | [.agg [.int .i64 d,.int .i64 c,.vs _ _ n sz get,.int .i64 mn,.int .i64 md,.int .i64 cn,.int .i64 cd],.int .i64 note]=>
   .ex (List (Int×Int)) fun bs=> .pre (lsP 2 enc2 n sz get bs/\n<=9223372036854775807) (.fin (.tup [.int .i64 (expF bs note).1,.int .i64 (expF bs note).2]) [])
 |_=>noC}
def UK11:Env:={ ct:=fun _=>none,fn:=fun n=>match n with|95=>some v95|_=>none,meth:=fun _ _=>none}
theorem Yk7:UK11.ct 95=none:=rfl
theorem Yk8:UK11.fn 95=some v95:=rfl
theorem YxX:Yl YGY UK11:=by
 refine⟨fun f c h=>?_,fun f vf h=>?_,(fun _ _ _ h=>by cases h),by kernel_rfl,(fun _ h=>by cases h)⟩
 . cases h
 . simp only[UK11]at h
   split at h
   . cases h;exact⟨Tryz.f95,Tryz.func95,YGI,Tryz.f95,Tryz.func95,by kernel_rfl,by kernel_rfl⟩
   . cases h
theorem exp_c:expC.ok YGY 73:=by
 refine Yb Tryz.func73 YGs YxX 500 expC fun args k h=>?_
 simp only[expC]at h
 split at h
 . rename_i d c tt z n sz get mn md cn cd note
   obtain⟨bs,⟨⟨rfl,rfl,hg⟩,hn⟩,h⟩:=h
   refine⟨[.agg [.int .i64 d,.int .i64 c,.vs tt z bs.length 2 (fun k=>enc2 (bs.getD k default)),.int .i64 mn,.int .i64 md,.int .i64 cn,.int .i64 cd],.int .i64 note],⟨⟨⟨rfl,rfl⟩,⟨rfl,rfl⟩,⟨id,rfl,rfl,rfl,hg⟩,⟨rfl,rfl⟩,⟨rfl,rfl⟩,⟨rfl,rfl⟩,⟨rfl,rfl⟩,trivial⟩,⟨rfl,rfl⟩,trivial⟩,?_⟩
   dsimp only[v73,Yk7,Yk8,v95,enc2,go_sem,reduceIte,YGU]
   simp only[Yc,YGU,YGW,reduceCtorEq,YGV]
   obtain⟨R,hR⟩:∃R,R=expF bs note:=⟨_,rfl⟩
   rw[<-hR]at h
   refine Loop.keep [1,2,0,0,0,0,4,0] (Exn×Nat) (fun s=>[(15,.int .i64 s.2)]) (fun s=>[(1,.box [.int .i64 s.1.n]),(2,.box [.int .i64 s.1.d]),(3,.box [.int .i64 s.1.f]),(4,.box [.int .i64 s.1.h])]) [] (fun s=>s.2<=bs.length/\R=expL note (bs.drop s.2) s.1) (fun s=>bs.length-s.2) ?_ ?_
   . refine⟨(⟨0,0,0,1⟩,0),⟨by simp,hR⟩,?_⟩
     dsimp only[go_sem,reduceIte,YGU]
     simp only[Ya]
     decide
   . rintro⟨e,i⟩ ⟨hi,hinv⟩
     dsimp only at hi hinv
     dsimp only[Yk7,Yk8,v95,enc2,YG0,go_sem,reduceIte,YGU]
     simp only[Yc,YGU,YGW,reduceCtorEq,YGV]
     refine⟨fun hlt=>⟨⟨by omega,by omega⟩,fun hb=>?_,fun hb=>⟨fun hh=>?_,fun hh=>?_⟩⟩,fun hge=>?_⟩
     . rw[YdL (by omega:i<bs.length),expL,if_pos hb]at hinv
       rw[hinv]at h
       refine⟨fun hh=>?_,fun hh=>?_⟩
       . rw[addE,if_pos hh]at h;exact YnT h
       . rw[addE,if_neg hh]at h;exact YnT h
     . rw[YdL (by omega:i<bs.length),expL,if_neg hb,addE,if_pos hh]at hinv
       refine⟨(_,i+1),⟨by simp only;omega,hinv⟩,by simp only;omega,?_⟩
       rw[YGZ ((i:Int)+1) (by omega)]
       simp only[Ya]
       exact⟨by decide,by decide,by decide,by decide,by decide,rfl⟩
     . rw[YdL (by omega:i<bs.length),expL,if_neg hb,addE,if_neg hh]at hinv
       refine⟨(_,i+1),⟨by simp only;omega,hinv⟩,by simp only;omega,?_⟩
       rw[YGZ ((i:Int)+1) (by omega)]
       simp only[Ya]
       exact⟨by decide,by decide,by decide,by decide,by decide,rfl⟩
     . obtain rfl:i=bs.length:=by omega
       rw[List.drop_length,expL]at hinv
       rw[hinv]at h
       refine⟨fun hh=>?_,fun hh=>?_⟩
       . rw[addE,if_pos hh]at h;exact YnT h
       . rw[addE,if_neg hh]at h;exact YnT h
 . exact h.1.elim
def diaC:Ctr:={ alias:=false,of:=fun l=>match l with
 | [.agg [.int .i64 d,.int .i64 c,.vs _ _ n sz get,.int .i64 mn,.int .i64 md,.int .i64 cn,.int .i64 cd],.int .i64 note]=>
   .ex (List (Int×Int)) fun bs=> .pre (lsP 2 enc2 n sz get bs/\chkL ⟨d,c,bs,mn,md,cn,cd⟩=0/\0<=note/\note<=139) (.fin (.agg (enc2 (diaS ⟨d,c,bs,mn,md,cn,cd⟩ note))) [])
 |_=>noC}
def UK12:Env:={ ct:=fun n=>match n with|73=>some expC|74=>some prodC|_=>none,fn:=fun _=>none,meth:=fun _ _=>none}
theorem Yqy:UK12.ct 73=some expC:=rfl
theorem Yqz:UK12.ct 74=some prodC:=rfl
theorem YxY:Yl YGY UK12:=by
 refine⟨fun f c h=>?_,fun f vf h=>?_,(fun _ _ _ h=>by cases h),by kernel_rfl,(fun _ h=>by cases h)⟩
 . simp only[UK12]at h
   split at h
   . cases h;exact⟨exp_c,Tryz.f73,Tryz.func73,by kernel_rfl,by kernel_rfl⟩
   . cases h;exact⟨Yxe,Tryz.f74,Tryz.func74,by kernel_rfl,by kernel_rfl⟩
   . cases h
 . cases h
theorem YDf:diaC.ok YGY 43:=by
 refine Yb Tryz.func43 YGc YxY 500 diaC fun args k h=>?_
 simp only[diaC]at h
 split at h
 . rename_i d c tt z n sz get mn md cn cd note
   obtain⟨bs,⟨⟨rfl,rfl,hg⟩,hs,hnote⟩,h⟩:=h
   refine⟨[.agg [.int .i64 d,.int .i64 c,.vs tt z bs.length 2 (fun k=>enc2 (bs.getD k default)),.int .i64 mn,.int .i64 md,.int .i64 cn,.int .i64 cd],.int .i64 note],⟨⟨⟨rfl,rfl⟩,⟨rfl,rfl⟩,⟨id,rfl,rfl,rfl,hg⟩,⟨rfl,rfl⟩,⟨rfl,rfl⟩,⟨rfl,rfl⟩,⟨rfl,rfl⟩,trivial⟩,⟨rfl,rfl⟩,trivial⟩,?_⟩
   dsimp only[v43,Yqy,Yqz,expC,prodC,enc2,go_sem,reduceIte,YGU]
   simp only[Yc,YGU,YGW,reduceCtorEq,YGV]
   have hr:=Ync hs
   simp only at hr
   obtain⟨_,x1,x2,x3,x4⟩:=Yj2 hs hnote
   simp only at x1 x2 x3 x4
   have k1:note*(expF bs note).2<=139*262144:=YaG hnote.2 x4 hnote.1 (by decide)
   have e1:IntKind.i64.wrap (d-c)=d-c:=YGZ _ (by omega)
   have e2:IntKind.i64.wrap (0-(expF bs note).1)= -(expF bs note).1:=by rw[YGZ _ (by omega)];omega
   have hro:0<=(YbQ (d-c) (expF bs note).1 (expF bs note).2).1/\(YbQ (d-c) (expF bs note).1 (expF bs note).2).1<=2000000:=by
     obtain⟨K,g1,g2,_⟩:=YgY (m:=(d-c).toNat) (num:=(expF bs note).1.toNat) (den:=(expF bs note).2.toNat) (by omega) (by omega) (by omega)
     rw[YHs (by omega),YHs (by omega),YHs (by omega)]at g2
     rw[g2];omega
   refine⟨bs,⟨⟨rfl,rfl,fun k _=>Yd _⟩,?_⟩,by decide,by decide,by decide,[(2, -(expF bs note).1)],?_,by decide,by decide,by decide,?_⟩
   . have:=(Ye6 hs).2.1
     simp only at this;omega
   . rw[e2]
     refine⟨rfl,rfl,fun k hk=>?_⟩
     obtain rfl:k=0:=by omega
     exact Yd _
   . rw[e1]
     have e3:(Yb9 (d-c) [(2, -(expF bs note).1)] (expF bs note).2).1=(YbQ (d-c) (expF bs note).1 (expF bs note).2).1:=rfl
     have e4:(Yb9 (d-c) [(2, -(expF bs note).1)] (expF bs note).2).2.1=(YbQ (d-c) (expF bs note).1 (expF bs note).2).2:=rfl
     rw[e3,e4]
     unfold diaS at h
     simp only at h
     generalize YbQ (d-c) (expF bs note).1 (expF bs note).2=r at*
     have e5:IntKind.i64.wrap (c+r.1)=c+r.1:=YGZ _ (by omega)
     have e6:IntKind.i64.wrap (c+r.1+1)=c+r.1+1:=YGZ _ (by omega)
     rw[e5,e6]
     refine⟨fun hh=>?_,fun hh=>?_⟩
     . rw[if_neg (by rw[hh];decide)]at h
       exact YfV h
     . rw[if_pos hh]at h
       exact YfV h
 . exact h.1.elim
def diaFC:Ctr:={ alias:=false,of:=fun l=>match l with
 | [.agg [.int .i64 d,.int .i64 c,.vs _ _ n sz get,.int .i64 mn,.int .i64 md,.int .i64 cn,.int .i64 cd],.int .i64 note]=>
   .ex (List (Int×Int)) fun bs=> .pre (lsP 2 enc2 n sz get bs/\n<=9223372036854775807) (.fin (.tup [.agg (enc2 (diaF ⟨d,c,bs,mn,md,cn,cd⟩ note).1),.int .i64 (diaF ⟨d,c,bs,mn,md,cn,cd⟩ note).2]) [])
 |_=> .pre False (.fin (.tup [.agg [.int .i64 0,.int .i64 0],.int .i64 0]) [])}
def UK13:Env:={ ct:=fun n=>match n with|41=>some askC|43=>some diaC|_=>none,fn:=fun _=>none,meth:=fun _ _=>none}
theorem YqA:UK13.ct 41=some askC:=rfl
theorem YqB:UK13.ct 43=some diaC:=rfl
theorem YxZ:Yl YGY UK13:=by
 refine⟨fun f c h=>?_,fun f vf h=>?_,(fun _ _ _ h=>by cases h),by kernel_rfl,(fun _ h=>by cases h)⟩
 . simp only[UK13]at h
   split at h
   . cases h;exact⟨YCN,Tryz.f41,Tryz.func41,by kernel_rfl,by kernel_rfl⟩
   . cases h;exact⟨YDf,Tryz.f43,Tryz.func43,by kernel_rfl,by kernel_rfl⟩
   . cases h
 . cases h
theorem YDe:diaFC.ok YGY 28:=by
 refine Yb Tryz.func28 YFY YxZ 300 diaFC fun args k h=>?_
 simp only[diaFC]at h
 split at h
 . rename_i d c tt z n sz get mn md cn cd note
   obtain⟨bs,⟨⟨rfl,rfl,hg⟩,hn⟩,h⟩:=h
   refine⟨[.agg [.int .i64 d,.int .i64 c,.vs tt z bs.length 2 (fun k=>enc2 (bs.getD k default)),.int .i64 mn,.int .i64 md,.int .i64 cn,.int .i64 cd],.int .i64 note],⟨⟨⟨rfl,rfl⟩,⟨rfl,rfl⟩,⟨id,rfl,rfl,rfl,hg⟩,⟨rfl,rfl⟩,⟨rfl,rfl⟩,⟨rfl,rfl⟩,⟨rfl,rfl⟩,trivial⟩,⟨rfl,rfl⟩,trivial⟩,?_⟩
   dsimp only[v28,YqA,YqB,askC,diaC,enc2,go_sem,reduceIte,YGU]
   simp only[Yc,YGU,YGW,reduceCtorEq,YGV]
   have self:lsP 2 enc2 bs.length 2 (fun k=>[SV.int IntKind.i64 (bs.getD k default).fst,SV.int IntKind.i64 (bs.getD k default).snd]) bs:=⟨rfl,rfl,fun k _=>Yd _⟩
   refine⟨bs,⟨self,hn⟩,fun hc=>?_,fun hc=>?_⟩
   . rw[diaF,if_pos hc]at h;exact YdE h
   . rw[diaF,if_neg (by rw[hc];decide)]at h
     obtain⟨a1,a2,_⟩:=YuX hc
     have:=YdO a1
     refine⟨bs,⟨self,a1,by omega,a2.2⟩,?_⟩
     (try simp only[Yc,YGU,YGW,reduceCtorEq,YGV])
     exact YdE h
 . exact h.1.elim
end Go.Proofs.YtfjodiojchknmaaGreatDoor
