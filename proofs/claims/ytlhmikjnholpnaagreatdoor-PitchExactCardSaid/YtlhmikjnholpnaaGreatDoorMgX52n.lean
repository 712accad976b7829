/- The reference's test for 1, walked. -/
import Derived.Test.YtlhmikjnholpnaaGreatDoorMgX52m
import Derived.Test.YtlhmikjnholpnaaGreatDoorMgX52e
import Derived.Test.YtlhmikjnholpnaaGreatDoorMgX52f
import Derived.Test.YtlhmikjnholpnaaGreatDoorMgX52d
import Derived.Test.YtlhmikjnholpnaaGreatDoorMgX52k
import Derived.Test.YtlhmikjnholpnaaGreatDoorBL
import Derived.Test.YtlhmikjnholpnaaGreatDoorWP0
import Derived.LaidMore
import Derived.OpenShut
import Derived.Stop.Joined
import Derived.Deep.Slices
import Derived.Test.YtlhmikjnholpnaaGreatDoorRows
import Derived.Test.YtlhmikjnholpnaaGreatDoorCards
import Derived.Test.YtlhmikjnholpnaaGreatDoorTie
import Derived.ProofKit
import Derived.SevenTiedAt
open Array renaming getElem?_eq_some_iff->Xh,length_toList->V4,replicate->WS
open Bool renaming and_eq_true->YS,or_eq_false_iff->JH,or_eq_true->Qt
open Int renaming add_zero->Z7,eq_ofNat_of_zero_le->Vl,mul_comm->KA,mul_le_mul_of_nonneg_right->Xq,mul_neg->KC,natCast_add->WT,natCast_mul->JV,neg_neg->JW,tdiv_eq_ediv_of_nonneg->ZG,tmod_eq_emod_of_nonneg->UF,toNat->Xi,toNat_natCast->Yh
open Go.IntWalk renaming i64_in->Yg,up_tdiv->Wt,up_tmod->Vm
open List renaming all_eq_true->Vn,append_nil->Z9,cons_append->ZH,getD_eq_getElem?_getD->Kp,getElem?_append_left->XE,getElem?_append_right->WU,getElem?_eq_getElem->Wu,getElem?_eq_some_iff->UG,length_append->JI,length_cons->Xr,length_map->Vq,length_take->J8,mem_append->KE,mem_cons->K4,mem_cons_of_mem->KH,mem_cons_self->KF,mem_map->QO,mem_singleton->JD,nil_append->Vr,take_length->QB
open Nat renaming add_assoc->XV,add_mul->YN,add_zero->Kw,div_add_mod->KO,div_eq_of_lt->Qu,div_le_self->QP,eq_zero_or_pos->KU,gcd->YG,le_mul_of_pos_left->V6,le_of_ble_eq_true->KI,le_of_eq->YB,le_of_lt->JN,le_of_mul_le_mul_right->Kr,le_refl->Yr,le_trans->Yj,lt_irrefl->XX,lt_of_le_of_lt->Jn,lt_of_lt_of_le->Qf,lt_or_ge->YV,mul_assoc->Yx,mul_comm->Yk,mul_le_mul->YP,mul_le_mul_left->Yz,mul_le_mul_right->Yu,mul_left_comm->Jd,mul_lt_mul_of_pos_right->ZL,mul_one->Kb,mul_pos->Y3,mul_pow->Yt,mul_right_comm->WW,mul_zero->Wf,not_lt_zero->QC,one_mul->Kc,pow_add->Yo,pow_le_pow_iff_left->XY,pow_le_pow_left->YM,pow_le_pow_right->Kl,pow_mul->Yl,pow_one->Wg,pow_pos->YD,pow_succ->YF,pow_zero->JO,reduceAdd->Ya,reduceEqDiff->Yc,reduceLeDiff->Ye,two_pow_pos->Qv,zero_add->KL,zero_le->JP,zero_mul->JX
open Or renaming inl->Jo,inr->KV
open Go.Proofs.Tryz renaming prog->Yb
set_option linter.all false
namespace Go.Proofs.YtlhmikjnholpnaaGreatDoor.Q
open Go Go.Vx
set_option maxRecDepth 100000
set_option maxHeartbeats 4000000
def Yeb:VF:={ ntmps:=49,res:=[.tmp 2],body:=
 (ZR [u1 2 .mov [.cn (.bool false)]]
 (ZR [Zm 8 0,
 Zc 9 153 8,
 Zm 3 9]
 (.seq (ZR [Zi 4 0]
 (.block 0 (.loop (.seq (ZR [Zm 10 4,
 Zm 11 3,
 Zl 12 11,
 Zr 13 .lss 10 12]
 (ZC 13 .skip
  (.exit 0)))
 (.seq (.block 1 (ZR [Zi 5 0]
 (.seq (ZR [Zi 6 0]
 (.block 2 (.loop (.seq (ZR [Zm 16 6,
 Zm 17 0,
 Zl 18 17,
 Zr 19 .lss 16 18]
 (ZC 19 .skip
  (.exit 2)))
 (.seq (.block 3 (ZR [Zm 22 0,
 Zm 23 6,
 Zx 24 2 22 23,
 Za 25 0 24,
 Zf 26 1 25,
 Zm 7 26]
 (.block 4 (.loop (.seq (ZR [Zm 27 7,
 Zm 28 3,
 Zm 29 4,
 Zx 30 1 28 29,
 Zf 31 1 30,
 u1 32 .rem [.tm 27,.tm 31],
 Zq 33 .eql 32 0]
 (ZC 33 .skip
  (.exit 4)))
 (.seq (.block 5 (.region [Zm 40 5,
 Zm 41 0,
 Zm 42 6,
 Zx 43 2 41 42,
 Za 44 1 43,
 Zf 45 1 44,
 Zo 46 .add 40 45,
 Zm 5 46]))
 (.region [Zm 34 7,
 Zm 35 3,
 Zm 36 4,
 Zx 37 1 35 36,
 Zf 38 1 37,
 u1 39 .quo [.tm 34,.tm 38],
 Zm 7 39])))))))
 (.region [Zm 20 6,
 Zp 21 20 1,
 Zm 6 21]))))))
 (ZR [Zm 47 5,
 Zq 48 .neq 47 0]
 (ZC 48 (ZR [u1 2 .mov [.cn (.bool false)]]
 .ret)
  .skip)))))
 (.region [Zm 14 4,
 Zp 15 14 1,
 Zm 4 15]))))))
 (ZR [u1 2 .mov [.cn (.bool true)]]
 .ret))))}
theorem Yr6:Yn Yb Tryz.f131=some Yeb:=by kernel_rfl
def oneC:Ctr:={ alias:=false,of:=fun l=>match l with
 | [.vs _ _ n sz get]=> .ex (List (Int×Int)) fun l=> .pre (lsP 2 YA n sz get l/\(∀x,x∈l->okU x)/\n<=20) (.fin (.bool (decide (upP l=dnP l))) [])
 |_=> .pre False (.fin (.bool false) [])}
def Q6:Env:={ ct:=fun n=>match n with|153=>some baseC|_=>none,fn:=fun _=>none,meth:=fun _ _=>none}
theorem Yfo:Q6.ct 153=some baseC:=rfl
theorem Yfp:YE Yb Q6:=by
 refine⟨fun f c h=>?_,fun f vf h=>?_,(fun _ _ _ h=>by cases h),by kernel_rfl,(fun _ h=>by cases h)⟩
 ·simp only[Q6]at h
  split at h
  ·cases h;exact⟨YoD,_,Tryz.func153,rfl,rfl⟩
  ·cases h
 ·cases h
theorem YoI:oneC.ok Yb 131:=by
 refine Yv Tryz.func131 Yr6 Yfp 500 oneC fun args k h=>?_
 simp only[oneC]at h
 split at h
 ·rename_i tt z n sz get
  obtain⟨l,⟨⟨rfl,rfl,hg⟩,hl,hn⟩,h⟩:=h
  refine⟨[.vs tt z l.length 2 (fun k=>YA (l.getD k default))],⟨⟨id,rfl,rfl,rfl,hg⟩,trivial⟩,?_⟩
  (try dsimp only[Yeb,Yfo,baseC,YA,go_sem,reduceIte,Ya])
  (try simp only[Yd,Ya,Ye,reduceCtorEq,Yc])
  refine⟨l,⟨⟨rfl,rfl,fun k hk=>Y1 _⟩,hl,hn⟩,fun B hB y=>?_⟩
  obtain⟨hok,hcop⟩:=hB
  have hbl:=hok.len
  have hone:=YnE hl hn hok hcop
  rw[<-hone]at h
  refine Loop.keep [0,2] Nat (fun i=>[(4,.int .i64 i)]) (fun _=>[]) [] (fun i=>i<=B.length/\((B.take i).all fun b=>decide (XT l b=0))=true) (fun i=>B.length-i) ?_ ?_
  ·refine⟨0,⟨by omega,rfl⟩,?_⟩
   (try dsimp only[go_sem,reduceIte,Ya])
   simp only[Yf]
   rfl
  ·rintro i ⟨hi,hall⟩
   (try dsimp only[JJ,YA,Yh,go_sem,reduceIte,Ya])
   (try simp only[Yd,Ya,Ye,reduceCtorEq,Yc])
   refine⟨fun hlt=>?_,fun hge=>?_⟩
   ·have hb:2<=B.getD i 0/\B.getD i 0<=1000000000001:=hok.rng _ (KK (l:=B) (i:=i) (by omega))
    have hsucc:((B.take (i+1)).all fun b=>decide (XT l b=0))=decide (XT l (B.getD i 0)=0):=by
     rw[Ydv (by omega),hall,Bool.true_and];rfl
    have hmemb:B.getD i 0∈B:=KK (l:=B) (i:=i) (by omega)
    refine Loop.keep [0,2,0] (Nat×Int) (fun s=>[(5,.int .i64 s.2),(6,.int .i64 s.1)]) (fun _=>[]) [] (fun s=>s.1<=l.length/\s.2=(l.take s.1).foldl (fun s x=>QS 64 (B.getD i 0:Nat) x.1 x.2 s) 0) (fun s=>l.length-s.1) ?_ ?_
    ·refine⟨(0,0),⟨by simp only;omega,rfl⟩,?_⟩
     (try dsimp only[go_sem,reduceIte,Ya])
     simp only[Yf]
     rfl
    ·rintro⟨t,S⟩ ⟨ht,hS⟩
     dsimp only at ht hS
     (try dsimp only[JJ,YA,Yh,go_sem,reduceIte,Ya])
     (try simp only[Yd,Ya,Ye,reduceCtorEq,Yc])
     refine⟨fun hlt2=>⟨⟨by omega,by omega⟩,?_⟩,fun hge2=>?_⟩
     ·have hx:=hl _ (KK (by omega:t<l.length))
      have hst:(l.take (t+1)).foldl (fun s x=>QS 64 (B.getD i 0:Nat) x.1 x.2 s) 0=QS 64 (B.getD i 0:Nat) (l.getD t default).1 (l.getD t default).2 S:=by
       rw[W5 (by omega),<-hS]
      obtain⟨q0,q1,q2,q3⟩:=hx
      obtain⟨R,hR⟩:∃R,R=QS 64 (B.getD i 0:Nat) (l.getD t default).1 (l.getD t default).2 S:=⟨_,rfl⟩
      rw[<-hR]at hst
      refine Loop.keep [0,2,0,1] (Nat×Int×Int) (fun s=>[(5,.int .i64 s.2.2),(7,.int .i64 s.2.1)]) (fun _=>[]) [] (fun s=>R=QS s.1 (B.getD i 0:Nat) s.2.1 (l.getD t default).2 s.2.2/\1<=s.2.1/\s.2.1<2^s.1/\s.2.1<=1000000000001) (fun s=>s.1) ?_ ?_
      ·refine⟨(64,(l.getD t default).1,S),⟨hR,q0,by simp only;omega,q1⟩,?_⟩
       (try dsimp only[go_sem,reduceIte,Ya])
       simp only[Yf]
      ·rintro⟨f,n,S'⟩ ⟨hf,n0,n1,n2⟩
       dsimp only at hf n0 n1 n2
       (try dsimp only[JJ,YA,Yh,go_sem,reduceIte,Ya])
       (try simp only[Yd,Ya,Ye,reduceCtorEq,Yc])
       generalize B.getD i 0=b at*
       generalize l.getD t default=x at*
       obtain⟨m,rfl⟩:=Vl (by omega:0<=n)
       obtain⟨g,rfl⟩:∃g,f=g+1:=by
        cases f with
        |zero=>simp at n1;omega
        |succ g=>exact⟨g,rfl⟩
       rw[QS]at hf
       refine⟨⟨by omega,by omega⟩,by omega,fun hc=>?_,fun hc=>?_⟩
       ·rw[if_pos hc]at hf
        have e1:(m:Int).tmod (b:Int)=((m%b:Nat):Int):=Vm rfl rfl
        have e2:(m:Int).tdiv (b:Int)=((m/b:Nat):Int):=Wt rfl rfl
        rw[e1]at hc
        have hdm:=KO m b
        rw[show m%b=0 by omega,Kw]at hdm
        have hq1:1<=m/b:=Nat.pos_of_ne_zero fun hh=>by rw[hh,Wf]at hdm;omega
        have hq2:2*(m/b)<=m:=by
         have:2*(m/b)<=b*(m/b):=Yu _ hb.1
         omega
        rw[e2]at hf⊢
        generalize m/b=q at hq1 hq2 hf⊢
        have eq:IntKind.i64.wrap (q:Int)=(q:Int):=Yg _ (by omega)
        rw[eq]at hf⊢
        have n1':m<2^g*2:=by rw[<-YF];exact_mod_cast n1
        refine⟨⟨by omega,by omega⟩,⟨by omega,by omega⟩,by omega,(g,q,IntKind.i64.wrap (S'+x.2)),⟨hf,by simp only;omega,?_,by simp only;omega⟩,by simp only;omega,?_⟩
        ·show(q:Int)<2^g
         have:q<2^g:=by omega
         exact_mod_cast this
        ·simp only[Yf]
       ·rw[if_neg hc]at hf
        refine⟨(t+1,S'),⟨by simp only;omega,by rw[hst,hf]⟩,by simp only;omega,?_⟩
        rw[Yg ((t:Int)+1) (by omega)]
        simp only[Yf]
        simp
     ·obtain rfl:t=l.length:=by omega
      rw[QB]at hS
      have hS:S=XT l (B.getD i 0):=hS
      refine⟨fun hc=>?_,fun hc=>⟨i+1,⟨by omega,?_⟩,by omega,?_⟩⟩
      ·have:(B.all fun b=>decide (XT l b=0))=false:=by
        rw[List.all_eq_false]
        exact⟨B.getD i 0,hmemb,by rw[<-hS];simpa using hc⟩
       rw[this]at h
       exact Qi h
      ·rw[hsucc,<-hS];exact decide_eq_true hc
      ·rw[Yg ((i:Int)+1) (by omega)]
       simp only[Yf]
       simp
   ·obtain rfl:i=B.length:=by omega
    rw[QB]at hall
    rw[hall]at h
    exact Qi h
 ·exact h.1.elim
theorem YaA{n p:Nat}(h1:1<=n)(h2:n<4611686018427387904):2^(lgR n p).1<=n^(2^p)/\n^(2^p)<=2^(lgR n p).2:=by
 unfold lgR
 by_cases c:n=2^lgK n
 ·rw[if_pos c]
  have e:n^(2^p)=2^(lgK n*2^p):=by rw[Yl,<-c]
  rw[e];exact⟨Yr _,Yr _⟩
 ·rw[if_neg c]
  have hk:lgK n<62:=WE (by decide) h2
  rcases YV (2*p+60) (lgK n)with hh|hh
  ·have hk1:=BZ h1
   have e:2*p+60-lgK n=0:=by omega
   obtain rfl:p=0:=by omega
   simp only[gl]
   rw[JO,Wg]
   exact⟨hk1.1,JN hk1.2⟩
  ·obtain⟨m1,m2,m3⟩:=Gg (D:=2*p+60) h1 hh
   exact BE _ false (YD (by decide)) p _ _ _ n (YB m3) (YB m3.symm) m1 (JN m2)
theorem LX{n p:Nat}(h1:1<=n)(h2:n<4611686018427387904):(lgR n p).1<=(lgR n p).2/\(lgR n p).2<=64*2^p:=by
 have hs:=YaA (p:=p) h1 h2
 have hk:lgK n<62:=WE (by decide) h2
 refine⟨(Nat.pow_le_pow_iff_right (by decide)).1 (Yj hs.1 hs.2),?_⟩
 unfold lgR
 split
 ·exact Yu _ (by omega)
 ·exact Yj (U5 _ false p _ _ (lgK n)).2 (Yu _ (by omega))
theorem Yaz{n p r:Nat}(h1:1<=n)(h2:n<4611686018427387904)(hp:p+2<=r):(lN n p).1*2^(r-p)<=(lgR n r).1/\(lgR n r).2<=(lN n p).2*2^(r-p):=by
 have hk:lgK n<62:=WE (by decide) h2
 unfold lN lgR
 by_cases c:JZ (n:Int)=true
 ·rw[if_pos c,if_pos (O3 h1 h2 c)]
  have e:lgK n*2^p*2^(r-p)=lgK n*2^r:=by
   rw[Yx,<-Yo];congr 2;omega
  simp only
  rw[e];exact⟨Yr _,Yr _⟩
 ·have c':¬n=2^lgK n:=fun hh=>c (by rw[hh];exact O4 _ hk)
  rw[if_neg c,if_neg c']
  obtain⟨d,rfl⟩:∃d,r=p+2+d:=⟨r-p-2,by omega⟩
  have eM:(2:Nat)^(2*(p+2+d)+60)=2^(2*p+64)*2^(2*d):=by
   rw[<-Yo];congr 1;omega
  have eA:n*2^(2*(p+2+d)+60-lgK n)=2^(2*d)*(n*2^(2*p+64-lgK n)):=by
   rw[show 2*(p+2+d)+60-lgK n=2*d+(2*p+64-lgK n)by omega,Yo,Jd]
  have:=Ls (2^(2*p+64)) (2^(2*d)) false (YD (by decide)) (YD (by decide)) (2+d) p (n*2^(2*p+64-lgK n)) (n*2^(2*p+64-lgK n)) (lgK n) _ _ (YB eA.symm) (Yr _) (YB eA)
  rw[<-eM,show p+(2+d)=p+2+d by omega]at this
  rw[show p+2+d-p=2+d by omega]
  exact this
theorem FP(g:Nat->Nat):∀a b,upS g (a++b)=upS g a+upS g b/\dnS g (a++b)=dnS g a+dnS g b
 | [],b=>by simp [upS,dnS]
 |x::a,b=>by
  obtain⟨h1,h2⟩:=FP g a b
  rw[ZH,upS,dnS,upS,dnS,h1,h2]
  exact⟨(XV ..).symm,(XV ..).symm⟩
theorem GG(g:Nat->Nat)(c:Nat):∀l,upS (fun n=>g n*c) l=upS g l*c/\dnS (fun n=>g n*c) l=dnS g l*c
 | []=>by simp [upS,dnS]
 |x::l=>by
  obtain⟨h1,h2⟩:=GG g c l
  rw[upS,dnS,upS,dnS,h1,h2,YN,YN]
  constructor
  ·split
   ·rw[JX]
   ·rw[WW]
  ·split
   ·rw[WW]
   ·rw[JX]
def lo(p n:Nat):Nat:=(lgR n p).1
def hi(p n:Nat):Nat:=(lgR n p).2
def S4(l:List (Int×Int))(p:Nat):Prop:=upS (lo p) l<=dnS (hi p) l/\dnS (lo p) l<=upS (hi p) l
theorem Yrw{l:List (Int×Int)}{p r:Nat}(hl:∀x,x∈l->okU x)(hp:p+2<=r)(h:S4 l r):Und l p:=by
 obtain⟨h1,h2⟩:=h
 obtain⟨a1,a2⟩:=GF (g:=fun n=>(lN n p).1*2^(r-p)) (h:=lo r) (fun n k1 k2=>(Yaz k1 k2 hp).1) l hl
 obtain⟨b1,b2⟩:=GF (g:=hi r) (h:=fun n=>(lN n p).2*2^(r-p)) (fun n k1 k2=>(Yaz k1 k2 hp).2) l hl
 obtain⟨c1,c2⟩:=GG (fun n=>(lN n p).1) (2^(r-p)) l
 obtain⟨d1,d2⟩:=GG (fun n=>(lN n p).2) (2^(r-p)) l
 rw[c1]at a1;rw[c2]at a2;rw[d1]at b1;rw[d2]at b2
 exact⟨Kr (Yj a1 (Yj h1 b2)) (Ja _),Kr (Yj a2 (Yj h2 b1)) (Ja _)⟩
def WM(l:List (Int×Int))(p:Nat):Int:=if dnS (hi p) l<upS (lo p) l then 1 else if upS (hi p) l<dnS (lo p) l then -1 else 0
theorem Ybs{l:List (Int×Int)}{p:Nat}(hl:∀x,x∈l->okU x):(WM l p=1->dnP l<upP l)/\(WM l p= -1->upP l<dnP l)/\(WM l p=0->S4 l p)/\(WM l p=1\/WM l p= -1\/WM l p=0):=by
 obtain⟨⟨a1,a2⟩,b1,b2⟩:=Vj (K:=2^p) (g:=lo p) (h:=hi p) (fun n k1 k2=>YaA k1 k2) l hl
 unfold WM
 by_cases c1:dnS (hi p) l<upS (lo p) l
 ·rw[if_pos c1]
  exact⟨fun _=>W8 b2 a1 c1,fun h=>absurd h (by decide),fun h=>absurd h (by decide),Jo rfl⟩
 ·rw[if_neg c1]
  by_cases c2:upS (hi p) l<dnS (lo p) l
  ·rw[if_pos c2]
   exact⟨fun h=>absurd h (by decide),fun _=>W8 a2 b1 c2,fun h=>absurd h (by decide),KV (Jo rfl)⟩
  ·rw[if_neg c2]
   exact⟨fun h=>absurd h (by decide),fun h=>absurd h (by decide),fun _=>⟨by omega,by omega⟩,KV (KV rfl)⟩
theorem UH{l:List (Int×Int)}{p:Nat}{g:Nat->Nat}(hg:∀n,1<=n->n<4611686018427387904->g n<=64*2^p)(hl:∀x,x∈l->okU x)(hn:l.length<=20)(hp:p<=3840):nl (upS g l)<=300/\nl (dnS g l)<=300:=by
 obtain⟨h1,h2⟩:=N2 hg l hl
 have hb:l.length*(64*2^p*3000000000000000)<2^(p+62):=by
  rw[Yo]
  have h3:=Yu (64*2^p*3000000000000000) hn
  have:=Ja p
  rw[show(2:Nat)^62=4611686018427387904 from rfl]
  omega
 exact⟨VP (Jn h1 hb) (by omega),VP (Jn h2 hb) (by omega)⟩
theorem MU{p n:Nat}(h1:1<=n)(h2:n<4611686018427387904):lo p n<=64*2^p:=Yj (LX h1 h2).1 (LX h1 h2).2
theorem MM{p n:Nat}(h1:1<=n)(h2:n<4611686018427387904):hi p n<=64*2^p:=(LX h1 h2).2
def v57:VF:=⟨91,[.cell 4 true 2,.cell 5 true 2],(ZR [u1 4 (.allocArr 2 1 [.nil,.nil]) [],u1 5 (.allocArr 2 1 [.nil,.nil]) []] (ZR [u1 6 (.allocArr 2 1 [.nil,.nil]) [],u1 7 (.allocArr 2 1 [.nil,.nil]) []] (.seq (ZR [Zi 8 0] (.block 0 (.loop (.seq (ZR [Zm 12 8,Zm 13 0,Zl 14 13,Zr 15 .lss 12 14] (ZC 15 .skip (.exit 0))) (.seq (.block 1 (.seq (ZR [Zm 18 0,Zm 19 8,Zx 20 2 18 19,Za 21 0 20,Zf 22 1 21,Zq 23 .eql 22 1,Zm 24 23,Zg 25 24 false 0,Zg 26 24 false 8,u2 27 24 false (.idxAddr 2) [.tm 25,.tm 26],Zj 28 24 false 1 27,Zh 29 24 false 1 28,u2 30 24 false (.cmp .eql) [.tm 29,.cn (.int .i64 0)],u1 31 .or [.tm 24,.tm 30]] (ZC 31 (.exit 1) .skip)) (ZR [Zm 33 0,Zm 34 8,Zx 35 2 33 34,Za 36 0 35,Zf 37 1 36,Zm 38 1,Zd 39 92 37 38,Zm 32 39,Ze 40 0 32,Ze 41 1 32,Zm 9 40,Zm 10 41] (.seq (.draw [] [Zu 42 0,Zu 43 8,ZX 44 2 42 43,Zy 45 1 44,Zv 46 1 45,Zu 47 0,Zu 48 8,ZX 49 2 47 48,Zy 50 1 49,Zv 51 1 50,w1 52 .neg [.tm 51],w1 53 .max [.tm 46,.tm 52],w1 54 (.call 93) [.tm 53],Zu 11 54]) (ZR [Zm 55 0,Zm 56 8,Zx 57 2 55 56,Za 58 1 57,Zf 59 1 58,Zq 60 .gtr 59 0] (ZC 60 (.seq (.draw [] [w1 61 (.idxArr 2 1) [.tm 6,.cn (.int .i64 0)],Zv 62 1 61,Zu 63 11,Zu 64 9,Zz 65 94 63 64,Zz 66 86 62 65,w1 67 (.idxArr 2 1) [.tm 6,.cn (.int .i64 0)],ZS 1 67 66]) (.draw [] [w1 68 (.idxArr 2 1) [.tm 6,.cn (.int .i64 1)],Zv 69 1 68,Zu 70 11,Zu 71 10,Zz 72 94 70 71,Zz 73 86 69 72,w1 74 (.idxArr 2 1) [.tm 6,.cn (.int .i64 1)],ZS 1 74 73])) (.seq (.draw [] [w1 75 (.idxArr 2 1) [.tm 7,.cn (.int .i64 0)],Zv 76 1 75,Zu 77 11,Zu 78 9,Zz 79 94 77 78,Zz 80 86 76 79,w1 81 (.idxArr 2 1) [.tm 7,.cn (.int .i64 0)],ZS 1 81 80]) (.draw [] [w1 82 (.idxArr 2 1) [.tm 7,.cn (.int .i64 1)],Zv 83 1 82,Zu 84 11,Zu 85 10,Zz 86 94 84 85,Zz 87 86 83 86,w1 88 (.idxArr 2 1) [.tm 7,.cn (.int .i64 1)],ZS 1 88 87])))))))) (.region [Zm 16 8,Zp 17 16 1,Zm 8 17])))))) (.seq (.draw [] [Zw 89 2 6,Zw 90 2 7,⟨Zs 2 4 89,[.tm 7]⟩,ZS 2 5 90]) .ret))))⟩
theorem Ys8:Yn Yb Tryz.f57=some v57:=by kernel_rfl
def v58:VF:=⟨17,[.tmp 4],(ZR [u1 2 .box [.tm 0],u1 3 .box [.tm 1],Zi 4 0] (.seq (ZR [u1 5 (.idxArr 2 1) [.tm 2,.cn (.int .i64 0)],Zf 6 1 5,u1 7 (.idxArr 2 1) [.tm 3,.cn (.int .i64 1)],Zf 8 1 7,Zd 9 95 6 8,Zq 10 .gtr 9 0] (ZC 10 (ZR [Zi 4 1] .ret) .skip)) (.seq (ZR [u1 11 (.idxArr 2 1) [.tm 2,.cn (.int .i64 1)],Zf 12 1 11,u1 13 (.idxArr 2 1) [.tm 3,.cn (.int .i64 0)],Zf 14 1 13,Zd 15 95 12 14,Zq 16 .lss 15 0] (ZC 16 (ZR [Zi 4 (-1)] .ret) .skip)) (ZR [Zi 4 0] .ret))))⟩
theorem Ys9:Yn Yb Tryz.f58=some v58:=by kernel_rfl
def sumsC:Ctr:={ alias:=false,of:=fun l=>match l with
 | [.vs _ _ n sz get,.int .i64 p]=> .ex (List (Int×Int)) fun l=> .ex Nat fun q=> .pre (lsP 2 YA n sz get l/\(∀x,x∈l->okU x)/\n<=20/\p=q/\q<=3840/\q%15=0)
     (.all Bool fun y1=> .all Bool fun y2=> .all Bool fun y3=> .all Bool fun y4=> .fin (.tup [.agg [Ym y1 (upS (lo q) l),Ym y2 (upS (hi q) l)],.agg [Ym y3 (dnS (lo q) l),Ym y4 (dnS (hi q) l)]]) [])
 |_=>noC}
def orderC:Ctr:={ alias:=false,of:=fun l=>match l with
 | [.agg [.vs _ _ n0 s0 g0,.vs _ _ n1 s1 g1],.agg [.vs _ _ n2 s2 g2,.vs _ _ n3 s3 g3]]=> .ex Nat fun a=> .ex Nat fun b=> .ex Nat fun c=> .ex Nat fun d=> .pre ((K6 a n0 s0 g0/\n0=nl a)/\(K6 b n1 s1 g1/\n1=nl b)/\(K6 c n2 s2 g2/\n2=nl c)/\(K6 d n3 s3 g3/\n3=nl d)) (.fin (.int .i64 (if d<a then 1 else if b<c then -1 else 0)) [])
 |_=>noC}
def Q7:Env:={ ct:=fun n=>match n with|92=>some logC|93=>some limbsC|94=>some mulC|86=>some addC|95=>some cmpC|_=>none,fn:=fun _=>none,meth:=fun _ _=>none}
theorem CE:Q7.ct 92=some logC:=rfl
theorem CF:Q7.ct 93=some limbsC:=rfl
theorem CG:Q7.ct 94=some mulC:=rfl
theorem CD:Q7.ct 86=some addC:=rfl
theorem Yfq:Q7.ct 95=some cmpC:=rfl
theorem R8:YE Yb Q7:=by
 refine⟨fun f c h=>?_,fun f vf h=>?_,(fun _ _ _ h=>by cases h),by kernel_rfl,(fun _ h=>by cases h)⟩
 ·simp only[Q7]at h
  split at h
  ·cases h;exact⟨YoG,_,Tryz.func92,rfl,rfl⟩
  ·cases h;exact⟨AA,_,Tryz.func93,rfl,rfl⟩
  ·cases h;exact⟨Yb8,_,Tryz.func94,rfl,rfl⟩
  ·cases h;exact⟨Az,_,Tryz.func86,rfl,rfl⟩
  ·cases h;exact⟨Yb7,_,Tryz.func95,rfl,rfl⟩
  ·cases h
 ·cases h
def Gj(t z:Bool)(a:Nat):SV:= .vs t z (nl a) 1 (fun k=>[.int .i64 (dig a k)])
theorem Yb9:orderC.ok Yb 58:=by
 refine Yv Tryz.func58 Ys9 R8 300 orderC fun args k h=>?_
 simp only[orderC]at h
 split at h
 ·rename_i t0 z0 n0 s0 g0 t1 z1 n1 s1 g1 t2 z2 n2 s2 g2 t3 z3 n3 s3 g3
  obtain⟨a,b,c,d,⟨⟨⟨rfl,p0,p1,p2⟩,rfl⟩,⟨⟨rfl,q0,q1,q2⟩,rfl⟩,⟨⟨rfl,r0,r1,r2⟩,rfl⟩,⟨⟨rfl,u0,u1,u2⟩,rfl⟩⟩,h⟩:=h
  refine⟨[.agg [Gj t0 z0 a,Gj t1 z1 b],.agg [Gj t2 z2 c,Gj t3 z3 d]],⟨⟨⟨id,rfl,rfl,rfl,p2⟩,⟨id,rfl,rfl,rfl,q2⟩,trivial⟩,⟨⟨id,rfl,rfl,rfl,r2⟩,⟨id,rfl,rfl,rfl,u2⟩,trivial⟩,trivial⟩,?_⟩
  (try dsimp only[v58,Yfq,cmpC,Gj,Yh,go_sem,reduceIte,Ya])
  (try simp only[Yd,Ya,Ye,reduceCtorEq,Yc])
  have c1:0<KS a d↔d<a:=by
   unfold KS;split
   ·omega
   ·split <;> omega
  refine⟨by decide,by decide,a,d,⟨YJ (by omega),YJ (by omega),rfl,rfl⟩,fun hc=>?_,fun hc=>⟨by decide,by decide,b,c,⟨YJ (by omega),YJ (by omega),rfl,rfl⟩,fun hd=>?_,fun hd=>?_⟩⟩
  ·rw[if_pos (c1.1 hc)]at h;exact YX h
  ·rw[if_neg (fun hh=>hc (c1.2 hh)),if_pos (ord_lt.1 hd)]at h;exact YX h
  ·rw[if_neg (fun hh=>hc (c1.2 hh)),if_neg (fun hh=>hd (ord_lt.2 hh))]at h;exact YX h
 ·exact h.1.elim
theorem Yml(p:Nat):lo p (1:Int).toNat=0/\hi p (1:Int).toNat=0:=by
 have e:lgR 1 p=(0,0):=by
  unfold lgR
  rw[if_pos (by decide),show lgK 1=0 by decide,JX]
 exact⟨congrArg Prod.fst e,congrArg Prod.snd e⟩
structure SSt where
 i:Nat
 y1:Bool
 y2:Bool
 y3:Bool
 y4:Bool
theorem Ycb:sumsC.ok Yb 57:=by
 refine Yv Tryz.func57 Ys8 R8 800 sumsC fun args k h=>?_
 simp only[sumsC]at h
 split at h
 ·rename_i tt z n sz get p'
  obtain⟨l,p,⟨⟨rfl,rfl,hg⟩,hl,hn,rfl,hp,hp15⟩,h⟩:=h
  refine⟨[.vs tt z l.length 2 (fun k=>YA (l.getD k default)),.int .i64 p],⟨⟨id,rfl,rfl,rfl,hg⟩,⟨rfl,rfl⟩,trivial⟩,?_⟩
  (try dsimp only[v57,YA,go_sem,reduceIte,Ya])
  (try simp only[Yd,Ya,Ye,reduceCtorEq,Yc])
  refine Loop.keep [0,0,2,0,0,0] SSt (fun s=>[(8,.int .i64 s.i)]) (fun s=>[(2,.own false 1 2 (Jp 1 [Ym s.y1 (upS (lo p) (l.take s.i)),Ym s.y2 (upS (hi p) (l.take s.i))])),(3,.own false 1 2 (Jp 1 [Ym s.y3 (dnS (lo p) (l.take s.i)),Ym s.y4 (dnS (hi p) (l.take s.i))]))]) [] (fun s=>s.i<=l.length) (fun s=>l.length-s.i) ?_ ?_
  ·refine⟨⟨0,true,true,true,true⟩,by simp only;omega,?_⟩
   (try dsimp only[Ym,go_sem,reduceIte,Ya])
   simp only[Yf]
   refine⟨by simp,fun k hk=>?_,fun k hk=>?_⟩
   ·match k,hk with
    |0,_=>exact⟨⟨rfl,rfl⟩,trivial⟩
    |1,_=>exact⟨⟨rfl,rfl⟩,trivial⟩
   ·match k,hk with
    |0,_=>exact⟨⟨rfl,rfl⟩,trivial⟩
    |1,_=>exact⟨⟨rfl,rfl⟩,trivial⟩
  ·rintro⟨i,y1,y2,y3,y4⟩ hi
   dsimp only at hi
   (try dsimp only[CE,CF,CG,CD,logC,limbsC,mulC,addC,Ym,YA,Yh,Int.toNat_zero,Int.toNat_one,Nat.reduceMul,go_sem,reduceIte,Ya])
   (try simp only[Yd,Ya,Ye,reduceCtorEq,Yc])
   refine⟨fun hlt=>?_,fun hge=>?_⟩
   ·obtain⟨q0,q1,q2,q3⟩:=hl _ (KK (by omega:i<l.length))
    have hx:=WL (hl _ (KK (by omega:i<l.length)))
    have hlt':i<l.length:=by omega
    have hU:∀g,upS g (l.take (i+1))=upS g (l.take i)+upS g [l.getD i default]:=fun g=>by rw[Hk hlt',(FP g _ _).1]
    have hD:∀g,dnS g (l.take (i+1))=dnS g (l.take i)+dnS g [l.getD i default]:=fun g=>by rw[Hk hlt',(FP g _ _).2]
    have hok:∀x,x∈l.take i->okU x:=fun x hx=>hl x (List.mem_of_mem_take hx)
    have hlen:(l.take i).length<=20:=by rw[J8];omega
    obtain⟨b1,b2⟩:=UH (p:=p) (g:=lo p) (fun n h1 h2=>MU h1 h2) hok hlen hp
    obtain⟨b3,b4⟩:=UH (p:=p) (g:=Q.hi p) (fun n h1 h2=>MM h1 h2) hok hlen hp
    have lb:=MU (p:=p) hx.1 hx.2.1
    have hb:=MM (p:=p) hx.1 hx.2.1
    generalize l.getD i default=x at*
    have hlo:lo p x.1.toNat=(lgR x.1.toNat p).1:=rfl
    have hhi:Q.hi p x.1.toNat=(lgR x.1.toNat p).2:=rfl
    rw[<-hlo,<-hhi]
    have h1L:x.1=1->lo p x.1.toNat=0/\Q.hi p x.1.toNat=0:=fun hh=>by rw[hh];exact Yml p
    have eU:∀g:Nat->Nat,upS g [x]=if x.2<0 then 0 else g x.1.toNat*x.2.toNat:=fun g=>by rw[upS,upS,Kw]
    have eD:∀g:Nat->Nat,dnS g [x]=if x.2<0 then g x.1.toNat*(-x.2).toNat else 0:=fun g=>by rw[dnS,dnS,Kw]
    simp only[eU,eD]at hU hD
    have ei:IntKind.i64.wrap ((i:Int)+1)=((i+1:Nat):Int):=by rw[Yg _ (by omega)];omega
    have en:IntKind.i64.wrap (0-x.2)= -x.2:=by rw[Yg _ (by omega)];omega
    have uL:=hU (lo p)
    have uH:=hU (Q.hi p)
    have dL:=hD (lo p)
    have dH:=hD (Q.hi p)
    generalize lo p x.1.toNat=L at*
    generalize Q.hi p x.1.toNat=H at*
    rw[ei,en]
    refine⟨⟨by omega,by omega⟩,fun _=>⟨by omega,by omega⟩,fun hc=>?_,fun hc=>⟨⟨by omega,by omega⟩,⟨⟨q0,q1⟩,by omega,by omega,by omega⟩,fun z1 z2=>⟨by decide,by decide,⟨by omega,by omega⟩,⟨by omega,by omega⟩,⟨by omega,by omega⟩,⟨by omega,by omega⟩,fun hpos=>⟨by decide,?_⟩,fun hneg=>⟨by decide,?_⟩⟩⟩⟩
    ·have hz:(if x.2<0 then 0 else L*x.2.toNat)=0/\(if x.2<0 then 0 else H*x.2.toNat)=0/\(if x.2<0 then L*(-x.2).toNat else 0)=0/\(if x.2<0 then H*(-x.2).toNat else 0)=0:=by
      rw[Qt,decide_eq_true_eq,decide_eq_true_eq]at hc
      rcases hc with hc|hc
      ·obtain⟨l1,l2⟩:=h1L hc
       simp [l1,l2]
      ·simp [hc]
     obtain⟨a1,a2,a3,a4⟩:=hz
     rw[a1,Kw]at uL
     rw[a2,Kw]at uH
     rw[a3,Kw]at dL
     rw[a4,Kw]at dH
     refine⟨⟨i+1,y1,y2,y3,y4⟩,by simp only;omega,by simp only;omega,?_⟩
     simp only[uL,uH,dL,dH]
     simp only[Yf]
     refine⟨by simp,fun k hk=>?_,fun k hk=>?_⟩
     ·match k,hk with
      |0,_=>exact YU _ ⟨trivial,trivial⟩
      |1,_=>exact YU _ ⟨trivial,trivial⟩
     ·match k,hk with
      |0,_=>exact YU _ ⟨trivial,trivial⟩
      |1,_=>exact YU _ ⟨trivial,trivial⟩
    ·simp only[if_false]
     (try dsimp only[CE,CF,CG,CD,logC,limbsC,mulC,addC,Ym,YA,Yh,Int.toNat_zero,Int.toNat_one,Nat.reduceMul,go_sem,reduceIte,Ya])
     (try simp only[Yd,Ya,Ye,reduceCtorEq,Yc])
     rw[if_neg (by omega)]at uL uH dL dH
     rw[Kw]at dL dH
     have hM:(max x.2 (-x.2)).toNat=x.2.toNat:=by omega
     rw[hM]
     have hMb:x.2.toNat<=3000000000000000:=by omega
     generalize x.2.toNat=M at*
     have fM:nl M<=4:=nl_le.2 (by omega)
     have f32:∀X,X<=64*2^p->nl X<=300/\nl (M*X)<=300:=fun X hX=>by
      have h3:M*X<=3000000000000000*(64*2^p):=YP hMb hX
      have h4:=Ja p
      have h5:3000000000000000*(64*2^p)<2^(p+62):=by rw[Yo,show(2:Nat)^62=4611686018427387904 from rfl];omega
      have h6:p+62<15*300:=by omega
      exact⟨VP (Jn (show X<=3000000000000000*(64*2^p)by omega) h5) h6,VP (Jn h3 h5) h6⟩
     obtain⟨fL,fML⟩:=f32 L lb
     obtain⟨fH,fMH⟩:=f32 H hb
     refine⟨by decide,M,L,⟨YJ (by omega),YJ (by omega),by omega,by omega⟩,upS (lo p) (l.take i),M*L,⟨YJ (by omega),YJ (by omega),by omega,by omega⟩,by decide,by decide,by decide,by decide,M,H,⟨YJ (by omega),YJ (by omega),by omega,by omega⟩,upS (Q.hi p) (l.take i),M*H,⟨YJ (by omega),YJ (by omega),by omega,by omega⟩,by decide,by decide,⟨i+1,false,false,y3,y4⟩,by simp only;omega,by simp only;omega,?_⟩
     simp only[uL,uH,dL,dH,ei,Yk L,Yk H]
     simp only[Yf]
     refine⟨by simp,fun k hk=>?_,fun k hk=>?_⟩
     ·match k,hk with
      |0,_=>exact YU _ ⟨trivial,trivial⟩
      |1,_=>exact YU _ ⟨trivial,trivial⟩
     ·match k,hk with
      |0,_=>exact YU _ ⟨trivial,trivial⟩
      |1,_=>exact YU _ ⟨trivial,trivial⟩
    ·simp only[if_false]
     (try dsimp only[CE,CF,CG,CD,logC,limbsC,mulC,addC,Ym,YA,Yh,Int.toNat_zero,Int.toNat_one,Nat.reduceMul,go_sem,reduceIte,Ya])
     (try simp only[Yd,Ya,Ye,reduceCtorEq,Yc])
     have hx0:x.2≠0:=fun hh=>by rw[hh,decide_eq_true rfl,Bool.or_true]at hc;cases hc
     rw[if_pos (by omega)]at uL uH dL dH
     rw[Kw]at uL uH
     have hM:(max x.2 (-x.2)).toNat=(-x.2).toNat:=by omega
     rw[hM]
     have hMb:(-x.2).toNat<=3000000000000000:=by omega
     generalize(-x.2).toNat=M at*
     have fM:nl M<=4:=nl_le.2 (by omega)
     have f32:∀X,X<=64*2^p->nl X<=300/\nl (M*X)<=300:=fun X hX=>by
      have h3:M*X<=3000000000000000*(64*2^p):=YP hMb hX
      have h4:=Ja p
      have h5:3000000000000000*(64*2^p)<2^(p+62):=by rw[Yo,show(2:Nat)^62=4611686018427387904 from rfl];omega
      have h6:p+62<15*300:=by omega
      exact⟨VP (Jn (show X<=3000000000000000*(64*2^p)by omega) h5) h6,VP (Jn h3 h5) h6⟩
     obtain⟨fL,fML⟩:=f32 L lb
     obtain⟨fH,fMH⟩:=f32 H hb
     refine⟨by decide,M,L,⟨YJ (by omega),YJ (by omega),by omega,by omega⟩,dnS (lo p) (l.take i),M*L,⟨YJ (by omega),YJ (by omega),by omega,by omega⟩,by decide,by decide,by decide,by decide,M,H,⟨YJ (by omega),YJ (by omega),by omega,by omega⟩,dnS (Q.hi p) (l.take i),M*H,⟨YJ (by omega),YJ (by omega),by omega,by omega⟩,by decide,by decide,⟨i+1,y1,y2,false,false⟩,by simp only;omega,by simp only;omega,?_⟩
     simp only[uL,uH,dL,dH,ei,Yk L,Yk H]
     simp only[Yf]
     refine⟨by simp,fun k hk=>?_,fun k hk=>?_⟩
     ·match k,hk with
      |0,_=>exact YU _ ⟨trivial,trivial⟩
      |1,_=>exact YU _ ⟨trivial,trivial⟩
     ·match k,hk with
      |0,_=>exact YU _ ⟨trivial,trivial⟩
      |1,_=>exact YU _ ⟨trivial,trivial⟩
   ·obtain rfl:i=l.length:=by omega
    rw[QB]at*
    exact⟨by decide,by decide,Ky (show k _ []from h y1 y2 y3 y4) (Jq _ ⟨⟨trivial,trivial,trivial⟩,⟨trivial,trivial,trivial⟩,trivial⟩) (fun _=>by simp [Ym,Y0,Y4])⟩
 ·exact h.1.elim
def v55:VF:=⟨43,[.tmp 2],(ZR [Zi 2 0] (.seq (ZR [Zm 4 0,Zl 5 4,Zq 6 .gtr 5 16] (ZC 6 (ZR [Zi 2 3] .ret) .skip)) (.seq (ZR [Zi 3 0] (.block 0 (.loop (.seq (ZR [Zm 7 3,Zm 8 0,Zl 9 8,Zr 10 .lss 7 9] (ZC 10 .skip (.exit 0))) (.seq (.block 1 (ZR [Zm 13 0,Zm 14 3,Zx 15 2 13 14,Za 16 0 15,Zf 17 1 16,Zq 18 .lss 17 1,Zm 19 18,Zg 20 19 false 0,Zg 21 19 false 3,u2 22 19 false (.idxAddr 2) [.tm 20,.tm 21],Zj 23 19 false 0 22,Zh 24 19 false 1 23,u2 25 19 false (.cmp .gtr) [.tm 24,.cn (.int .i64 1000000000000)],u1 26 .or [.tm 19,.tm 25],Zm 27 26,Zg 28 27 false 0,Zg 29 27 false 3,u2 30 27 false (.idxAddr 2) [.tm 28,.tm 29],Zj 31 27 false 1 30,Zh 32 27 false 1 31,u2 33 27 false (.cmp .lss) [.tm 32,.cn (.int .i64 (-1000000000))],u1 34 .or [.tm 27,.tm 33],Zm 35 34,Zg 36 35 false 0,Zg 37 35 false 3,u2 38 35 false (.idxAddr 2) [.tm 36,.tm 37],Zj 39 35 false 1 38,Zh 40 35 false 1 39,u2 41 35 false (.cmp .gtr) [.tm 40,.cn (.int .i64 1000000000)],u1 42 .or [.tm 35,.tm 41]] (ZC 42 (ZR [Zi 2 2] .ret) .skip))) (.region [Zm 11 3,Zp 12 11 1,Zm 3 12])))))) (ZR [Zi 2 0] .ret))))⟩
theorem Ys6:Yn Yb Tryz.f55=some v55:=by kernel_rfl
def v91:VF:=⟨23,[.tmp 2],(ZR [Zi 2 0] (.seq (ZR [Zm 7 0,Zc 8 131 7] (ZC 8 (ZR [Zi 2 0] .ret) .skip)) (ZR [Zi 3 30] (.block 0 (.loop (.seq (.block 1 (ZR [Zm 12 0,Zm 13 3,Zd 14 57 12 13,Zm 11 14,Ze 15 0 11,Ze 16 1 11,u1 4 (.allocArr 2 1 [.nil,.nil]) [],u1 5 (.allocArr 2 1 [.nil,.nil]) [],Zs 2 4 15,Zs 2 5 16] (ZR [Zt 17 2 4,Zt 18 2 5,Zd 19 58 17 18,Zm 6 19] (ZR [Zm 20 6,Zq 21 .neq 20 0] (ZC 21 (ZR [Zm 22 6,Zm 2 22] .ret) .skip))))) (.region [Zm 9 3,u1 10 (.ari .mul) [.cn (.int .i64 2),.tm 9],Zm 3 10])))))))⟩
theorem YtG:Yn Yb Tryz.f91=some v91:=by kernel_rfl
def sgn(l:List (Int×Int)):Int:=if dnP l<upP l then 1 else if upP l<dnP l then -1 else 0
def signC:Ctr:={ alias:=false,of:=fun l=>match l with
 | [.vs _ _ n sz get]=> .ex (List (Int×Int)) fun l=> .pre (lsP 2 YA n sz get l/\(∀x,x∈l->okU x)/\n<=20/\Dec l) (.fin (.int .i64 (sgn l)) [])
 |_=> .pre False (.fin (.int .i64 0) [])}
def Q8:Env:={ ct:=fun _=>none,fn:=fun _=>none,meth:=fun _ _=>none}
theorem Yfr:YE Yb Q8:=by
 refine⟨fun f c h=>?_,fun f vf h=>?_,(fun _ _ _ h=>by cases h),by kernel_rfl,(fun _ h=>by cases h)⟩
 ·cases h
 ·cases h
theorem YoL:chkTC.ok Yb 55:=by
 refine Yv Tryz.func55 Ys6 Yfr 500 chkTC fun args k h=>?_
 simp only[chkTC]at h
 split at h
 ·rename_i tt z n sz get
  obtain⟨l,⟨⟨rfl,rfl,hg⟩,hn⟩,h⟩:=h
  refine⟨[.vs tt z l.length 2 (fun k=>YA (l.getD k default))],⟨⟨id,rfl,rfl,rfl,hg⟩,trivial⟩,?_⟩
  (try dsimp only[v55,YA,go_sem,reduceIte,Ya])
  (try simp only[Yd,Ya,Ye,reduceCtorEq,Yc])
  refine⟨fun hc=>?_,fun hc=>?_⟩
  ·rw[Xl,if_pos (by omega)]at h;exact YX h
  ·rw[Xl,if_neg (by omega)]at h
   refine Loop.keep [0] Nat (fun i=>[(3,.int .i64 i)]) (fun _=>[]) [] (fun i=>i<=l.length/\(l.take i).any Xa=false) (fun i=>l.length-i) ?_ ?_
   ·refine⟨0,⟨by omega,rfl⟩,?_⟩
    (try dsimp only[go_sem,reduceIte,Ya])
    simp only[Yf]
    rfl
   ·rintro i ⟨hi,hall⟩
    (try dsimp only[YA,Yh,go_sem,reduceIte,Ya])
    (try simp only[Yd,Ya,Ye,reduceCtorEq,Yc])
    refine⟨fun hlt=>⟨⟨by omega,by omega⟩,fun _=>⟨by omega,by omega⟩,fun _=>⟨by omega,by omega⟩,fun _=>⟨by omega,by omega⟩,fun hc=>?_,fun hc=>⟨i+1,⟨by omega,?_⟩,by omega,?_⟩⟩,fun hge=>?_⟩
    ·have:l.any Xa=true:=List.any_eq_true.2 ⟨_,KK (by omega:i<l.length),hc⟩
     rw[if_pos this]at h
     exact YX h
    ·rw[Ydw (by omega),hall,Bool.false_or];exact hc
    ·rw[Yg ((i:Int)+1) (by omega)]
     simp only[Yf]
     simp
    ·obtain rfl:i=l.length:=by omega
     rw[QB]at hall
     rw[if_neg (by rw[hall];decide)]at h
     exact YX h
 ·exact h.1.elim
def Q9:Env:={ ct:=fun n=>match n with|131=>some oneC|57=>some sumsC|58=>some orderC|_=>none,fn:=fun _=>none,meth:=fun _ _=>none}
theorem Yfs:Q9.ct 131=some oneC:=rfl
theorem Yft:Q9.ct 57=some sumsC:=rfl
theorem Yfu:Q9.ct 58=some orderC:=rfl
theorem Yfv:YE Yb Q9:=by
 refine⟨fun f c h=>?_,fun f vf h=>?_,(fun _ _ _ h=>by cases h),by kernel_rfl,(fun _ h=>by cases h)⟩
 ·simp only[Q9]at h
  split at h
  ·cases h;exact⟨YoI,_,Tryz.func131,rfl,rfl⟩
  ·cases h;exact⟨Ycb,_,Tryz.func57,rfl,rfl⟩
  ·cases h;exact⟨Yb9,_,Tryz.func58,rfl,rfl⟩
  ·cases h
 ·cases h
theorem YoJ:signC.ok Yb 91:=by
 refine Yv Tryz.func91 YtG Yfv 500 signC fun args k h=>?_
 simp only[signC]at h
 split at h
 ·rename_i tt z n sz get
  obtain⟨l,⟨⟨rfl,rfl,hg⟩,hl,hn,hdec⟩,h⟩:=h
  refine⟨[.vs tt z l.length 2 (fun k=>YA (l.getD k default))],⟨⟨id,rfl,rfl,rfl,hg⟩,trivial⟩,?_⟩
  (try dsimp only[v91,Yfs,oneC,YA,go_sem,reduceIte,Ya])
  (try simp only[Yd,Ya,Ye,reduceCtorEq,Yc])
  have hself:lsP 2 YA l.length 2 (fun k=>[SV.int IntKind.i64 (l.getD k default).fst,SV.int IntKind.i64 (l.getD k default).snd]) l:=⟨rfl,rfl,fun k _=>Y1 _⟩
  refine⟨l,⟨hself,hl,hn⟩,fun hc=>?_,fun hc=>?_⟩
  ·rw[sgn,if_neg (by omega),if_neg (by omega)]at h
   exact YX h
  ·refine Loop.keep [0] Nat (fun j=>[(3,.int .i64 ((30*2^j:Nat):Int))]) (fun _=>[]) [] (fun j=>j<=7) (fun j=>7-j) ?_ ?_
   ·refine⟨0,by omega,?_⟩
    (try dsimp only[go_sem,reduceIte,Ya])
    simp only[Yf]
    rfl
   ·rintro j hj
    have hm:30*2^j<=3840:=by
     have:2^j<=2^7:=Kl (by decide) hj
     omega
    have hm15:30*2^j%15=0:=by omega
    have hm7:j=7->30*2^j=3840:=fun hh=>by rw[hh]
    have hms:30*2^(j+1)=2*(30*2^j):=by rw[YF];omega
    (try dsimp only[Yft,Yfu,sumsC,orderC,Ym,YA,Yh,Int.toNat_zero,Int.toNat_one,Nat.reduceMul,go_sem,reduceIte,Ya])
    (try simp only[Yd,Ya,Ye,reduceCtorEq,Yc])
    obtain⟨m,hme⟩:∃m,m=30*2^j:=⟨_,rfl⟩
    rw[<-hme]at hm hm15 hm7 hms⊢
    have b1:=UH (p:=m) (g:=lo m) (fun n h1 h2=>MU h1 h2) hl hn hm
    have b2:=UH (p:=m) (g:=hi m) (fun n h1 h2=>MM h1 h2) hl hn hm
    obtain⟨o1,o2,o3,o4⟩:=Ybs (p:=m) hl
    refine⟨l,m,⟨hself,hl,hn,rfl,hm,hm15⟩,fun y1 y2 y3 y4=>⟨by decide,by decide,by decide,by decide,upS (lo m) l,upS (hi m) l,dnS (lo m) l,dnS (hi m) l,⟨⟨YJ (by omega),rfl⟩,⟨YJ (by omega),rfl⟩,⟨YJ (by omega),rfl⟩,⟨YJ (by omega),rfl⟩⟩,fun hd=>?_,fun hd=>?_⟩⟩
    ·have hd:¬WM l m=0:=hd
     have hs:sgn l=WM l m:=by
      rcases o4 with e|e|e
      ·rw[e,sgn,if_pos (o1 e)]
      ·have:=o2 e
       rw[e,sgn,if_neg (by omega),if_pos this]
      ·exact absurd e hd
     rw[hs]at h
     exact YX h
    ·have hd:WM l m=0:=hd
     have hj7:j≠7:=fun hh=>by
      have hu:=o3 hd
      rw[hm7 hh]at hu
      rcases hdec with e|e
      ·exact hc e
      ·exact e (Yrw hl (by decide) hu)
     refine⟨j+1,by omega,by omega,?_⟩
     rw[hms,Yg (2*(m:Int)) (by omega)]
     simp only[Yf]
     omega
 ·exact h.1.elim
def v56:VF:=⟨18,[.tmp 6],(ZR [Zi 6 0] (ZR [u1 7 (.buildSlice 2 0 [(.int .i64 0),(.int .i64 0)] []) [],Zm 8 0,u1 9 (.append 2 16 [(.int .i64 0),(.int .i64 0)]) [.tm 7,.tm 8],Zm 10 1,u1 11 .neg [.tm 10],Zm 12 2,Zo 13 .mul 11 12,u1 14 (.build [(.int .i64 0),(.int .i64 0)] [(0,1),(1,1)]) [.cn (.int .i64 2),.tm 13],u1 15 (.buildSlice 2 1 [(.int .i64 0),(.int .i64 0)] [(0,2)]) [.tm 14],u1 16 (.append 2 16 [(.int .i64 0),(.int .i64 0)]) [.tm 9,.tm 15],Zc 17 91 16,Zm 6 17] .ret))⟩
theorem Ys7:Yn Yb Tryz.f56=some v56:=by kernel_rfl
def v59:VF:=⟨22,[.cell 4 true 2],(ZR [u1 2 .box [.tm 0],u1 4 (.allocArr 2 1 [.nil,.nil]) []] (.seq (ZR [Zm 6 1,Zq 7 .gtr 6 0] (ZC 7 (ZR [Zm 8 1,Zc 9 93 8,u1 10 (.call 96) [.tm 9,.cn (.int .i64 60)],Zm 5 10] (ZR [u1 11 (.idxArr 2 1) [.tm 2,.cn (.int .i64 0)],Zf 12 1 11,Zm 13 5,Zd 14 86 12 13,u1 15 (.idxArr 2 1) [.tm 2,.cn (.int .i64 0)],Zs 1 15 14] (.region [u1 16 (.idxArr 2 1) [.tm 2,.cn (.int .i64 1)],Zf 17 1 16,Zm 18 5,Zd 19 86 17 18,u1 20 (.idxArr 2 1) [.tm 2,.cn (.int .i64 1)],Zs 1 20 19]))) .skip)) (ZR [Zt 21 2 2,Zs 2 4 21] .ret)))⟩
theorem Yta:Yn Yb Tryz.f59=some v59:=by kernel_rfl
def expC:Ctr:={ alias:=false,of:=fun l=>match l with
 | [.vs _ _ n sz get,.int .i64 m,.int .i64 den]=> .ex (List (Int×Int)) fun l=> .pre (lsP 2 YA n sz get l/\(∀x,x∈l->okU x)/\n<=18/\(-1000000000001<=m/\m<=1000000000001)/\(1<=den/\den<=1000)/\Dec (atG l den m)) (.fin (.int .i64 (sgn (atG l den m))) [])
 |_=> .pre False (.fin (.int .i64 0) [])}
theorem L6{m den:Int}(hm: -1000000000001<=m/\m<=1000000000001)(hd:1<=den/\den<=1000): -1000000000001000<=m*den/\m*den<=1000000000001000:=by
 have:=Js (x:=m) (y:=den) (X:=1000000000001) (Y:=1000) (by omega) (by omega)
 omega
theorem atG_okU{l:List (Int×Int)}{den m:Int}(hl:∀x,x∈l->okU x)(hm: -1000000000001<=m/\m<=1000000000001)(hd:1<=den/\den<=1000):∀x,x∈atG l den m->okU x:=by
 intro x hx
 rw[atG,KE,JD]at hx
 rcases hx with hx|rfl
 ·exact hl x hx
 ·have:=L6 hm hd
  have e: -m*den= -(m*den):=Int.neg_mul _ _
  unfold okU
  simp only[e]
  omega
theorem YjP{l:List (Int×Int)}{den m:Int}{hp:List HO}{r:List SV->List SV}{i:Nat}:
 lsP 2 YA (l.length+1) 2 (fun k=>Qs false hp r (if k<l.length then YZ i [SV.int IntKind.i64 (l.getD k default).fst,SV.int IntKind.i64 (l.getD k default).snd]else YZ i (YR 2 (YK ((k-l.length)*2) [SV.int IntKind.i64 2,SV.int IntKind.i64 (-m*den)])))) (atG l den m):=by
 refine⟨rfl,by simp [atG],fun k hk=>?_⟩
 unfold atG
 dsimp only
 by_cases h1:k<l.length
 ·rw[if_pos h1,Kp (l:=_++_),XE h1,<-Kp]
  exact Y1 _
 ·rw[if_neg h1,show k-l.length=0 by omega,Kp (l:=_++_),WU (by omega),show k-l.length=0 by omega]
  exact Y1 _
def QG0:Env:={ ct:=fun n=>match n with|91=>some signC|_=>none,fn:=fun _=>none,meth:=fun _ _=>none}
theorem Yfw:QG0.ct 91=some signC:=rfl
theorem Yfx:YE Yb QG0:=by
 refine⟨fun f c h=>?_,fun f vf h=>?_,(fun _ _ _ h=>by cases h),by kernel_rfl,(fun _ h=>by cases h)⟩
 ·simp only[QG0]at h
  split at h
  ·cases h;exact⟨YoJ,_,Tryz.func91,rfl,rfl⟩
  ·cases h
 ·cases h
theorem YoE:expC.ok Yb 56:=by
 refine Yv Tryz.func56 Ys7 Yfx 500 expC fun args k h=>?_
 simp only[expC]at h
 split at h
 ·rename_i tt z n sz get m den
  obtain⟨l,⟨⟨rfl,rfl,hg⟩,hl,hn,hm,hden,hdec⟩,h⟩:=h
  refine⟨[.vs tt z l.length 2 (fun k=>YA (l.getD k default)),.int .i64 m,.int .i64 den],⟨⟨id,rfl,rfl,rfl,hg⟩,⟨rfl,rfl⟩,⟨rfl,rfl⟩,trivial⟩,?_⟩
  dsimp only[v56,Yfw,signC,YA,go_sem,reduceIte,Ya]
  simp only[Yd,Ya,Ye,reduceCtorEq,Yc]
  have hb:=L6 hm hden
  have e: -m*den= -(m*den):=Int.neg_mul _ _
  have hnd:IntKind.i64.wrap (IntKind.i64.wrap (0-m)*den)= -m*den:=by
   rw[Yg (0-m) (by omega),Int.zero_sub,Yg _ (by omega)]
  rw[hnd]
  simp only[KL,QC,if_false,Nat.sub_zero]
  refine⟨by decide,by unfold Ka;omega,by decide,⟨by unfold Ka;omega,fun k hk=>?_⟩,atG l den m,⟨YjP,atG_okU hl hm hden,by omega,hdec⟩,YX h⟩
  obtain rfl:k=0:=by omega
  exact⟨rfl,trivial,trivial,trivial⟩
 ·exact h.1.elim
def L9(z:Bool)(a:Nat):SV:= .vs false z (nl a) 1 (fun k=>[.int .i64 (dig a k)])
def movC:Ctr:={ alias:=true,of:=fun l=>match l with
 | [.agg [.vs _ _ n0 s0 g0,.vs _ _ n1 s1 g1],.int .i64 n]=> .ex Nat fun a=> .ex Nat fun b=> .pre ((K6 a n0 s0 g0/\n0=nl a)/\(K6 b n1 s1 g1/\n1=nl b)/\(n0<=300/\n1<=300)/\ -1000000000001000<=n/\n<=1000000000001000)
     (.all Bool fun y0=> .all Bool fun y1=> .fin (.agg [L9 y0 (a+n.toNat*2^60),L9 y1 (b+n.toNat*2^60)]) [])
 |_=>noC}
def QG1:Env:={ ct:=fun n=>match n with|93=>some limbsC|96=>some shiftC|86=>some addC|_=>none,fn:=fun _=>none,meth:=fun _ _=>none}
theorem Yfz:QG1.ct 93=some limbsC:=rfl
theorem YfA:QG1.ct 96=some shiftC:=rfl
theorem Yfy:QG1.ct 86=some addC:=rfl
theorem YfB:YE Yb QG1:=by
 refine⟨fun f c h=>?_,fun f vf h=>?_,(fun _ _ _ h=>by cases h),by kernel_rfl,(fun _ h=>by cases h)⟩
 ·simp only[QG1]at h
  split at h
  ·cases h;exact⟨AA,_,Tryz.func93,rfl,rfl⟩
  ·cases h;exact⟨Yca,_,Tryz.func96,rfl,rfl⟩
  ·cases h;exact⟨Az,_,Tryz.func86,rfl,rfl⟩
  ·cases h
 ·cases h
theorem YoH:movC.ok Yb 59:=by
 refine Yv Tryz.func59 Yta YfB 500 movC fun args k h=>?_
 simp only[movC]at h
 split at h
 ·rename_i t0 z0 n0 s0 g0 t1 z1 n1 s1 g1 n
  obtain⟨a,b,⟨⟨⟨rfl,p0,p1,p2⟩,rfl⟩,⟨⟨rfl,q0,q1,q2⟩,rfl⟩,hn,hnb⟩,h⟩:=h
  refine⟨[.agg [Gj t0 z0 a,Gj t1 z1 b],.int .i64 n],⟨⟨⟨id,rfl,rfl,rfl,p2⟩,⟨id,rfl,rfl,rfl,q2⟩,trivial⟩,⟨rfl,rfl⟩,trivial⟩,?_⟩
  dsimp only[v59,Yfz,YfA,Yfy,limbsC,shiftC,addC,Ym,Gj,Yh,go_sem,reduceIte,Ya]
  simp only[Yd,Ya,Ye,reduceCtorEq,Yc]
  have hN:n.toNat*2^60<2^112:=by
   have e:(2:Nat)^112=2^52*2^60:=by rw[<-Yo]
   rw[e]
   exact ZL (by omega) (Qv 60)
  have n1:nl (n.toNat*2^60)<=300:=VP hN (by decide)
  have n2:nl n.toNat<=300:=VP (Jn (Nat.le_mul_of_pos_right _ (Qv 60)) hN) (by decide)
  refine⟨fun hp=>⟨⟨by omega,by omega⟩,n.toNat,⟨YJ (by omega),by omega,by decide,by decide⟩,by decide,a,n.toNat*2^60,⟨YJ (by omega),YJ (show nl (n.toNat*2^60)<=_ by omega),by omega,show nl (n.toNat*2^60)<=_ by omega⟩,by decide,by decide,b,n.toNat*2^60,⟨YJ (by omega),YJ (show nl (n.toNat*2^60)<=_ by omega),by omega,show nl (n.toNat*2^60)<=_ by omega⟩,by decide,by decide,?_⟩,fun hp=>⟨by decide,?_⟩⟩
  ·exact Ky (show k _ []from h false false) ⟨⟨(fun hh=>by cases hh),rfl,rfl,rfl,fun k hk=>Y1 _⟩,⟨(fun hh=>by cases hh),rfl,rfl,rfl,fun k hk=>Y1 _⟩,trivial⟩ (fun hh=>by cases hh)
  ·have e0:n.toNat=0:=by omega
   rw[e0,JX,Kw,Kw]at h
   exact Ky (show k _ []from h z0 z1) ⟨⟨(fun hh=>by cases hh),rfl,rfl,rfl,fun k hk=>Y1 _⟩,⟨(fun hh=>by cases hh),rfl,rfl,rfl,fun k hk=>Y1 _⟩,trivial⟩ (fun hh=>by cases hh)
 ·exact h.1.elim
set_option maxHeartbeats 8000000
def v33:VF:=⟨110,[.tmp 6,.tmp 7,.tmp 8],(ZR [Zi 6 0,u1 7 .mov [.cn (.bool false)],Zi 8 0] (ZR [Zm 18 0,Zc 19 55 18,Zm 9 19] (.seq (ZR [Zm 20 9,Zq 21 .neq 20 0] (ZC 21 (ZR [Zm 22 9,Zi 6 0,u1 7 .mov [.cn (.bool false)],Zm 8 22] .ret) .skip)) (.seq (ZR [Zm 23 1,Zq 24 .lss 23 1,Zm 25 24,Zg 26 25 false 1,u2 27 25 false (.cmp .gtr) [.tm 26,.cn (.int .i64 1000000)],u1 28 .or [.tm 25,.tm 27],Zm 29 28,Zg 30 29 false 2,u2 31 29 false (.cmp .lss) [.tm 30,.cn (.int .i64 1)],u1 32 .or [.tm 29,.tm 31],Zm 33 32,Zg 34 33 false 2,u2 35 33 false (.cmp .gtr) [.tm 34,.cn (.int .i64 10000000)],u1 36 .or [.tm 33,.tm 35]] (ZC 36 (ZR [Zi 6 0,u1 7 .mov [.cn (.bool false)],Zi 8 2] .ret) .skip)) (ZR [u1 10 .mov [.cn .nil]] (.seq (ZR [Zi 11 0] (.block 0 (.loop (.seq (ZR [Zm 37 11,Zm 38 0,Zl 39 38,Zr 40 .lss 37 39] (ZC 40 .skip (.exit 0))) (.seq (.block 1 (.draw [] [Zu 43 10,Zu 44 0,Zu 45 11,ZX 46 2 44 45,Zy 47 0 46,Zv 48 1 47,Zu 49 0,Zu 50 11,ZX 51 2 49 50,Zy 52 1 51,Zv 53 1 52,Zu 54 2,w1 55 (.ari .mul) [.tm 53,.tm 54],w1 56 (.build [(.int .i64 0),(.int .i64 0)] [(0,1),(1,1)]) [.tm 48,.tm 55],w1 57 (.buildSlice 2 1 [(.int .i64 0),(.int .i64 0)] [(0,2)]) [.tm 56],w1 58 (.append 2 16 [(.int .i64 0),(.int .i64 0)]) [.tm 43,.tm 57],Zu 10 58])) (.region [Zm 41 11,Zp 42 41 1,Zm 11 42])))))) (.seq (ZR [Zm 59 10,Zm 60 1,u1 61 (.call 56) [.tm 59,.cn (.int .i64 1000000000001),.tm 60],Zq 62 .geq 61 0,Zm 63 62,Zg 64 63 false 10,Zg 65 63 false 1,u2 66 63 false (.call 56) [.tm 64,.cn (.int .i64 (-1000000000000)),.tm 65],u2 67 63 false (.cmp .lss) [.tm 66,.cn (.int .i64 0)],u1 68 .or [.tm 63,.tm 67]] (ZC 68 (ZR [Zi 6 0,u1 7 .mov [.cn (.bool false)],Zi 8 7] .ret) .skip)) (ZR [Zm 70 10,u1 71 (.call 57) [.tm 70,.cn (.int .i64 60)],Zm 69 71,Ze 72 0 69,Ze 73 1 69,u1 12 (.allocArr 2 1 [.nil,.nil]) [],u1 13 (.allocArr 2 1 [.nil,.nil]) [],Zs 2 12 72,Zs 2 13 73] (ZR [Zi 14 (-1000000000000),Zi 15 1000000000001] (.seq (.block 2 (.loop (.seq (ZR [Zm 74 15,Zm 75 14,Zo 76 .sub 74 75,Zq 77 .gtr 76 1] (ZC 77 .skip (.exit 2))) (.block 3 (ZR [Zm 78 14,Zm 79 15,Zo 80 .add 78 79,u1 81 .quo [.tm 80,.cn (.int .i64 2)],Zm 16 81] (.seq (.draw [] [Zw 82 2 12,Zu 83 16,w1 84 .neg [.tm 83],Zu 85 1,w1 86 (.ari .mul) [.tm 84,.tm 85],Zw 88 2 13,Zu 89 16,Zu 90 1,w1 91 (.ari .mul) [.tm 89,.tm 90],Zz 87 59 82 86,Zz 92 59 88 91,Zz 93 58 87 92,Zu 17 93]) (.seq (ZR [Zm 94 17,Zq 95 .eql 94 0] (ZC 95 (.region [Zm 96 10,Zm 97 16,Zm 98 1,u1 99 (.call 56) [.tm 96,.tm 97,.tm 98],Zm 17 99]) .skip)) (ZR [Zm 100 17,Zq 101 .geq 100 0] (ZC 101 (.region [Zm 102 16,Zm 14 102]) (.region [Zm 103 16,Zm 15 103])))))))))) (ZR [Zm 104 14,Zm 105 10,Zm 106 14,Zm 107 1,u1 108 (.call 56) [.tm 105,.tm 106,.tm 107],Zq 109 .eql 108 0,Zm 6 104,Zm 7 109,Zi 8 0] .ret)))))))))))⟩
theorem YsL:Yn Yb Tryz.f33=some v33:=by kernel_rfl
def EE(l:List (Int×Int))(den m:Int):Prop:=dnP (atG l den m)<=upP (atG l den m)
theorem Rz:∀a b:List (Int×Int),upP (a++b)=upP a*upP b/\dnP (a++b)=dnP a*dnP b
 | [],b=>by simp [upP,dnP]
 |x::a,b=>by
  obtain⟨h1,h2⟩:=Rz a b
  rw[ZH,upP,dnP,upP,dnP,h1,h2,Yx,Yx]
  exact⟨rfl,rfl⟩
theorem YdF(e:Int):upP [(2,e)]=2^e.toNat/\dnP [(2,e)]=2^(-e).toNat:=by
 unfold upP dnP upP dnP
 by_cases c:e<0
 ·rw[if_pos c,if_pos c,show e.toNat=0 by omega];exact⟨rfl,by simp⟩
 ·rw[if_neg c,if_neg c,show(-e).toNat=0 by omega];exact⟨by simp,rfl⟩
theorem RR{l:List (Int×Int)}{den m m':Int}(hd:1<=den)(h:m'<=m)(he:EE l den m):EE l den m':=by
 unfold EE atG at*
 rw[(Rz _ _).1,(Rz _ _).2,(YdF _).1,(YdF _).2]at*
 have hm:m'*den<=m*den:=Xq h (by omega)
 have e1: -m*den= -(m*den):=Int.neg_mul _ _
 have e2: -m'*den= -(m'*den):=Int.neg_mul _ _
 rw[e1]at he
 rw[e2]
 have a:=Yz (dnP l) (Kl (show 0<2 by decide) (show(- -(m'*den)).toNat<=(- -(m*den)).toNat by omega))
 have b:=Yz (upP l) (Kl (show 0<2 by decide) (show(-(m*den)).toNat<=(-(m'*den)).toNat by omega))
 omega
theorem Ye2{l:List (Int×Int)}{den a b:Int}(hd:1<=den)(h1:EE l den a)(h2:¬EE l den (a+1))(h3:EE l den b)(h4:¬EE l den (b+1)):a=b:=by
 rcases Int.lt_trichotomy a b with h|h|h
 ·exact absurd (RR hd (show a+1<=b by omega) h3) h2
 ·exact h
 ·exact absurd (RR hd (show b+1<=a by omega) h1) h4
theorem AU(l:List (Int×Int))(den m:Int):0<=sgn (atG l den m)↔EE l den m:=by
 unfold sgn EE
 split
 ·constructor
  ·intro _;omega
  ·intro _;decide
 ·split
  ·constructor
   ·intro h;exact absurd h (by decide)
   ·intro _;omega
  ·constructor
   ·intro _;omega
   ·intro _;decide
theorem Ge(p:Nat):lo p 2=2^p/\hi p 2=2^p:=by
 have e:lgR 2 p=(2^p,2^p):=by
  unfold lgR
  rw[if_pos (by decide),show lgK 2=1 by decide,Kc]
 exact⟨congrArg Prod.fst e,congrArg Prod.snd e⟩
theorem YdG(g:Nat->Nat)(e:Int):upS g [(2,e)]=g 2*e.toNat/\dnS g [(2,e)]=g 2*(-e).toNat:=by
 have h2:g (2:Int).toNat=g 2:=rfl
 rw[upS,upS,dnS,dnS]
 by_cases c:e<0
 ·rw[if_pos c,if_pos c,show e.toNat=0 by omega,Wf,Kw,Kw,h2]
  exact⟨rfl,rfl⟩
 ·rw[if_neg c,if_neg c,show(-e).toNat=0 by omega,Wf,Kw,Kw,h2]
  exact⟨rfl,rfl⟩
theorem UQ{g:Nat->Nat}{p:Nat}(hg:g 2=2^p)(l:List (Int×Int))(den m:Int):upS g (atG l den m)=upS g l+(-m*den).toNat*2^p/\dnS g (atG l den m)=dnS g l+(m*den).toNat*2^p:=by
 have e: -m*den= -(m*den):=Int.neg_mul _ _
 unfold atG
 rw[(FP g _ _).1,(FP g _ _).2,(YdG g _).1,(YdG g _).2,hg,e,JW,Yk,Yk (2^p) (m*den).toNat]
 exact⟨rfl,rfl⟩
theorem Ykw{a b:Int}(h:1<b-a):a<(a+b).tdiv 2/\(a+b).tdiv 2<b:=by
 rcases Int.le_total 0 (a+b)with h0|h0
 ·rw[ZG h0];omega
 ·have e:(a+b).tdiv 2= -((-(a+b))/2):=by
   rw[<-ZG (by omega:0<= -(a+b)),Int.neg_tdiv,JW]
  rw[e];omega
def rflrC:Ctr:={ alias:=false,of:=fun l=>match l with
 | [.vs _ _ n sz get,.int .i64 den,.int .i64 s]=> .ex (List (Int×Int)) fun l=> .ex Int fun K=> .pre (lsP 2 YA n sz get l/\(∀x,x∈l->Xa x=false)/\n<=16/\(1<=den/\den<=1000)/\(1<=s/\s<=10000000)/\(∀x,x∈l.map (Qp s)->okU x)/\
     (∀m:Int, -1000000000000<=m->m<=1000000000001->Dec (atG (l.map (Qp s)) den m))/\(EE (l.map (Qp s)) den (-1000000000000)/\¬EE (l.map (Qp s)) den 1000000000001)/\EE (l.map (Qp s)) den K/\¬EE (l.map (Qp s)) den (K+1))
     (.fin (.tup [.int .i64 K,.bool (decide (upP (atG (l.map (Qp s)) den K)=dnP (atG (l.map (Qp s)) den K))),.int .i64 0]) [])
 |_=>noC}
def QG2:Env:={ ct:=fun n=>match n with|55=>some chkTC|56=>some expC|57=>some sumsC|58=>some orderC|59=>some movC|_=>none,fn:=fun _=>none,meth:=fun _ _=>none}
theorem YfC:QG2.ct 55=some chkTC:=rfl
theorem R9:QG2.ct 56=some expC:=rfl
theorem YfD:QG2.ct 57=some sumsC:=rfl
theorem YfE:QG2.ct 58=some orderC:=rfl
theorem YfF:QG2.ct 59=some movC:=rfl
theorem YfG:YE Yb QG2:=by
 refine⟨fun f c h=>?_,fun f vf h=>?_,(fun _ _ _ h=>by cases h),by kernel_rfl,(fun _ h=>by cases h)⟩
 ·simp only[QG2]at h
  split at h
  ·cases h;exact⟨YoL,_,Tryz.func55,rfl,rfl⟩
  ·cases h;exact⟨YoE,_,Tryz.func56,rfl,rfl⟩
  ·cases h;exact⟨Ycb,_,Tryz.func57,rfl,rfl⟩
  ·cases h;exact⟨Yb9,_,Tryz.func58,rfl,rfl⟩
  ·cases h;exact⟨YoH,_,Tryz.func59,rfl,rfl⟩
  ·cases h
 ·cases h
theorem rflr_ok:rflrC.ok Yb 33:=by
 refine Yv Tryz.func33 YsL YfG 800 rflrC fun args k h=>?_
 simp only[rflrC]at h
 split at h
 ·rename_i tt z n sz get den s
  obtain⟨l,K,⟨⟨rfl,rfl,hg⟩,hl,hn,hd,hs,hA,hdec,hend,hK1,hK2⟩,h⟩:=h
  refine⟨[.vs tt z l.length 2 (fun k=>YA (l.getD k default)),.int .i64 den,.int .i64 s],⟨⟨id,rfl,rfl,rfl,hg⟩,⟨rfl,rfl⟩,⟨rfl,rfl⟩,trivial⟩,?_⟩
  dsimp only[v33,YfC,chkTC,YA,go_sem,reduceIte,Ya]
  simp only[Yd,Ya,Ye,reduceCtorEq,Yc]
  have hchk:Xl l=0:=by
   have:l.any Xa=false:=by rw[List.any_eq_false];exact fun x hx=>by rw[hl x hx];decide
   rw[Xl,if_neg (by omega),if_neg (by rw[this];decide)]
  refine⟨l,⟨⟨rfl,rfl,fun k _=>Y1 _⟩,by omega⟩,fun hh=>absurd hchk hh,fun _=>⟨fun hh=>?_,fun _=>?_⟩⟩
  ·rw[decide_eq_false (by omega:¬den<1),decide_eq_false (by omega:¬1000000<den),decide_eq_false (by omega:¬s<1),decide_eq_false (by omega:¬10000000<s)]at hh
   cases hh
  obtain⟨A,hAe⟩:∃A,A=l.map (Qp s):=⟨_,rfl⟩
  have hAl:A.length=l.length:=by rw[hAe,Vq]
  have hAk:∀k,k<l.length->A.getD k default=Qp s (l.getD k default):=fun k hk=>by rw[hAe,B3 hk]
  rw[<-hAe]at h hA hdec hend hK1 hK2
  refine Loop.keep [0,0,0] Nat (fun i=>[(10,.own 0 0 i 2),(11,.int .i64 i)]) (fun i=>[(0,.own (decide (i=0)) 2 i (fun k=>YA (A.getD k default)))]) [.gone] (fun i=>i<=l.length) (fun i=>l.length-i) ?_ ?_
  ·refine⟨0,JP _,?_⟩
   dsimp only[go_sem,reduceIte,Ya]
   simp only[Yf]
   simp
  ·rintro i hi
   dsimp only[Yh,YA,go_sem,reduceIte,Ya]
   simp only[Yd,Ya,Ye,reduceCtorEq,Yc]
   refine⟨fun hlt=>?_,fun hge=>?_⟩
   ·have hil:i<l.length:=by omega
    have hx:=hl _ (KK hil)
    simp only[Xa,JH,decide_eq_false_iff_not]at hx
    have hm:=Js (x:=(l.getD i default).2) (y:=s) (X:=1000000000) (Y:=10000000) (by omega) (by omega)
    rw[Yg ((l.getD i default).2*s) (by omega),Yg ((i:Int)+1) (by omega)]
    refine⟨⟨by omega,by omega⟩,⟨by omega,by omega⟩,by decide,⟨by unfold Ka;omega,fun k hk=>Gm hk⟩,i+1,by omega,by omega,?_⟩
    simp only[Yf]
    refine⟨by simp,by simp,fun q hq=>?_⟩
    by_cases hqi:q<i
    ·rw[if_pos hqi];exact⟨⟨rfl,rfl⟩,⟨rfl,rfl⟩,trivial⟩
    ·obtain rfl:q=i:=by omega
     rw[if_neg hqi,hAk _ hil,Nat.sub_self]
     exact⟨⟨rfl,rfl⟩,⟨rfl,rfl⟩,trivial⟩
   ·obtain rfl:i=l.length:=by omega
    dsimp only[R9,YfD,expC,sumsC,Ym,YA,Yh,go_sem,reduceIte,Ya]
    simp only[Yd,Ya,Ye,reduceCtorEq,Yc]
    have self:lsP 2 YA l.length 2 (fun k=>[SV.int IntKind.i64 (A.getD k default).fst,SV.int IntKind.i64 (A.getD k default).snd]) A:=⟨rfl,hAl.symm,fun k _=>Y1 _⟩
    refine⟨A,⟨self,hA,by omega,by decide,hd,hdec _ (by decide) (by decide)⟩,A,fun _=>⟨self,hA,by omega,by decide,hd,hdec _ (by decide) (by decide)⟩,fun hh=>?_,fun _=>⟨A,60,⟨self,hA,by omega,rfl,by decide,by decide⟩,fun y1 y2 y3 y4=>⟨by decide,by decide,by decide,by decide,?_⟩⟩⟩
    ·exfalso
     rw[Qt,decide_eq_true_eq,decide_eq_true_eq]at hh
     rcases hh with hh|hh
     ·exact hend.2 ((AU ..).1 hh)
     ·have:=(AU A den (-1000000000000)).2 hend.1;omega
    have hn20:A.length<=20:=by omega
    have b1:=UH (p:=60) (g:=lo 60) (fun n h1 h2=>MU h1 h2) hA hn20 (by decide)
    have b2:=UH (p:=60) (g:=Q.hi 60) (fun n h1 h2=>MM h1 h2) hA hn20 (by decide)
    refine Loop.keep [1,8,1,0] (Int×Int) (fun s=>[(14,.int .i64 s.1),(15,.int .i64 s.2)]) (fun _=>[]) [] (fun s=>(-1000000000000<=s.1/\s.1<s.2/\s.2<=1000000000001)/\EE A den s.1/\¬EE A den s.2) (fun s=>(s.2-s.1).toNat) ?_ ?_
    ·refine⟨(-1000000000000,1000000000001),⟨by decide,hend.1,hend.2⟩,?_⟩
     dsimp only[go_sem,reduceIte,Ya]
     simp only[Yf]
     decide
    ·rintro⟨lw,hg'⟩ ⟨⟨c1,c2,c3⟩,e1,e2⟩
     dsimp only at c1 c2 c3 e1 e2
     dsimp only[R9,YfF,YfE,expC,movC,orderC,Ym,L9,YA,Yh,go_sem,reduceIte,Ya]
     simp only[Yd,Ya,Ye,reduceCtorEq,Yc]
     rw[Yg (hg'-lw) (by omega)]
     refine⟨fun hc=>?_,fun hc=>?_⟩
     ·obtain⟨m,hm,m1,m2⟩:∃m,IntKind.i64.wrap ((IntKind.i64.wrap (lw+hg')).tdiv 2)=m/\lw<m/\m<hg':=by
       rw[Yg (lw+hg') (by omega)]
       obtain⟨g1,g2⟩:=Ykw hc
       exact⟨(lw+hg').tdiv 2,Yg _ (by omega),g1,g2⟩
      have mb:=L6 (m:=m) (den:=den) (by omega) hd
      have emn: -m*den= -(m*den):=Int.neg_mul _ _
      rw[hm,Yg (0-m) (by omega),Int.zero_sub,Yg (m*den) (by omega),Yg (-m*den) (by omega)]
      have hatm:=atG_okU hA (m:=m) (den:=den) (by omega) hd
      have hal:(atG A den m).length<=20:=by unfold atG;rw[JI,List.length_singleton];omega
      have d1:=UH (p:=60) (g:=lo 60) (fun n h1 h2=>MU h1 h2) hatm hal (by decide)
      have d2:=UH (p:=60) (g:=Q.hi 60) (fun n h1 h2=>MM h1 h2) hatm hal (by decide)
      obtain⟨o1,o2,o3,o4⟩:=Ybs (p:=60) hatm
      have hord:WM (atG A den m) 60=(if dnS (Q.hi 60) A+(m*den).toNat*2^60<upS (lo 60) A+(-m*den).toNat*2^60 then 1 else if upS (Q.hi 60) A+(-m*den).toNat*2^60<dnS (lo 60) A+(m*den).toNat*2^60 then -1 else 0):=by
       unfold WM
       rw[(UQ (Ge 60).1 A den m).1,(UQ (Ge 60).1 A den m).2,(UQ (Ge 60).2 A den m).1,(UQ (Ge 60).2 A den m).2]
      rw[(UQ (Ge 60).1 A den m).1,(UQ (Ge 60).1 A den m).2]at d1
      rw[(UQ (Ge 60).2 A den m).1,(UQ (Ge 60).2 A den m).2]at d2
      obtain⟨N,hN⟩:∃N,N=(m*den).toNat*2^60:=⟨_,rfl⟩
      obtain⟨N',hN'⟩:∃N',N'=(-m*den).toNat*2^60:=⟨_,rfl⟩
      rw[<-hN,<-hN']at hord d1 d2
      refine⟨by decide,rfl,upS (lo 60) A,upS (Q.hi 60) A,⟨⟨YJ (by omega),rfl⟩,⟨YJ (by omega),rfl⟩,by omega,by omega,by omega⟩,fun w1 w2=>⟨rfl,dnS (lo 60) A,dnS (Q.hi 60) A,⟨⟨YJ (by omega),rfl⟩,⟨YJ (by omega),rfl⟩,by omega,by omega,by omega⟩,fun w3 w4=>?_⟩⟩
      rw[<-hN,<-hN']
      refine⟨upS (lo 60) A+N',upS (Q.hi 60) A+N',dnS (lo 60) A+N,dnS (Q.hi 60) A+N,⟨⟨YJ (by omega),rfl⟩,⟨YJ (by omega),rfl⟩,⟨YJ (by omega),rfl⟩,⟨YJ (by omega),rfl⟩⟩,?_⟩
      rw[<-hord]
      have up:EE A den m->(-1000000000000<=m/\m<hg'/\hg'<=1000000000001)/\EE A den m/\¬EE A den hg':=fun hh=>⟨⟨by omega,m2,c3⟩,hh,e2⟩
      have dn:¬EE A den m->(-1000000000000<=lw/\lw<m/\m<=1000000000001)/\EE A den lw/\¬EE A den m:=fun hh=>⟨⟨c1,m1,by omega⟩,e1,hh⟩
      refine⟨fun e0=>⟨A,⟨self,hA,by omega,⟨by omega,by omega⟩,hd,hdec m (by omega) (by omega)⟩,fun hs=>⟨(m,hg'),up ((AU A den m).1 hs),by simp only;omega,?_⟩,fun hs=>⟨(lw,m),dn (fun hh=>hs ((AU A den m).2 hh)),by simp only;omega,?_⟩⟩,fun en=>⟨fun hs=>⟨(m,hg'),up ?_,by simp only;omega,?_⟩,fun hs=>⟨(lw,m),dn ?_,by simp only;omega,?_⟩⟩⟩
      ·simp only[Yf];simp
      ·simp only[Yf];simp
      ·exact JN (o1 (by omega))
      ·simp only[Yf];simp
      ·have:=o2 (by omega)
       unfold EE
       omega
      ·simp only[Yf];simp
     ·have ehg:hg'=lw+1:=by omega
      rw[ehg]at e2
      have eK:lw=K:=Ye2 hd.1 e1 e2 hK1 hK2
      subst eK
      refine⟨A,⟨self,hA,by omega,⟨by omega,by omega⟩,hd,hdec lw (by omega) (by omega)⟩,?_⟩
      have hz:decide (sgn (atG A den lw)=0)=decide (upP (atG A den lw)=dnP (atG A den lw)):=by
       rw[decide_eq_decide]
       unfold sgn
       split
       ·constructor
        ·intro hh;exact absurd hh (by decide)
        ·intro _;omega
       ·split
        ·constructor
         ·intro hh;exact absurd hh (by decide)
         ·intro _;omega
        ·constructor
         ·intro _;omega
         ·intro _;rfl
      rw[hz]
      exact WX (show k _ []from h)
 ·exact h.1.elim
end Go.Proofs.YtlhmikjnholpnaaGreatDoor.Q
namespace Go.Proofs.YtlhmikjnholpnaaGreatDoor
open Go Go.Vx
set_option maxRecDepth 100000
set_option maxHeartbeats 8000000
def YdM:VF:={ ntmps:=60,res:=[.cell 2 true 7,.tmp 3,.tmp 4],body:=
 (ZR [u1 1 .box [.tm 0],
 u1 2 (.alloc [(.int .i64 0),(.int .i64 0),(.int .i64 0),(.int .i64 0),(.int .i64 0),(.int .i64 0),(.int .i64 0)]) [],
 Zi 3 0,
 Zi 4 0]
 (ZR [Zt 15 7 1,
 Zc 16 71 15,
 Zm 14 16,
 Ze 17 0 14,
 Ze 18 1 14,
 Ze 19 2 14,
 Zm 5 17,
 Zm 6 18,
 Zm 7 19]
 (.seq (ZR [Zm 20 7,
 Zq 21 .neq 20 0]
 (ZC 21 (ZR [u1 22 (.build [(.int .i64 0),(.int .i64 0),(.int .i64 0),(.int .i64 0),(.int .i64 0),(.int .i64 0),(.int .i64 0)] []) [],
 Zm 23 7,
 Zs 7 2 22,
 Zi 3 0,
 Zm 4 23]
 .ret)
  .skip))
 (ZR [Zm 25 5,
 Zm 26 6,
 u1 27 (.call 33) [.tm 25,.tm 26,.cn (.int .i64 1)],
 Zm 24 27,
 Ze 28 0 24,
 Ze 29 1 24,
 Ze 30 2 24,
 Zm 8 28,
 Zm 9 29,
 Zm 10 30]
 (ZR [u1 11 (.allocArr 6 1 [(.int .i64 0),(.int .i64 0),(.int .i64 0),(.int .i64 0),(.int .i64 0),(.int .i64 0)]) []]
 (.seq (ZR [Zi 12 0]
 (.block 0 (.loop (.seq (ZR [Zm 31 12,
 Zq 32 .lss 31 6]
 (ZC 32 .skip
  (.exit 0)))
 (.seq (.block 1 (.region [Zm 35 12,
 Zm 36 12,
 Za 37 0 1,
 u1 38 (.idxArr 6 1) [.tm 37,.tm 36],
 Zf 39 1 38,
 u1 40 (.idxArr 6 1) [.tm 11,.tm 35],
 Zs 1 40 39]))
 (.region [Zm 33 12,
 Zp 34 33 1,
 Zm 12 34]))))))
 (ZR [u1 41 (.idxArr 6 1) [.tm 11,.cn (.int .i64 0)],
 Zf 42 1 41,
 Zm 43 8,
 Zm 44 6,
 Zo 45 .mul 43 44,
 Zo 46 .sub 42 45,
 u1 47 (.idxArr 6 1) [.tm 11,.cn (.int .i64 0)],
 Zs 1 47 46]
 (ZR [Zt 49 6 11,
 Zm 50 6,
 Zd 51 105 49 50,
 Zm 48 51,
 Ze 52 0 48,
 Ze 53 1 48,
 u1 13 (.alloc [(.int .i64 0),(.int .i64 0),(.int .i64 0),(.int .i64 0),(.int .i64 0),(.int .i64 0),(.int .i64 0)]) [],
 Zs 7 13 52,
 Zm 7 53]
 (.seq (ZR [Zm 54 7,
 Zq 55 .neq 54 0]
 (ZC 55 (ZR [Zt 56 7 13,
 Zm 57 7,
 Zs 7 2 56,
 Zi 3 0,
 Zm 4 57]
 .ret)
  .skip))
 (ZR [Zt 58 7 13,
 Zm 59 8,
 Zs 7 2 58,
 Zm 3 59,
 Zi 4 0]
 .ret))))))))))}
theorem YrA:Yn Yb Tryz.f100=some YdM:=by kernel_rfl
def v63:VF:=⟨14,[.cell 4 true 7],(ZR [u1 4 (.alloc [(.int .i64 0),(.int .i64 0),(.int .i64 0),(.int .i64 0),(.int .i64 0),(.int .i64 0),(.int .i64 0)]) []] (ZR [Zm 8 0,Zm 9 1,Zd 10 68 8 9,Zm 7 10,Ze 11 0 7,Ze 12 1 7,u1 5 (.alloc [(.int .i64 0),(.int .i64 0),(.int .i64 0),(.int .i64 0),(.int .i64 0),(.int .i64 0),(.int .i64 0)]) [],Zs 7 5 11,Zm 6 12] (ZR [Zt 13 7 5,Zs 7 4 13] .ret)))⟩
theorem Ytf:Yn Yb Tryz.f63=some v63:=by kernel_rfl
def v64:VF:=⟨14,[.cell 4 true 7],(ZR [u1 2 .box [.tm 0],u1 3 .box [.tm 1],u1 4 (.alloc [(.int .i64 0),(.int .i64 0),(.int .i64 0),(.int .i64 0),(.int .i64 0),(.int .i64 0),(.int .i64 0)]) []] (ZR [Zt 8 7 2,Zt 9 7 3,Zd 10 70 8 9,Zm 7 10,Ze 11 0 7,Ze 12 1 7,u1 5 (.alloc [(.int .i64 0),(.int .i64 0),(.int .i64 0),(.int .i64 0),(.int .i64 0),(.int .i64 0),(.int .i64 0)]) [],Zs 7 5 11,Zm 6 12] (ZR [Zt 13 7 5,Zs 7 4 13] .ret)))⟩
theorem Ytg:Yn Yb Tryz.f64=some v64:=by kernel_rfl
def v65:VF:=⟨14,[.cell 4 true 7],(ZR [u1 2 .box [.tm 0],u1 3 .box [.tm 1],u1 4 (.alloc [(.int .i64 0),(.int .i64 0),(.int .i64 0),(.int .i64 0),(.int .i64 0),(.int .i64 0),(.int .i64 0)]) []] (ZR [Zt 8 7 2,Zt 9 7 3,Zd 10 67 8 9,Zm 7 10,Ze 11 0 7,Ze 12 1 7,u1 5 (.alloc [(.int .i64 0),(.int .i64 0),(.int .i64 0),(.int .i64 0),(.int .i64 0),(.int .i64 0),(.int .i64 0)]) [],Zs 7 5 11,Zm 6 12] (ZR [Zt 13 7 5,Zs 7 4 13] .ret)))⟩
theorem Yth:Yn Yb Tryz.f65=some v65:=by kernel_rfl
def v66:VF:=⟨13,[.cell 2 true 7],(ZR [u1 1 .box [.tm 0],u1 2 (.alloc [(.int .i64 0),(.int .i64 0),(.int .i64 0),(.int .i64 0),(.int .i64 0),(.int .i64 0),(.int .i64 0)]) []] (ZR [Zt 7 7 1,Zc 8 100 7,Zm 6 8,Ze 9 0 6,Ze 10 1 6,Ze 11 2 6,u1 3 (.alloc [(.int .i64 0),(.int .i64 0),(.int .i64 0),(.int .i64 0),(.int .i64 0),(.int .i64 0),(.int .i64 0)]) [],Zs 7 3 9,Zm 4 10,Zm 5 11] (ZR [Zt 12 7 3,Zs 7 2 12] .ret)))⟩
theorem Yti:Yn Yb Tryz.f66=some v66:=by kernel_rfl
def v99:VF:=⟨7,[.cell 2 true 7],(ZR [u1 1 .box [.tm 0],u1 2 (.alloc [(.int .i64 0),(.int .i64 0),(.int .i64 0),(.int .i64 0),(.int .i64 0),(.int .i64 0),(.int .i64 0)]) []] (.seq (ZR [Za 3 1 1,Zf 4 1 3] (ZC 4 (ZR [u1 5 (.call 63) [.cn (.int .i64 81),.cn (.int .i64 80)],Zs 7 2 5] .ret) .skip)) (ZR [u1 6 (.call 63) [.cn (.int .i64 531441),.cn (.int .i64 524288)],Zs 7 2 6] .ret)))⟩
theorem YtO:Yn Yb Tryz.f99=some v99:=by kernel_rfl
structure NU (r:Rt):Prop where
 ok:YY r=0
 dec:∀m:Int, -1000000000000<=m->m<=1000000000001->Dec (atG (Ys r) r.n m)
 ends:Q.EE (Ys r) r.n (-1000000000000)/\¬Q.EE (Ys r) r.n 1000000000001
 k1:Q.EE (Ys r) r.n (JG (Ys r) r.n 1).1
 k2:¬Q.EE (Ys r) r.n ((JG (Ys r) r.n 1).1+1)
def rfoldC:Ctr:={ alias:=false,of:=fun l=>match l with
 | [.agg [.int .i64 a,.int .i64 b,.int .i64 c,.int .i64 d,.int .i64 e,.int .i64 f,.int .i64 n]]=> .pre (NU ⟨a,b,c,d,e,f,n⟩) (.fin (.tup [.agg (Yp (Jy ⟨a,b,c,d,e,f,n⟩).1),.int .i64 (Jy ⟨a,b,c,d,e,f,n⟩).2.1,.int .i64 (Jy ⟨a,b,c,d,e,f,n⟩).2.2]) [])
 |_=>noC}
def UF0:Env:={ ct:=fun n=>match n with|71=>some rtrmC|33=>some Q.rflrC|105=>some madeC|_=>none,fn:=fun _=>none,meth:=fun _ _=>none}
theorem Yg7:UF0.ct 71=some rtrmC:=rfl
theorem Yg6:UF0.ct 33=some Q.rflrC:=rfl
theorem CX:UF0.ct 105=some madeC:=rfl
theorem Yg8:YE Yb UF0:=by
 refine⟨fun f c h=>?_,fun f vf h=>?_,(fun _ _ _ h=>by cases h),by kernel_rfl,(fun _ h=>by cases h)⟩
 ·simp only[UF0]at h
  split at h
  ·cases h;exact⟨YcK,_,Tryz.func71,rfl,rfl⟩
  ·cases h;exact⟨Q.rflr_ok,_,Tryz.func33,rfl,rfl⟩
  ·cases h;exact⟨YcD,_,Tryz.func105,rfl,rfl⟩
  ·cases h
 ·cases h
theorem YcN(l:List (Int×Int)):l.map (Qp 1)=l:=by
 have:Qp 1=id:=by funext x;unfold Qp;simp
 rw[this,List.map_id]
theorem Ca{r:Rt}(h:YY r=0):∀x,x∈Ys r->Xa x=false/\okU x:=by
 obtain⟨_,h1,h2,h3,h4,h5,h6,_⟩:=WY h
 have key:∀p n:Int,2<=p/\p<=13->KW n=false->∀x,x∈tm1 p n->Xa x=false/\okU x:=fun p n hp hn x hx=>by
  have hb:=QQ hn
  unfold tm1 at hx
  split at hx
  ·cases hx
  ·rw[JD]at hx
   subst hx
   simp only[Xa,okU,JH,decide_eq_false_iff_not]
   omega
 intro x hx
 simp only[Ys,KE]at hx
 rcases hx with hx|hx|hx|hx|hx|hx
 ·exact key _ _ (by decide) h1 x hx
 ·exact key _ _ (by decide) h2 x hx
 ·exact key _ _ (by decide) h3 x hx
 ·exact key _ _ (by decide) h4 x hx
 ·exact key _ _ (by decide) h5 x hx
 ·exact key _ _ (by decide) h6 x hx
theorem Ak{a b d q:Nat}(hq:q<6):leL a b (XR d (YR 1 (YK (q*1) [SV.int IntKind.i64 2,SV.int IntKind.i64 3,SV.int IntKind.i64 5,SV.int IntKind.i64 7,SV.int IntKind.i64 11,SV.int IntKind.i64 13]))) (XR d (YR 1 (YK (q*1) [SV.int IntKind.i64 2,SV.int IntKind.i64 3,SV.int IntKind.i64 5,SV.int IntKind.i64 7,SV.int IntKind.i64 11,SV.int IntKind.i64 13]))):=by
 rcases six hq with rfl|rfl|rfl|rfl|rfl|rfl <;> exact⟨⟨rfl,rfl⟩,trivial⟩
theorem Yqc:rfoldC.ok Yb 100:=by
 refine Yv Tryz.func100 YrA Yg8 500 rfoldC fun args k h=>?_
 simp only[rfoldC]at h
 split at h
 ·rename_i a b c d e f n
  refine⟨[.agg [.int .i64 a,.int .i64 b,.int .i64 c,.int .i64 d,.int .i64 e,.int .i64 f,.int .i64 n]],by simp [leL,le],?_⟩
  obtain⟨r,hr⟩:∃r:Rt,r=⟨a,b,c,d,e,f,n⟩:=⟨_,rfl⟩
  rw[<-hr]at h
  rw[show a=r.a by rw[hr],show b=r.b by rw[hr],show c=r.c by rw[hr],show d=r.d by rw[hr],show e=r.e by rw[hr],show f=r.f by rw[hr],show n=r.n by rw[hr]]
  clear hr
  obtain⟨hF,h⟩:=h
  have h:k (.tup [.agg (Yp (Jy r).1),.int .i64 (Jy r).2.1,.int .i64 (Jy r).2.2]) []:=h
  have hc:=hF.ok
  rw[Jy,if_neg (by rw[hc];decide)]at h
  have hk:=Ok (Ys r) r.n 1
  have hn:=ZU hc
  have ha:=Z2 hc (i:=0) (by decide)
  simp only[Rt.num]at ha
  have hlen:=V0 r
  have hm:=Js (x:=(JG (Ys r) r.n 1).1) (y:=r.n) (X:=1000000000000) (Y:=1000) hk (by omega)
  dsimp only[YdM,Yg7,Yg6,CX,rtrmC,Aj,Q.rflrC,madeC,Yp,YA,Z3,go_sem,reduceIte,Ya]
  simp only[Yd,Ya,Ye,reduceCtorEq,Yc]
  obtain⟨K,hK⟩:∃K,K=(JG (Ys r) r.n 1).1:=⟨_,rfl⟩
  have hF1:=hF.k1
  have hF2:=hF.k2
  rw[<-hK]at h hk hm hF1 hF2
  refine⟨hc,fun y=>⟨by decide,by decide,by decide,fun hh=>absurd trivial hh,Ys r,K,⟨⟨rfl,rfl,fun q _=>Y1 _⟩,fun x hx=>(Ca hc x hx).1,by omega,hn,by decide,?_⟩,by decide,by decide,by decide,?_⟩⟩
  ·rw[YcN]
   exact⟨fun x hx=>(Ca hc x hx).2,hF.dec,hF.ends,hF1,hF2⟩
  refine Loop.keep [1,0,3,1,2] Nat (fun i=>[(12,.int .i64 i)]) (fun i=>[(5,.own false 1 6 (fun k=>[.int .i64 (ZZ r.num i k)]))]) [] (fun i=>i<=6) (fun i=>6-i) ?_ ?_
  ·refine⟨0,by omega,?_⟩
   dsimp only[go_sem,reduceIte,Ya]
   simp only[Yf]
   refine⟨by decide,fun q hq=>Ak hq,fun q hq=>?_⟩
   rw[NT hq]
   exact⟨⟨rfl,rfl⟩,trivial⟩
  ·rintro i hi
   dsimp only[CX,madeC,Yh,go_sem,reduceIte,Ya]
   simp only[Yd,Ya,Ye,reduceCtorEq,Yc]
   refine⟨fun hlt=>?_,fun hge=>?_⟩
   ·have hi6:i<6:=by omega
    have d1:=Ug r hi6
    simp only[Uh r hi6,Yh,go_sem,reduceIte,Ya]
    simp only[Yd,Ya,Ye,reduceCtorEq,Yc]
    rw[Yg ((i:Int)+1) (by omega)]
    refine⟨⟨by omega,by omega⟩,d1,⟨by omega,by omega⟩,hi6,i+1,by omega,by omega,?_⟩
    simp only[Yf]
    refine⟨by simp,fun q hq=>Ak hq,fun q hq=>?_⟩
    rw[<-M6]
    split
    ·exact⟨⟨rfl,rfl⟩,trivial⟩
    ·exact⟨⟨rfl,rfl⟩,trivial⟩
   ·obtain rfl:i=6:=by omega
    simp only[Int.toNat_zero,if_true,Nat.one_ne_zero,Yc,if_false,M7,M8,M9,Na,Nb,Nc,Rt.num]
    rw[Yg (K*r.n) (by omega),Yg (r.a-K*r.n) (by omega)]
    dsimp only[CX,madeC,Yp,ZH,Vr,go_sem,reduceIte,Ya]
    simp only[Yd,Ya,Ye,reduceCtorEq,Yc]
    have hmz:∀x:Rt,¬(Jr x).2=0->(Jr x).1=KT:=fun x hx=>by
     unfold Jr at hx⊢
     split
     ·rename_i hh;rw[if_pos hh]at hx;exact absurd rfl hx
     ·rfl
    refine⟨by decide,by decide,by decide,by decide,⟨by omega,by omega,fun i hi=>?_⟩,by decide,by decide,fun he=>?_,fun he=>?_⟩
    ·have:=Z2 hc hi
     rcases six hi with rfl|rfl|rfl|rfl|rfl|rfl <;> (simp only[Rt.num]at this⊢;omega)
    ·have he:¬(Jr (WK r K)).2=0:=he
     rw[if_pos he]at h
     have e1:=hmz _ he
     show Jv rfoldC.alias k (SV.tup [SV.agg (Yp (Jr (WK r K)).1),SV.int IntKind.i64 0,SV.int IntKind.i64 (Jr (WK r K)).2]) _
     rw[e1]
     exact FZ (r:=KT) h
    ·have he:(Jr (WK r K)).2=0:=he
     rw[if_neg (fun hh=>hh he)]at h
     exact FZ (r:=(Jr (WK r K)).1) h
 ·exact h.1.elim
def rfolC:Ctr:={ alias:=false,of:=fun l=>match l with
 | [.agg [.int .i64 a,.int .i64 b,.int .i64 c,.int .i64 d,.int .i64 e,.int .i64 f,.int .i64 n]]=> .pre (NU ⟨a,b,c,d,e,f,n⟩) (.fin (.agg (Yp (Jy ⟨a,b,c,d,e,f,n⟩).1)) [])
 |_=>noC}
def rratC:Ctr:={ alias:=false,of:=fun l=>match l with
 | [.int .i64 a,.int .i64 b]=> .pre ((ofL a b 6).1=1/\(ofL a b 6).2.1=1/\YG a.toNat b.toNat=1/\X2 a b=false) (.fin (.agg (Yp (KP a b).1)) [])
 |_=>noC}
def VV:Ctr:=Ji 1
def VW:Ctr:=Ji (-1)
def UF1:Env:={ ct:=fun n=>match n with|68=>some rofC|70=>some VV|67=>some VW|100=>some rfoldC|_=>none,fn:=fun _=>none,meth:=fun _ _=>none}
theorem Dd:UF1.ct 68=some rofC:=rfl
theorem De:UF1.ct 70=some VV:=rfl
theorem Dc:UF1.ct 67=some VW:=rfl
theorem Db:UF1.ct 100=some rfoldC:=rfl
theorem Df:YE Yb UF1:=by
 refine⟨fun f c h=>?_,fun f vf h=>?_,(fun _ _ _ h=>by cases h),by kernel_rfl,(fun _ h=>by cases h)⟩
 ·simp only[UF1]at h
  split at h
  ·cases h;exact⟨YcF,_,Tryz.func68,rfl,rfl⟩
  ·cases h;exact⟨Ycd,_,Tryz.func70,rfl,rfl⟩
  ·cases h;exact⟨Ycc,_,Tryz.func67,rfl,rfl⟩
  ·cases h;exact⟨Yqc,_,Tryz.func100,rfl,rfl⟩
  ·cases h
 ·cases h
theorem PX:rratC.ok Yb 63:=by
 refine Yv Tryz.func63 Ytf Df 300 rratC fun args k h=>?_
 simp only[rratC]at h
 split at h
 ·rename_i a b
  obtain⟨hp,h⟩:=h
  refine⟨[.int .i64 a,.int .i64 b],by simp [leL,le],?_⟩
  dsimp only[v63,Dd,De,Dc,Db,rofC,VV,VW,Ji,rfoldC,Yp,go_sem,reduceIte,Ya]
  simp only[Yd,Ya,Ye,reduceCtorEq,Yc]
  exact⟨hp,by decide,by decide,Vu (r:=(KP a b).1) h⟩
 ·exact h.1.elim
theorem Yqb:rfolC.ok Yb 66:=by
 refine Yv Tryz.func66 Yti Df 300 rfolC fun args k h=>?_
 simp only[rfolC]at h
 split at h
 ·rename_i a b c d e f n
  obtain⟨hp,h⟩:=h
  refine⟨[.agg [.int .i64 a,.int .i64 b,.int .i64 c,.int .i64 d,.int .i64 e,.int .i64 f,.int .i64 n]],by simp [leL,le],?_⟩
  dsimp only[v66,Dd,De,Dc,Db,rofC,VV,VW,Ji,rfoldC,Yp,go_sem,reduceIte,Ya]
  simp only[Yd,Ya,Ye,reduceCtorEq,Yc]
  exact⟨hp,by decide,by decide,by decide,Vu (r:=(Jy ⟨a,b,c,d,e,f,n⟩).1) h⟩
 ·exact h.1.elim
theorem Yqq:(m2C 1).ok Yb 64:=by
 refine Yv Tryz.func64 Ytg Df 300 (m2C 1) fun args k h=>?_
 simp only[m2C]at h
 split at h
 ·rename_i a b c d e f n a' b' c' d' e' f' n'
  refine⟨[.agg [.int .i64 a,.int .i64 b,.int .i64 c,.int .i64 d,.int .i64 e,.int .i64 f,.int .i64 n],.agg [.int .i64 a',.int .i64 b',.int .i64 c',.int .i64 d',.int .i64 e',.int .i64 f',.int .i64 n']],by simp [leL,le],?_⟩
  dsimp only[v64,Dd,De,Dc,Db,rofC,VV,VW,Ji,rfoldC,Yp,go_sem,reduceIte,Ya]
  simp only[Yd,Ya,Ye,reduceCtorEq,Yc]
  exact⟨by decide,by decide,Vu (r:=(KG ⟨a,b,c,d,e,f,n⟩ ⟨a',b',c',d',e',f',n'⟩ 1).1) h⟩
 ·exact h.1.elim
theorem YcG:(m2C (-1)).ok Yb 65:=by
 refine Yv Tryz.func65 Yth Df 300 (m2C (-1)) fun args k h=>?_
 simp only[m2C]at h
 split at h
 ·rename_i a b c d e f n a' b' c' d' e' f' n'
  refine⟨[.agg [.int .i64 a,.int .i64 b,.int .i64 c,.int .i64 d,.int .i64 e,.int .i64 f,.int .i64 n],.agg [.int .i64 a',.int .i64 b',.int .i64 c',.int .i64 d',.int .i64 e',.int .i64 f',.int .i64 n']],by simp [leL,le],?_⟩
  dsimp only[v65,Dd,De,Dc,Db,rofC,VV,VW,Ji,rfoldC,Yp,go_sem,reduceIte,Ya]
  simp only[Yd,Ya,Ye,reduceCtorEq,Yc]
  exact⟨by decide,by decide,Vu (r:=(KG ⟨a,b,c,d,e,f,n⟩ ⟨a',b',c',d',e',f',n'⟩ (-1)).1) h⟩
 ·exact h.1.elim
theorem OE(k n a b c:Nat):((((k*n).gcd (k*a)).gcd (k*b)).gcd (k*c))=k*(((n.gcd a).gcd b).gcd c):=by
 rw[Nat.gcd_mul_left,Nat.gcd_mul_left,Nat.gcd_mul_left]
theorem PO{L:Int}{r:Rt}{a b c:Int}(h:Rep L r a b c):(((r.n.toNat.gcd r.a.natAbs).gcd r.b.natAbs).gcd r.c.natAbs)=1:=by
 obtain⟨hn,_,_,_,_,_,_,hg⟩:=WY h.ok
 have e:JR r=(((r.n.toNat.gcd r.a.natAbs).gcd r.b.natAbs).gcd r.c.natAbs):=by
  rw[JR,h.hd,h.he,h.hf];simp
 have hp:=HU hn.1 6
 rw[Um]at hp
 rw[<-e];omega
theorem Ycx{L:Int}(hL:1<=L){r r':Rt}{a b c:Int}(h:Rep L r a b c)(h':Rep L r' a b c):r.n.toNat∣r'.n.toNat:=by
 have hn:=h.n_rng
 have hn':=h'.n_rng
 have key:∀{x x' y:Int},x*L=y*r.n->x'*L=y*r'.n->r.n.toNat∣r'.n.toNat*x.natAbs:=fun {x x' y} e1 e2=>by
  have e3:x*r'.n=x'*r.n:=by
   have:(x*r'.n)*L=(x'*r.n)*L:=by
    have a1:(x*r'.n)*L=(x*L)*r'.n:=by grind
    have a2:(x'*r.n)*L=(x'*L)*r.n:=by grind
    rw[a1,a2,e1,e2];grind
   exact Int.eq_of_mul_eq_mul_right (by omega) this
  have e4:x.natAbs*r'.n.natAbs=x'.natAbs*r.n.natAbs:=by rw[<-Int.natAbs_mul,e3,Int.natAbs_mul]
  have e5:r.n.natAbs=r.n.toNat:=by omega
  have e6:r'.n.natAbs=r'.n.toNat:=by omega
  rw[e5,e6]at e4
  rw[Yk,e4]
  exact Nat.dvd_mul_left ..
 have g:=OE r'.n.toNat r.n.toNat r.a.natAbs r.b.natAbs r.c.natAbs
 rw[PO h,Kb]at g
 rw[<-g]
 exact Nat.dvd_gcd (Nat.dvd_gcd (Nat.dvd_gcd (Nat.dvd_mul_left ..) (key h.ha h'.ha)) (key h.hb h'.hb)) (key h.hc h'.hc)
theorem Ycy{L:Int}(hL:1<=L){r r':Rt}{a b c:Int}(h:Rep L r a b c)(h':Rep L r' a b c):r=r':=by
 have hn:=h.n_rng
 have hn':=h'.n_rng
 have e:r.n.toNat=r'.n.toNat:=Nat.dvd_antisymm (Ycx hL h h') (Ycx hL h' h)
 have en:r.n=r'.n:=by omega
 have ea:r.a=r'.a:=Int.eq_of_mul_eq_mul_right (show L≠0 by omega) (by rw[h.ha,h'.ha,en])
 have eb:r.b=r'.b:=Int.eq_of_mul_eq_mul_right (show L≠0 by omega) (by rw[h.hb,h'.hb,en])
 have ec:r.c=r'.c:=Int.eq_of_mul_eq_mul_right (show L≠0 by omega) (by rw[h.hc,h'.hc,en])
 have hd:=h.hd
 have hd':=h'.hd
 have he:=h.he
 have he':=h'.he
 have hf:=h.hf
 have hf':=h'.hf
 cases r
 cases r'
 simp only at*
 subst hd hd' he he' hf hf' en ea eb ec
 rfl
theorem SU{E:Nat}(hE:600000<=E){x y z:Int}(hx:x<=100000)(hy:y<=100000)(hz:z<=100000):UP x y z<=2^E:=by
 have h3:3^y.toNat<=2^(2*y.toNat):=by
  rw[Yl];exact YM (by decide) _
 have h5:5^z.toNat<=2^(3*z.toNat):=by
  rw[Yl];exact YM (by decide) _
 unfold UP
 refine Yj (YP (YP (Yr _) h3) h5) ?_
 rw[<-Yo,<-Yo]
 exact Kl (by decide) (by omega)
theorem Yp8{L n m:Nat}{xa xb xc X t p1 p2 p3:Int}(ha:xa*L=(L*X-m*p1)*n)(hb:xb*L=(L*t-m*p2)*n)(hc:xc*L=(-(m*p3))*n):
 LB.Rat4 (UP xa xb xc^L) (UP (-xa) (-xb) (-xc)^L) ((UP X t 0^L*UP (-p1) (-p2) (-p3)^m)^n) ((UP (-X) (-t) 0^L*UP p1 p2 p3^m)^n):=by
 have a:(L:Int)*xa=n*(L*X-m*p1):=by rw[KA,ha,KA]
 have b:(L:Int)*xb=n*(L*t-m*p2):=by rw[KA,hb,KA]
 have c:(L:Int)*xc=n*(-(m*p3)):=by rw[KA,hc,KA]
 have e1:UP xa xb xc^L=UP (L*X-m*p1) (L*t-m*p2) (-(m*p3))^n:=by rw[<-Qw,<-Qw,a,b,c]
 have e2:UP (-xa) (-xb) (-xc)^L=UP (-(L*X-m*p1)) (-(L*t-m*p2)) (- -(m*p3))^n:=by
  have n1:(L:Int)* -xa=n* -(L*X-m*p1):=by rw[KC,a,KC]
  have n2:(L:Int)* -xb=n* -(L*t-m*p2):=by rw[KC,b,KC]
  have n3:(L:Int)* -xc=n* - -(m*p3):=by rw[KC,c,KC (n:Int) (-(m*p3))]
  rw[<-Qw,<-Qw,n1,n2,n3]
 rw[e1,e2]
 exact(LB.rat_comma rfl rfl rfl).pow n
theorem Ob{X t:Int}(ht: -11<=t/\t<=11){K:Nat}(hK:K<=4)(h:UP X t 0<=UP (-X) (-t) 0*K):UP X t 0<=1048576:=by
 have h3:∀n:Nat,n<=11->3^n<=177147:=fun n hn=>by
  have h:3^n<=3^11:=Kl (by decide) hn
  have e:(3:Nat)^11=177147:=rfl
  omega
 by_cases hX:0<=X
 ·have e:UP (-X) (-t) 0=3^(-t).toNat:=by
   unfold UP
   rw[show(-X).toNat=0 by omega]
   simp
  rw[e]at h
  have h4:=h3 (-t).toNat (by omega)
  have h5:=YP h4 hK
  omega
 ·have e:UP X t 0=3^t.toNat:=by
   unfold UP
   rw[show X.toNat=0 by omega]
   simp
  rw[e]
  have h4:=h3 t.toNat (by omega)
  omega
theorem YpW{U D x y:Nat}(h:LB.Rat4 U D x y):LB.Rat4 D U y x:=by
 unfold LB.Rat4 at*
 exact h.symm
theorem YaX{L n m u v c1 c2 U D:Nat}(hL:1<=L)(hn:1<=n)(hm:m<=22*L)(hc1:0<c1)(hc2:0<c2)(g:c1^44<=2*c2^44)(hR:LB.Rat4 (U^L) (D^L) ((u^L*c2^m)^n) ((v^L*c1^m)^n))(hD:0<D)(h:U<=D*2^n):u<=v*4:=by
 have h1:=YM h L
 rw[Yt,<-Yl]at h1
 have h2:=PK hR (YD hD) h1
 have h3:(u^L*c2^m)^n<=(v^L*c1^m*2^L)^n:=by
  rw[Yt _ (2^L),<-Yl,Yk L n];exact h2
 have h4:=(XY (show n≠0 by omega)).1 h3
 have h5:=Pz (m:=m) (L:=L) (e:=1) (f:=1) g hm (by decide)
 rw[Kc,Kc]at h5
 have h6:=Yz (v^L*2^L) h5
 have h7:u^L*c2^m<=(v*4)^L*c2^m:=by
  refine Yj h4 (Yj (YB ?_) (Yj h6 (YB ?_)))
  ·ac_rfl
  ·rw[Yt v 4,show(4:Nat)=2*2 from rfl,Yt 2 2]
   ac_rfl
 exact(XY (show L≠0 by omega)).1 (Kr h7 (YD hc2))
theorem Yj7{L m:Nat}{r:Rt}{X t p1 p2 p3:Int}(C:Com p1 p2 p3)(hL:1<=L/\L<=120)(hm:m<=22*L)(ht: -11<=t/\t<=11)(hr:Rep L r (L*X-m*p1) (L*t-m*p2) (-(m*p3))){k:Int}(hk: -1000000000000<=k/\k<=1000000000001):Dec (atG (Ys r) r.n k):=by
 have hn:=hr.n_rng
 obtain⟨n,hnn⟩:∃n:Nat,r.n=n:=⟨r.n.toNat,by omega⟩
 have hok:∀x,x∈atG (Ys r) r.n k->okU x:=Q.atG_okU (fun x hx=>(Ca hr.ok x hx).2) (by omega) hn
 obtain⟨tu,td⟩:=NG hr
 have eP:upP (atG (Ys r) r.n k)=UP r.a r.b r.c*UP (-k*r.n) 0 0/\dnP (atG (Ys r) r.n k)=UP (-r.a) (-r.b) (-r.c)*UP (-(-k*r.n)) 0 0:=by
  unfold atG
  rw[(UA _ _).1,(UA _ _).2,tu,td]
  exact⟨rfl,rfl⟩
 have hadd:=GM r.a r.b r.c (-k*r.n) 0 0
 rw[Z7,Z7,Int.neg_zero,<-eP.1,<-eP.2]at hadd
 have hS:upS wQ (atG (Ys r) r.n k)+dnS wQ (atG (Ys r) r.n k)<=200000:=by
  unfold atG
  rw[(QA wQ _ _).1,(QA wQ _ _).2]
  have:=Ydx (w:=wQ) YeG (YB YeH) (YB YeI) hr
  have e0:upS wQ [(2, -k*r.n)]+dnS wQ [(2, -k*r.n)]=0:=by
   unfold upS dnS upS dnS
   have:wQ (2:Int).toNat=0:=rfl
   simp only[this,JX,ite_self]
  omega
 obtain⟨p1',p2'⟩:=NY _ hok
 obtain⟨U,hU⟩:∃U,U=upP (atG (Ys r) r.n k):=⟨_,rfl⟩
 obtain⟨D,hD⟩:∃D,D=dnP (atG (Ys r) r.n k):=⟨_,rfl⟩
 rw[<-hU,<-hD]at hadd
 rw[<-hU]at p1'
 rw[<-hD]at p2'
 have hbig:200000<n*LB.ePt 300:=by
  have h:LB.ePt 20<=LB.ePt 300:=LB.ePt_le (by decide)
  have h20:LB.ePt 20=1048576:=rfl
  have:=V6 (LB.ePt 300) (show 0<n by omega)
  omega
 by_cases c1:U<=D*2^n
 ·by_cases c2:D<=U*2^n
  ·refine Iw (n:=n) rfl hok ?_ (by omega)
   rw[<-hU,<-hD]
   have hRr:=Yp8 (L:=L) (n:=n) (m:=m) (xa:=r.a+ -k*r.n) (xb:=r.b) (xc:=r.c) (X:=X-k) (t:=t) (p1:=p1) (p2:=p2) (p3:=p3) (by have:=hr.ha;rw[hnn]at this⊢;grind) (by have:=hr.hb;rw[hnn]at this;exact this) (by have:=hr.hc;rw[hnn]at this;exact this)
   have hR0:LB.Rat4 U D (UP (r.a+ -k*r.n) r.b r.c) (UP (-(r.a+ -k*r.n)) (-r.b) (-r.c)):=by
    unfold LB.Rat4
    rw[Yk U,Yk D]
    exact hadd.symm
   have hR:=(hR0.pow L).trans (YD (KM ..)) hRr
   have q1:=KM p1 p2 p3
   have q2:=KM (-p1) (-p2) (-p3)
   have k1:=YaX hL.1 (by omega) hm q1 q2 C.g1 hR p2' c1
   have k2:=YaX hL.1 (by omega) hm q2 q1 C.g2 (YpW hR) p1' c2
   have f1:=Ob ht (Yr 4) k1
   have f2:=Ob (X:= -(X-k)) (t:= -t) (by omega) (Yr 4) (by rw[JW,JW];exact k2)
   have hV:1048576<=LB.pV:=KI (by decide+kernel)
   exact LB.sep_tab C.tab q1 q2 hL (show m<=44*L by omega) ⟨KM ..,by omega⟩ ⟨KM ..,by omega⟩ hR
  ·exact ES (m:=n) hok (Jo (by rw[<-hU,<-hD];omega)) (by omega)
 ·exact ES (m:=n) hok (KV (by rw[<-hU,<-hD];omega)) (by omega)
theorem Yj8{L m:Nat}{r:Rt}{X t p1 p2 p3:Int}(C:Com p1 p2 p3)(hL:1<=L/\L<=120)(hm:m<=22*L)(ht: -11<=t/\t<=11)(hr:Rep L r (L*X-m*p1) (L*t-m*p2) (-(m*p3))):NU r:=by
 have hn:=hr.n_rng
 have hdec:=fun k h1 h2=>Yj7 C hL hm ht hr (k:=k) ⟨h1,h2⟩
 obtain⟨tu,td⟩:=NG hr
 have eP:∀k:Int,upP (atG (Ys r) r.n k)=UP r.a r.b r.c*UP (-k*r.n) 0 0/\dnP (atG (Ys r) r.n k)=UP (-r.a) (-r.b) (-r.c)*UP (-(-k*r.n)) 0 0:=fun k=>by
  unfold atG
  rw[(UA _ _).1,(UA _ _).2,tu,td]
  exact⟨rfl,rfl⟩
 obtain⟨_,b1,b2,b3,_⟩:=WY hr.ok
 have b1:=QQ b1
 have b2:=QQ b2
 have b3:=QQ b3
 obtain⟨E,hE⟩:∃E:Nat,E=600000:=⟨_,rfl⟩
 have u1:=SU (E:=E) (by omega) (x:=r.a) (y:=r.b) (z:=r.c) (by omega) (by omega) (by omega)
 have u2:=SU (E:=E) (by omega) (x:= -r.a) (y:= -r.b) (z:= -r.c) (by omega) (by omega) (by omega)
 have p1':=KM r.a r.b r.c
 have p2':=KM (-r.a) (-r.b) (-r.c)
 have lo:Q.EE (Ys r) r.n (-1000000000000):=by
  unfold Q.EE
  rw[(eP _).1,(eP _).2]
  obtain⟨N,hN⟩:∃N:Nat, - -1000000000000*r.n=N:=⟨(- -1000000000000*r.n).toNat,by omega⟩
  rw[hN,(UJ N).1,(UJ N).2,Kb]
  have h1:2^E<=2^N:=Kl (by decide) (by omega)
  exact Yj u2 (Yj h1 (V6 _ p1'))
 have hi:¬Q.EE (Ys r) r.n 1000000000001:=by
  unfold Q.EE
  rw[(eP _).1,(eP _).2]
  obtain⟨N,hN⟩:∃N:Nat, -1000000000001*r.n= -(N:Int):=⟨(1000000000001*r.n).toNat,by omega⟩
  rw[hN,(UJ N).2,JW,(UJ N).1,Kb]
  have h1:2^E<2^N:=(Nat.pow_lt_pow_iff_right (by decide)).2 (by omega)
  have h2:=V6 (2^N) p2'
  exact fun hh=>absurd (Qf h1 h2) (Nat.not_lt.2 (Yj hh u1))
 have hlen:∀k,(atG (Ys r) r.n k).length<=20:=fun k=>by
  have:=V0 r
  unfold atG
  rw[JI]
  simp
  omega
 have hG:∀k:Int, -1000000000000<=k->k<=1000000000001->(isG (Ys r) r.n k=true↔Q.EE (Ys r) r.n k):=fun k h1 h2=>by
  unfold isG Q.EE
  rw[decide_eq_true_eq]
  exact Yc8 (Q.atG_okU (fun x hx=>(Ca hr.ok x hx).2) (by omega) hn) (hlen k) (hdec k h1 h2)
 have t1:isG (Ys r) r.n 1000000000001=false:=by
  cases hh:isG (Ys r) r.n 1000000000001 with
  |false=>rfl
  |true=>exact absurd ((hG _ (by decide) (by decide)).1 hh) hi
 have t2:isG (Ys r) r.n (-1000000000000)=true:=(hG _ (by decide) (by decide)).2 lo
 have e1:(JG (Ys r) r.n 1).1=KQ 64 (isG (Ys r) r.n) (-1000000000000) 1000000000001:=by
  unfold JG
  have hb:GR r.n 1=false:=by
   simp only[GR,JH,decide_eq_false_iff_not];omega
  rw[if_neg (by rw[Ydy hr.ok];decide),if_neg (by rw[hb];decide),YcN]
  unfold G0
  rw[if_neg (by rw[t1,t2];decide)]
 obtain⟨s1,s2⟩:=Ez (t:=isG (Ys r) r.n) 64 (-1000000000000) 1000000000001 (by decide) (by decide)
 have s3:=Ey (t:=isG (Ys r) r.n) 64 (-1000000000000) 1000000000001 (by decide)
 rw[<-e1]at s1 s2 s3
 refine⟨hr.ok,hdec,⟨lo,hi⟩,?_,?_⟩
 ·rcases s1 with h|h
  ·rw[h];exact lo
  ·exact(hG _ (by omega) (by omega)).1 h
 ·rcases s2 with h|h
  ·rw[h];exact hi
  ·intro hh
   rw[(hG _ (by omega) (by omega)).2 hh]at h
   cases h
theorem Yp5{T:Tm}(h:Ki T=0){r:Rt}{X t w:Int}(hr:Rep (Lm T) r (Lm T*X-cA T*w) (Lm T*t-cB T*w) (-(cC T*w)))(hw: -(22*Lm T)<=w/\w<=22*Lm T):∃(L m:Nat) (p1 p2 p3:Int),Lm T=L/\(1<=L/\L<=120)/\m<=22*L/\Com p1 p2 p3/\Rep L r (L*X-m*p1) (L*t-m*p2) (-(m*p3)):=by
 have hL:=J9 h
 have hC:=Ii T
 obtain⟨L,hLe⟩:∃L:Nat,Lm T=L:=⟨(Lm T).toNat,by omega⟩
 rw[hLe]at hr hL hw
 rcases Int.le_total 0 w with h0|h0
 ·obtain⟨m,rfl⟩:∃m:Nat,w=m:=⟨w.toNat,by omega⟩
  refine⟨L,m,cA T,cB T,cC T,hLe,by omega,by omega,hC,?_⟩
  rw[KA (m:Int),KA (m:Int),KA (m:Int)];exact hr
 ·obtain⟨m,hm⟩:∃m:Nat,w= -m:=⟨(-w).toNat,by omega⟩
  subst hm
  have e:∀z:Int,z* -(m:Int)=m* -z:=fun z=>by rw[KC,KC,KA]
  rw[e,e,e]at hr
  exact⟨L,m, -cA T, -cB T, -cC T,hLe,by omega,by omega,hC.neg,hr⟩
theorem YbQ{T:Tm}(h:Ki T=0){j:Nat}(hj:j<12):NU (Jj T j).2:=by
 obtain⟨s1,s2⟩:=YqD h hj
 obtain⟨a1,a2,a3⟩:=P2 T j
 have hr:=(An h j (by omega)).cast a1 a2 a3
 obtain⟨L,m,p1,p2,p3,_,hL,hm,hC,hr⟩:=Yp5 h hr s2
 exact Yj8 hC hL hm s1 hr
def qL(T:Tm)(j:Nat):Nat->Rt
 |0=>(KP 128 1).1
 |d+1=>(KG (qL T j d) (X7 T (j+d)) (-1)).1
theorem Yb6{T:Tm}(h:Ki T=0){j:Nat}(hj:T.wolf<j):∀d,j+d<=12->Rep (Lm T) (qL T j d) (7*Lm T-(gA T (j+d)-gA T j)) (-(gB T (j+d)-gB T j)) (-(gC T (j+d)-gC T j))
 |0,_=>by
  rw[qL,Ybc]
  refine⟨by decide+kernel,?_,?_,?_,rfl,rfl,rfl⟩
  ·show 7*Lm T=(7*Lm T-(gA T (j+0)-gA T j))*1;rw[Kw];omega
  ·show 0*Lm T=(-(gB T (j+0)-gB T j))*1;rw[Kw];omega
  ·show 0*Lm T=(-(gC T (j+0)-gC T j))*1;rw[Kw];omega
 |d+1,hd=>by
  have ih:=Yb6 h hj d (by omega)
  have hL:=J9 h
  have hb:=UR h
  have bd:=BB h j (d+1) (by omega)
  have m1:=Wp (show 0<=39*Lm T by omega) (show d+1<=12 by omega)
  have m2:=Wp hb.1 (show d+1<=12 by omega)
  have m3:=Wp hb.2.2.1 (show d+1<=12 by omega)
  have w1:T.wolf<((j+d+1:Nat):Int):=by omega
  have w2:T.wolf<((j+d:Nat):Int):=by omega
  have f:=Of h (show j+d<12 by omega)
  have ea:sA T (j+d+1)-sA T (j+d)=gA T (j+d+1)-gA T (j+d):=by unfold sA;rw[if_pos w1,if_pos w2];omega
  have eb:sB T (j+d+1)-sB T (j+d)=gB T (j+d+1)-gB T (j+d):=by unfold sB;rw[if_pos w1,if_pos w2];omega
  have ec:sC T (j+d+1)-sC T (j+d)=gC T (j+d+1)-gC T (j+d):=by unfold sC;rw[if_pos w1,if_pos w2];omega
  rw[ea,eb,ec]at f
  rw[qL]
  rw[show j+(d+1)=j+d+1 by omega]at bd⊢
  have e1:7*Lm T-(gA T (j+d)-gA T j)+ -1*(gA T (j+d+1)-gA T (j+d))=7*Lm T-(gA T (j+d+1)-gA T j):=by omega
  have e2: -(gB T (j+d)-gB T j)+ -1*(gB T (j+d+1)-gB T (j+d))= -(gB T (j+d+1)-gB T j):=by omega
  have e3: -(gC T (j+d)-gC T j)+ -1*(gC T (j+d+1)-gC T (j+d))= -(gC T (j+d+1)-gC T j):=by omega
  have:=(G2 (s:= -1) (by omega) ih f (by rw[e1];unfold sm;omega) (by rw[e2];unfold sm;omega) (by rw[e3];unfold sm;omega)).2
  exact this.cast e1 e2 e3
theorem Yoh{T:Tm}(h:Ki T=0){j:Nat}(hj:T.wolf<j)(hj2:j<12):qL T j (12-j)=(Jj T j).2:=by
 have hL:=J9 h
 have a:=Yb6 h hj (12-j) (by omega)
 rw[show j+(12-j)=12 by omega]at a
 refine Ycy hL.1 a ((An h j (by omega)).cast ?_ ?_ ?_)
 ·unfold sA;rw[if_pos hj];omega
 ·unfold sB;rw[if_pos hj];omega
 ·unfold sC;rw[if_pos hj];omega
def v62:VF:=⟨59,[.tmp 2,.tmp 3],(ZR [u1 1 .box [.tm 0],u1 2 .mov [.cn .nil],Zi 3 0] (ZR [Zt 10 27 1,Zc 11 34 10,Zm 4 11] (.seq (ZR [Zm 12 4,Zq 13 .neq 12 0] (ZC 13 (ZR [Zm 14 4,u1 2 .mov [.cn .nil],Zm 3 14] .ret) .skip)) (ZR [u1 15 (.make 7 56 [(.int .i64 0),(.int .i64 0),(.int .i64 0),(.int .i64 0),(.int .i64 0),(.int .i64 0),(.int .i64 0)]) [.cn (.int .i64 12),.cn (.int .i64 12)],Zm 5 15] (ZR [u1 16 (.call 63) [.cn (.int .i64 128),.cn (.int .i64 1)],u1 6 (.alloc [(.int .i64 0),(.int .i64 0),(.int .i64 0),(.int .i64 0),(.int .i64 0),(.int .i64 0),(.int .i64 0)]) [],Zs 7 6 16] (.seq (ZR [Zi 7 0] (.block 0 (.loop (.seq (ZR [Zm 17 7,Zq 18 .lss 17 12] (ZC 18 .skip (.exit 0))) (.seq (.block 1 (.seq (ZR [Zm 21 7,Za 22 2 1,Zf 23 1 22,Zr 24 .eql 21 23] (ZC 24 (.exit 1) .skip)) (.seq (.draw [(8,.box [(.int .i64 0),(.int .i64 0),(.int .i64 0),(.int .i64 0),(.int .i64 0),(.int .i64 0),(.int .i64 0)])] [Zw 26 27 1,Zu 28 7,Zy 29 3 1,w1 30 (.idxArr 12 2) [.tm 29,.tm 28],Zy 31 0 30,Zv 32 1 31,Zu 33 7,Zy 34 3 1,w1 35 (.idxArr 12 2) [.tm 34,.tm 33],Zy 36 1 35,Zv 37 1 36,w1 27 (.call 99) [.tm 26],w1 38 (.call 69) [.tm 27,.tm 32,.tm 37],Zu 25 38,ZE 39 0 25,ZE 40 1 25,ZS 7 8 39,Zu 9 40]) (.seq (.draw [] [Zu 41 5,Zu 42 7,Zw 44 7 8,w1 43 (.call 63) [.cn (.int .i64 3),.cn (.int .i64 2)],Zz 45 65 43 44,ZX 46 7 41 42,ZS 7 46 45]) (.draw [] [Zw 47 7 6,Zu 48 5,Zu 49 7,ZX 50 7 48 49,Zw 51 7 50,Zz 52 65 47 51,ZS 7 6 52]))))) (.region [Zm 19 7,Zp 20 19 1,Zm 7 20])))))) (ZR [Zm 53 5,Za 54 2 1,Zf 55 1 54,Zt 56 7 6,Zx 57 7 53 55,Zs 7 57 56] (ZR [Zm 58 5,Zm 2 58,Zi 3 0] .ret))))))))⟩
theorem Yte:Yn Yb Tryz.f62=some v62:=by kernel_rfl
theorem Ynv:(ofL 81 80 6).1=1/\(ofL 81 80 6).2.1=1/\YG (81:Int).toNat (80:Int).toNat=1/\X2 81 80=false:=by decide+kernel
theorem Ynu:(ofL 531441 524288 6).1=1/\(ofL 531441 524288 6).2.1=1/\YG (531441:Int).toNat (524288:Int).toNat=1/\X2 531441 524288=false:=by decide+kernel
theorem Ynt:(ofL 3 2 6).1=1/\(ofL 3 2 6).2.1=1/\YG (3:Int).toNat (2:Int).toNat=1/\X2 3 2=false:=by decide+kernel
theorem Yba:(ofL 128 1 6).1=1/\(ofL 128 1 6).2.1=1/\YG (128:Int).toNat (1:Int).toNat=1/\X2 128 1=false:=by decide+kernel
theorem Ynr:(ofL 1 1 6).1=1/\(ofL 1 1 6).2.1=1/\YG (1:Int).toNat (1:Int).toNat=1/\X2 1 1=false:=by decide+kernel
theorem Yns:(ofL 2 1 6).1=1/\(ofL 2 1 6).2.1=1/\YG (2:Int).toNat (1:Int).toNat=1/\X2 2 1=false:=by decide+kernel
theorem A6(T:Tm):YR 1 (YK 1 (YW T))=[.bool T.syn]:=rfl
theorem GB(T:Tm):YR 1 (YK 2 (YW T))=[.int .i64 T.wolf]:=rfl
theorem BY(T:Tm):YH (YK 1 (YW T))=26:=rfl
theorem Gd(T:Tm):YH (YK 2 (YW T))=25:=rfl
theorem YjF(T:Tm){i:Nat}(h:i<12):YR 1 (YK (3+Kq (i:Int) 2+1) (YW T))=[.int .i64 (T.p i).2]:=by
 rcases V1 h with rfl|rfl|rfl|rfl|rfl|rfl|rfl|rfl|rfl|rfl|rfl|rfl <;> rfl
theorem YjG(T:Tm){i:Nat}(h:i<12):1<=YH (YK (3+Kq (i:Int) 2+1) (YW T)):=by
 rcases V1 h with rfl|rfl|rfl|rfl|rfl|rfl|rfl|rfl|rfl|rfl|rfl|rfl <;> exact KI rfl
def comC:Ctr:={ alias:=false,of:=fun l=>match l with
 | [.agg cs]=> .ex Tm fun T=> .pre (cs=YW T) (.fin (.agg (Yp (ZT T))) [])
 |_=>noC}
def UG0:Env:={ ct:=fun n=>match n with|63=>some rratC|_=>none,fn:=fun _=>none,meth:=fun _ _=>none}
theorem Yg9:UG0.ct 63=some rratC:=rfl
theorem Yha:YE Yb UG0:=by
 refine⟨fun f c h=>?_,fun f vf h=>?_,(fun _ _ _ h=>by cases h),by kernel_rfl,(fun _ h=>by cases h)⟩
 ·simp only[UG0]at h
  split at h
  ·cases h;exact⟨PX,_,Tryz.func63,rfl,rfl⟩
  ·cases h
 ·cases h
theorem YpY:comC.ok Yb 99:=by
 refine Yv Tryz.func99 YtO Yha 300 comC fun args k h=>?_
 simp only[comC]at h
 split at h
 ·rename_i cs
  obtain⟨T,rfl,h⟩:=h
  refine⟨[.agg (YW T)],⟨YU _ (JQ T _),trivial⟩,?_⟩
  have h:k (.agg (Yp (ZT T))) []:=h
  dsimp only[v99,Yg9,rratC,Yp,A6,BY,Ws,Xy,go_sem,reduceIte,Ya]
  simp only[Yd,Ya,Ye,reduceCtorEq,Yc]
  refine⟨ZA T,fun hs=>⟨Ynv,?_⟩,fun hs=>⟨Ynu,?_⟩⟩
  ·rw[ZT,if_pos hs]at h
   exact Vu (r:=(KP 81 80).1) h
  ·rw[ZT,if_neg (by rw[hs];decide)]at h
   exact Vu (r:=(KP 531441 524288).1) h
 ·exact h.1.elim
def rfifC:Ctr:={ alias:=false,of:=fun l=>match l with
 | [.agg cs]=> .ex Tm fun T=> .pre (cs=YW T/\T.nm.size<=9223372036854775807/\Ki T=0) (.fin (.tup [.vs true false 12 7 (fun k=>Yp (X7 T k)),.int .i64 0]) [])
 |_=>noC}
def WQ:Ctr:=m2C (-1)
def UG1:Env:={ ct:=fun n=>match n with|34=>some chk5A|63=>some rratC|99=>some comC|69=>some powRC|65=>some WQ|_=>none,fn:=fun _=>none,meth:=fun _ _=>none}
theorem CY:UG1.ct 34=some chk5A:=rfl
theorem CZ:UG1.ct 63=some rratC:=rfl
theorem C2:UG1.ct 99=some comC:=rfl
theorem C1:UG1.ct 69=some powRC:=rfl
theorem C0:UG1.ct 65=some WQ:=rfl
theorem Yhb:YE Yb UG1:=by
 refine⟨fun f c h=>?_,fun f vf h=>?_,(fun _ _ _ h=>by cases h),by kernel_rfl,(fun _ h=>by cases h)⟩
 ·simp only[UG1]at h
  split at h
  ·cases h;exact⟨T8,_,Tryz.func34,rfl,rfl⟩
  ·cases h;exact⟨PX,_,Tryz.func63,rfl,rfl⟩
  ·cases h;exact⟨YpY,_,Tryz.func99,rfl,rfl⟩
  ·cases h;exact⟨Yce,_,Tryz.func69,rfl,rfl⟩
  ·cases h;exact⟨YcG,_,Tryz.func65,rfl,rfl⟩
  ·cases h
 ·cases h
theorem Yqa:rfifC.ok Yb 62:=by
 refine Yv Tryz.func62 Yte Yhb 500 rfifC fun args k h=>?_
 simp only[rfifC]at h
 split at h
 ·rename_i cs
  obtain⟨T,⟨rfl,hnm,hT⟩,h⟩:=h
  refine⟨[.agg (YW T)],⟨YU _ (JQ T _),trivial⟩,?_⟩
  obtain⟨hw,hp⟩:=EM hT
  dsimp only[v62,CY,CZ,C2,C1,C0,chk5A,rratC,comC,powRC,WQ,m2C,A6,GB,BY,Gd,Ws,Xy,Z3,Yp,go_sem,reduceIte,Ya]
  simp only[Yd,Ya,Ye,reduceCtorEq,Yc]
  refine⟨ZA T,T,⟨rfl,hnm⟩,fun hh=>absurd hT hh,fun _=>⟨⟨by decide,by decide,by decide,by unfold Ka;decide⟩,Yba,?_⟩⟩
  refine Loop.keep [1,3,0] Nat (fun i=>[(7,.int .i64 i)]) (fun i=>[(1,.own false 7 12 (fun k=>Yp (Qy T i k))),(2,.box (Yp (K2 T i)))]) [] (fun i=>i<=12) (fun i=>12-i) ?_ ?_
  ·refine⟨0,by omega,?_⟩
   dsimp only[Yp,go_sem,reduceIte,Ya]
   simp only[Yf]
   refine⟨by decide,YU _ (JQ T _),⟨rfl,fun k hk=>?_⟩,?_⟩
   ·rw[La];exact⟨rfl,rfl,rfl,rfl,rfl,rfl,rfl⟩
   ·exact⟨rfl,rfl,rfl,rfl,rfl,rfl,rfl⟩
  ·rintro i hi
   by_cases hi12:i<12
   ·have e1:=I1 T hi12
    have e2:=YjF T hi12
    have l1:=I2 T hi12
    have l2:=YjG T hi12
    simp only[Kw,e1,e2,CY,CZ,C2,C1,C0,chk5A,rratC,comC,powRC,WQ,m2C,A6,GB,BY,Gd,Ws,Xy,Z3,Yp,Yh,go_sem,reduceIte,Ya]
    simp only[Yd,Ya,Ye,reduceCtorEq,Yc]
    refine⟨fun hlt=>⟨fun heq=>?_,fun hne=>?_⟩,fun hge=>absurd (show(i:Int)<12 by omega) hge⟩
    ·refine⟨i+1,by omega,by omega,?_⟩
     have hR:K2 T (i+1)=K2 T i:=by rw[K2,if_pos heq]
     rw[hR,Yg ((i:Int)+1) (by omega)]
     simp only[Yf]
     refine⟨by simp,YU _ (JQ T _),fun k hk=>?_⟩
     rw[E9 heq]
     exact⟨rfl,rfl,rfl,rfl,rfl,rfl,rfl⟩
    ·refine⟨⟨by omega,by omega⟩,l1,⟨by omega,by omega⟩,l2,T,rfl,?_⟩
     have hF:(KG (KP 3 2).1 (Xc (ZT T) (T.p i).1 (T.p i).2).1 (-1)).1=Wy T i:=rfl
     simp only[if_true,Z3,hF]
     refine⟨by decide,by decide,Ynt,⟨by omega,by show(i:Int)<12;omega⟩,hi12,⟨by omega,by show(i:Int)<12;omega⟩,hi12,i+1,by omega,by omega,?_⟩
     have hR:K2 T (i+1)=(KG (K2 T i) (Wy T i) (-1)).1:=by rw[K2,if_neg hne]
     rw[hR,Yg ((i:Int)+1) (by omega)]
     simp only[Yf]
     refine⟨by simp,YU _ (JQ T _),fun k hk=>?_⟩
     split
     ·rename_i hki
      subst hki
      rw[E8 hne]
      exact Zk _
     ·rename_i hki
      rw[Bs hki]
      exact Zk _
   ·obtain rfl:i=12:=by omega
    dsimp only[CY,CZ,C2,C1,C0,chk5A,rratC,comC,powRC,WQ,m2C,A6,GB,BY,Gd,Ws,Xy,Z3,Yp,Yh,go_sem,reduceIte,Ya]
    simp only[Yd,Ya,Ye,reduceCtorEq,Yc]
    refine⟨fun hh=>absurd hh (by decide),fun _=>?_⟩
    refine⟨⟨by omega,by show T.wolf<12;omega⟩,by omega,?_⟩
    simp only[Lb]
    refine Ky (show k _ []from h) ?_ (fun _=>by simp [Y0,Y4,Yp])
    dsimp only[QE,Yp,go_sem,reduceIte,Ya]
    simp only[Yf]
    rfl
 ·exact h.1.elim
def v35:VF:=⟨60,[.tmp 2,.tmp 3],(ZR [u1 1 .box [.tm 0],u1 2 .mov [.cn .nil],Zi 3 0] (ZR [Zt 12 27 1,Zc 13 62 12,Zm 11 13,Ze 14 0 11,Ze 15 1 11,Zm 4 14,Zm 5 15] (.seq (ZR [Zm 16 5,Zq 17 .neq 16 0] (ZC 17 (ZR [Zm 18 5,u1 2 .mov [.cn .nil],Zm 3 18] .ret) .skip)) (ZR [u1 19 (.make 7 56 [(.int .i64 0),(.int .i64 0),(.int .i64 0),(.int .i64 0),(.int .i64 0),(.int .i64 0),(.int .i64 0)]) [.cn (.int .i64 12),.cn (.int .i64 12)],Zm 6 19] (.seq (ZR [Zi 7 0] (.block 0 (.loop (.seq (ZR [Zm 20 7,Zq 21 .lss 20 12] (ZC 21 .skip (.exit 0))) (.seq (.block 1 (ZR [u1 24 (.call 63) [.cn (.int .i64 1),.cn (.int .i64 1)],u1 8 (.alloc [(.int .i64 0),(.int .i64 0),(.int .i64 0),(.int .i64 0),(.int .i64 0),(.int .i64 0),(.int .i64 0)]) [],Zs 7 8 24] (.seq (ZR [Zm 25 7,Za 26 2 1,Zf 27 1 26,Zr 28 .leq 25 27] (ZC 28 (ZR [Zi 9 0] (.block 2 (.loop (.seq (ZR [Zm 29 9,Zm 30 7,Zr 31 .lss 29 30] (ZC 31 .skip (.exit 2))) (.seq (.block 3 (.draw [] [Zw 34 7 8,Zu 35 4,Zu 36 9,ZX 37 7 35 36,Zw 38 7 37,Zz 39 64 34 38,ZS 7 8 39])) (.region [Zm 32 9,Zp 33 32 1,Zm 9 33])))))) (ZR [u1 40 (.call 63) [.cn (.int .i64 128),.cn (.int .i64 1)],Zs 7 8 40] (ZR [Zm 41 7,Zm 10 41] (.block 4 (.loop (.seq (ZR [Zm 42 10,Zq 43 .lss 42 12] (ZC 43 .skip (.exit 4))) (.seq (.block 5 (.draw [] [Zw 46 7 8,Zu 47 4,Zu 48 10,ZX 49 7 47 48,Zw 50 7 49,Zz 51 65 46 50,ZS 7 8 51])) (.region [Zm 44 10,Zp 45 44 1,Zm 10 45]))))))))) (.region [Zm 52 6,Zm 53 7,u1 54 (.ari .mul) [.cn (.int .i64 7),.tm 53],u1 55 .rem [.tm 54,.cn (.int .i64 12)],Zt 56 7 8,Zc 57 66 56,Zx 58 7 52 55,Zs 7 58 57])))) (.region [Zm 22 7,Zp 23 22 1,Zm 7 23])))))) (ZR [Zm 59 6,Zm 2 59,Zi 3 0] .ret))))))⟩
theorem YsN:Yn Yb Tryz.f35=some v35:=by kernel_rfl
def rnotC:Ctr:={ alias:=false,of:=fun l=>match l with
 | [.agg cs]=> .ex Tm fun T=> .pre (cs=YW T/\T.nm.size<=9223372036854775807/\Ki T=0) (.fin (.tup [.vs true false 12 7 (fun k=>Yp (Y6 T k)),.int .i64 0]) [])
 |_=>noC}
def He:Ctr:=m2C 1
def UH1:Env:={ ct:=fun n=>match n with|62=>some rfifC|63=>some rratC|64=>some He|65=>some WQ|66=>some rfolC|_=>none,fn:=fun _=>none,meth:=fun _ _=>none}
theorem FU:UH1.ct 62=some rfifC:=rfl
theorem FV:UH1.ct 63=some rratC:=rfl
theorem FW:UH1.ct 64=some He:=rfl
theorem FX:UH1.ct 65=some WQ:=rfl
theorem FY:UH1.ct 66=some rfolC:=rfl
theorem Yhc:YE Yb UH1:=by
 refine⟨fun f c h=>?_,fun f vf h=>?_,(fun _ _ _ h=>by cases h),by kernel_rfl,(fun _ h=>by cases h)⟩
 ·simp only[UH1]at h
  split at h
  ·cases h;exact⟨Yqa,_,Tryz.func62,rfl,rfl⟩
  ·cases h;exact⟨PX,_,Tryz.func63,rfl,rfl⟩
  ·cases h;exact⟨Yqq,_,Tryz.func64,rfl,rfl⟩
  ·cases h;exact⟨YcG,_,Tryz.func65,rfl,rfl⟩
  ·cases h;exact⟨Yqb,_,Tryz.func66,rfl,rfl⟩
  ·cases h
 ·cases h
theorem Yql:rnotC.ok Yb 35:=by
 refine Yv Tryz.func35 YsN Yhc 600 rnotC fun args k h=>?_
 simp only[rnotC]at h
 split at h
 ·rename_i cs
  obtain⟨T,⟨rfl,hnm,hT⟩,h⟩:=h
  refine⟨[.agg (YW T)],⟨YU _ (JQ T _),trivial⟩,?_⟩
  obtain⟨hw,hp⟩:=EM hT
  dsimp only[v35,FU,FV,FW,FX,FY,rfifC,rratC,He,WQ,m2C,rfolC,GB,Gd,Ws,Xy,Z3,Yp,go_sem,reduceIte,Ya]
  simp only[Yd,Ya,Ye,reduceCtorEq,Yc]
  refine⟨ZA T,T,⟨rfl,hnm,hT⟩,by decide,by decide,fun hh=>absurd trivial hh,?_⟩
  refine⟨⟨by decide,by decide,by decide,by unfold Ka;decide⟩,?_⟩
  refine Loop.keep [1,2,1] Nat (fun j=>[(7,.int .i64 j)]) (fun j=>[(1,.own false 7 12 (fun k=>Yp ((Jj T j).1 k)))]) [] (fun j=>j<=12) (fun j=>12-j) ?_ ?_
  ·refine⟨0,by omega,?_⟩
   dsimp only[Yp,go_sem,reduceIte,Ya]
   simp only[Yf]
   exact⟨by decide,YU _ (JQ T _),rfl,fun k hk=>⟨rfl,rfl,rfl,rfl,rfl,rfl,rfl⟩⟩
  ·rintro j hj
   by_cases hj12:j<12
   ·dsimp only[FU,FV,FW,FX,FY,rfifC,rratC,He,WQ,m2C,rfolC,GB,Gd,Ws,Xy,Z3,Yp,Yh,go_sem,reduceIte,Ya]
    simp only[Yd,Ya,Ye,reduceCtorEq,Yc]
    refine⟨fun _=>⟨Ynr,fun hle=>?_,fun hgt=>⟨Yba,?_⟩⟩,fun hh=>absurd (show(j:Int)<12 by omega) hh⟩
    ·refine Loop.keep [1,2,1,0,0] Nat (fun i=>[(9,.int .i64 i)]) (fun i=>[(2,.box (Yp (Jj T i).2))]) [] (fun i=>i<=j) (fun i=>j-i) ?_ ?_
     ·refine⟨0,by omega,?_⟩
      dsimp only[Yp,go_sem,reduceIte,Ya]
      simp only[Yf]
      exact⟨by simp,YU _ (JQ T _),rfl,rfl,rfl,rfl,rfl,rfl,rfl⟩
     ·rintro i hi
      dsimp only[FU,FV,FW,FX,FY,rfifC,rratC,He,WQ,m2C,rfolC,GB,Gd,Ws,Xy,Z3,Yp,Yh,go_sem,reduceIte,Ya]
      simp only[Yd,Ya,Ye,reduceCtorEq,Yc]
      refine⟨fun hlt=>?_,fun hge=>?_⟩
      ·refine⟨⟨by omega,by show(i:Int)<12;omega⟩,i+1,by omega,by omega,?_⟩
       have hS:(Jj T (i+1)).2=(KG (Jj T i).2 (X7 T i) 1).1:=rfl
       rw[hS,Yg ((i:Int)+1) (by omega)]
       simp only[Yf]
       exact⟨by simp,YU _ (JQ T _)⟩
      ·obtain rfl:i=j:=by omega
       refine⟨by decide,YbQ hT hj12,?_⟩
       have e7:(IntKind.i64.wrap (7*(i:Int))).tmod 12=((7*i%12:Nat):Int):=by
        rw[Yg _ (by omega),UF (by omega)];omega
       simp only[e7,Yh]
       refine⟨⟨by omega,by show((7*i%12:Nat):Int)<12;omega⟩,by omega,i+1,by omega,by omega,?_⟩
       have hS:(Jj T (i+1)).1=Uy (Jj T i).1 (7*i%12) (Jy (Jj T i).2).1:=rfl
       rw[hS,Yg ((i:Int)+1) (by omega)]
       simp only[Yf]
       refine⟨by simp,YU _ (JQ T _),fun k hk=>?_⟩
       unfold Uy
       split
       ·exact Zk _
       ·exact Zk _
    ·refine Loop.keep [1,2,1,0,0] Nat (fun d=>[(10,.int .i64 ((j+d:Nat):Int))]) (fun d=>[(2,.box (Yp (qL T j d)))]) [] (fun d=>j+d<=12) (fun d=>12-d) ?_ ?_
     ·refine⟨0,by omega,?_⟩
      dsimp only[Yp,qL,go_sem,reduceIte,Ya]
      simp only[Yf]
      exact⟨by simp,YU _ (JQ T _)⟩
     ·rintro d hd
      dsimp only[FU,FV,FW,FX,FY,rfifC,rratC,He,WQ,m2C,rfolC,GB,Gd,Ws,Xy,Z3,Yp,Yh,go_sem,reduceIte,Ya]
      simp only[Yd,Ya,Ye,reduceCtorEq,Yc]
      refine⟨fun hlt=>?_,fun hge=>?_⟩
      ·refine⟨⟨by omega,by show((j+d:Nat):Int)<12;omega⟩,d+1,by omega,by omega,?_⟩
       have hS:qL T j (d+1)=(KG (qL T j d) (X7 T (j+d)) (-1)).1:=rfl
       rw[hS,Yg (((j+d:Nat):Int)+1) (by omega)]
       simp only[Yf]
       exact⟨⟨by decide,by decide,by decide,by omega⟩,YU _ (JQ T _)⟩
      ·obtain rfl:d=12-j:=by omega
       rw[Yoh hT (by omega) hj12]
       obtain⟨i,hji⟩:∃i,i=j:=⟨j,rfl⟩
       subst hji
       refine⟨by decide,YbQ hT hj12,?_⟩
       have e7:(IntKind.i64.wrap (7*(i:Int))).tmod 12=((7*i%12:Nat):Int):=by
        rw[Yg _ (by omega),UF (by omega)];omega
       simp only[e7,Yh]
       refine⟨⟨by omega,by show((7*i%12:Nat):Int)<12;omega⟩,by omega,i+1,by omega,by omega,?_⟩
       have hS:(Jj T (i+1)).1=Uy (Jj T i).1 (7*i%12) (Jy (Jj T i).2).1:=rfl
       rw[hS,Yg ((i:Int)+1) (by omega)]
       simp only[Yf]
       refine⟨by simp,YU _ (JQ T _),fun k hk=>?_⟩
       unfold Uy
       split
       ·exact Zk _
       ·exact Zk _
   ·obtain rfl:j=12:=by omega
    dsimp only[FU,FV,FW,FX,FY,rfifC,rratC,He,WQ,m2C,rfolC,GB,Gd,Ws,Xy,Z3,Yp,Yh,go_sem,reduceIte,Ya]
    simp only[Yd,Ya,Ye,reduceCtorEq,Yc]
    refine⟨fun hh=>absurd hh (by decide),fun _=>?_⟩
    refine Ky (show k _ []from h) ?_ (fun _=>by simp [Y0,Y4,Yp])
    dsimp only[QE,Yp,Y6,go_sem,reduceIte,Ya]
    simp only[Yf]
    rfl
 ·exact h.1.elim
end Go.Proofs.YtlhmikjnholpnaaGreatDoor
namespace Go.Vx
open Go
open Go.RowKit in
theorem Im{P:Program}{E:Env}{f:FuncId}{fn:Func}{vf:VF}(hf:P.funcs[f]? =some fn)(hvf:Yn P fn=some vf)(hE:YE P E)(n:Nat)(c:Ctr)
 (h:∀(args:List SV) (k:SV->List HO->Prop),CSat (c.of args) k->∃args',leL 0 0 args args'/\run E (fun r hp=> ∃r' hp',le (Yi hp) (Yi hp') r r'/\leH (Yi hp) (Yi hp') hp hp'/\k r' hp'/\Y0 r'/\QV hp') vf.res n [.code vf.body] { fr:=XM vf.ntmps args',saved:=[],hp:=[]}):c.ok P f:=by
 intro args vs z k hsat hx hc
 obtain⟨args',hle,hrun⟩:=h args k hc
 have hk0:XZ z.toWorld [] z.bd z.toWorld [] (z.wI z.I (Ql z)).bd:=⟨rfl,fun _ _ h=>h,fun b hf cs T fz ho=>⟨ho,VH,hf.2,z.ex b hf.2⟩⟩
 have hx2:RepL z.toWorld [] (z.wI z.I (Ql z)).bd args' vs:=VM DI _ _ hle (XRepL.keepG hk0 hx).rep
 obtain⟨body,hbody,hcode,hres,hnt⟩:=FA hvf
 refine F8 (n:=0) (HX (b:=vf.body) hf hbody ?_)
 refine P0 (w0:=z) (fn0:=fn) (R0:=fun e w'=> ∃r hs v bs,∃J,∃hJ:Ext z J,k r hs/\e= .returned v/\Rep w' bs (z.wI J hJ).bd r v/\Hp w' bs (z.wI J hJ).bd hs/\BelowI z.bd z.toWorld w'/\(c.alias=false->Y0 r/\QV hs)) hE hsat.2 hres (by
  rintro r hp v w' bs D hD ⟨r',hp',l1,l3,hk,hfr⟩ hr hH hb
  have hrel:Rel (⟨z.wI D hD,[]⟩:Cx) [] ⟨[r],[],hp⟩ [v] [] w':=⟨bs,.cons _ _ _ _ hr .nil,.nil,hH,⟨hb.os,hb.tape,hb.output,hb.size,fun j hj hn=>hb.block j hj ((hD.old j hj).symm.trans hn)⟩,⟨fun _ h=>(by cases h),.nil,[],rfl,by simp,fun _ h=>(by simp at h)⟩⟩
  obtain⟨bs',g1,_,g3,_,_⟩:=Yap (s:=⟨[r],[],hp⟩) (s':=⟨[r'],[],hp'⟩) ⟨⟨l1,trivial⟩,trivial,l3⟩ hrel
  obtain⟨u,us,e,g5,_⟩:=g1.cons_inv
  cases e
  exact⟨r',hp',v,bs',D,hD,hk,rfl,g5,g3,hb,fun _=>hfr⟩) n _ _ hrun [] [] none _
  {tmps:=vs.toArray++WS (fn.ntmps-vs.toArray.size) undef,defers:=[]} z.toWorld (.code body vf.body [] [] [] none _ hcode .nil) (D:=z.I) (hD:=Ql z) ?_
 refine⟨[],?_,.nil,hp0 (hJ:=Ql z) hsat.1,BelowI.refl _ _,⟨fun _ h=>(by cases h),.nil,[[]],rfl,by simp,fun _ h=>(by simp at h)⟩⟩
 have:=Ha (n:=fn.ntmps) hx2
 rw[hnt]
 simpa using this
end Go.Vx
namespace Go.Proofs.YtlhmikjnholpnaaGreatDoor
open Go Go.Vx
set_option maxRecDepth 100000
set_option maxHeartbeats 8000000
def v29:VF:=⟨5,[.tmp 2],(ZR [Zi 2 0] (ZR [Zm 3 0,u1 4 (.ari .add) [.cn (.int .i64 273150),.tm 3],Zm 2 4] .ret))⟩
theorem YsH:Yn Yb Tryz.f29=some v29:=by kernel_rfl
def v36:VF:=⟨84,[.tmp 6,.tmp 7],(ZR [u1 3 .box [.tm 0],u1 6 .mov [.cn .nil],Zi 7 0] (.seq (.draw [(8,.box [(.int .i64 0),(.int .i64 0),(.int .i64 0),(.int .i64 0),(.int .i64 0),(.int .i64 0),(.int .i64 0)])] [Zu 17 1,Zu 18 2,w1 19 .rem [.tm 18,.cn (.int .i64 12)],ZX 20 7 17 19,Zw 21 7 20,Zu 22 1,w1 23 (.idxAddr 7) [.tm 22,.cn (.int .i64 9)],Zw 24 7 23,Zz 25 67 21 24,Zu 16 25,ZE 26 0 16,ZE 27 1 16,ZS 7 8 26,Zu 9 27]) (ZR [u1 29 (.call 68) [.cn (.int .i64 2),.cn (.int .i64 1)],Zm 28 29,Ze 30 0 28,Ze 31 1 28,u1 10 (.alloc [(.int .i64 0),(.int .i64 0),(.int .i64 0),(.int .i64 0),(.int .i64 0),(.int .i64 0),(.int .i64 0)]) [],Zs 7 10 30,Zm 11 31] (ZR [Zt 33 7 10,Zm 34 2,u1 35 .quo [.tm 34,.cn (.int .i64 12)],u1 36 (.ari .sub) [.tm 35,.cn (.int .i64 5)],u1 37 (.call 69) [.tm 33,.tm 36,.cn (.int .i64 1)],Zm 32 37,Ze 38 0 32,Ze 39 1 32,Zs 7 10 38] (ZR [Zt 41 7 8,Zt 42 7 10,Zd 43 70 41 42,Zm 40 43,Ze 44 0 40,Ze 45 1 40,Zs 7 8 44] (ZR [Zt 47 7 8,Zc 48 71 47,Zm 46 48,Ze 49 0 46,Ze 50 1 46,Ze 51 2 46,Zm 12 49,Zm 13 50,Zm 14 51] (.seq (ZR [Zi 15 0] (.block 0 (.loop (.seq (ZR [Zm 52 15,Zm 53 12,Zl 54 53,Zr 55 .lss 52 54] (ZC 55 .skip (.exit 0))) (.seq (.block 1 (.region [Zm 58 12,Zm 59 15,Zm 60 12,Zm 61 15,Zx 62 2 60 61,Za 63 1 62,Zf 64 1 63,u1 65 (.ari .mul) [.cn (.int .i64 2),.tm 64],Zx 66 2 58 59,Za 67 1 66,Zs 1 67 65])) (.region [Zm 56 15,Zp 57 56 1,Zm 15 57])))))) (.seq (.draw [] [Zu 68 12,Zy 69 2 3,Zv 70 1 69,Zu 72 13,Zy 74 1 3,Zv 75 1 74,Zu 77 13,w1 78 .neg [.tm 77],Zu 82 13,w1 83 (.ari .mul) [.cn (.int .i64 2),.tm 82],w1 71 (.call 29) [.tm 70],w1 73 (.build [(.int .i64 0),(.int .i64 0)] [(0,1),(1,1)]) [.tm 71,.tm 72],w1 76 (.call 29) [.tm 75],w1 79 (.build [(.int .i64 0),(.int .i64 0)] [(0,1),(1,1)]) [.tm 76,.tm 78],w1 80 (.buildSlice 2 2 [(.int .i64 0),(.int .i64 0)] [(0,2),(2,2)]) [.tm 73,.tm 79],⟨u1 81 (.append 2 16 [(.int .i64 0),(.int .i64 0)]) [.tm 68,.tm 80],[.tm 13,.tm 82,.tm 82,.tm 83]⟩,Zu 6 81,Zu 7 83]) .ret))))))))⟩
theorem YsO:Yn Yb Tryz.f36=some v36:=by kernel_rfl
def v13:VF:=⟨21,[.tmp 6,.tmp 7],(ZR [u1 3 .box [.tm 0],u1 4 .box [.tm 1],u1 6 .mov [.cn .nil],Zi 7 0] (ZR [Zt 11 27 4,Zc 12 35 11,Zm 10 12,Ze 13 0 10,Ze 14 1 10,Zm 8 13,Zm 9 14] (ZR [Zt 15 3 3,Zm 16 8,Zm 17 2,u1 18 (.call 36) [.tm 15,.tm 16,.tm 17],Ze 19 0 18,Ze 20 1 18,Zm 6 19,Zm 7 20] .ret)))⟩
theorem Ysc:Yn Yb Tryz.f13=some v13:=by kernel_rfl
def kelC:Ctr:={ alias:=false,of:=fun l=>match l with
 | [.int .i64 t]=> .pre (JB t=true) (.fin (.int .i64 (273150+t)) [])
 |_=> .pre False (.fin (.int .i64 0) [])}
def UI0:Env:={ ct:=fun _=>none,fn:=fun _=>none,meth:=fun _ _=>none}
theorem Yhd:YE Yb UI0:=by
 refine⟨fun f c h=>?_,fun f vf h=>?_,(fun _ _ _ h=>by cases h),by kernel_rfl,(fun _ h=>by cases h)⟩
 ·cases h
 ·cases h
theorem Ylx:kelC.ok Yb 29:=by
 refine Yv Tryz.func29 YsH Yhd 100 kelC fun args k h=>?_
 simp only[kelC]at h
 split at h
 ·rename_i t
  obtain⟨ht,h⟩:=h
  have ht:=UB ht
  refine⟨[.int .i64 t],by simp [leL,le],?_⟩
  dsimp only[v29,go_sem,reduceIte,Ya]
  simp only[Yd,Ya,Ye,reduceCtorEq,Yc]
  rw[Yg (273150+t) (by omega)]
  exact YX h
 ·exact h.1.elim
def Pi(o:Int):Rt:=(Xc (KP 2 1).1 o 1).1
def KR(L:Nat->Rt)(note:Int):Rt:=(KG (JS L note) (Pi (note/12-5)) 1).1
def K1(r:Rt)(t t0:Int):List (Int×Int):=(Ys r).map Wi++[(273150+t,r.n),(273150+t0, -r.n)]
def j3:List SV:=[.junk,.junk,.junk]
def j7:List SV:=[.junk,.junk,.junk,.junk,.junk,.junk,.junk]
def rofnC:Ctr:={ alias:=false,of:=fun l=>match l with
 | [.agg [.int .i64 _,.int .i64 t0,.int .i64 t],.vs _ _ n sz get,.int .i64 note]=> .ex (Nat->Rt) fun L=> .pre ((n=12/\sz=7/\∀k,k<12->Qz (get k) (Yp (L k)))/\(0<=note/\note<=139)/\JB t0=true/\JB t=true/\YY (KR L note)=0)
     (.fin (.tup [.own 5 0 (K1 (KR L note) t t0).length 2,.int .i64 (2*(KR L note).n)]) [.box j3,.box j7,.box j7,.box j7,.own false 1 6 (fun _=>[.junk]),.own false 2 (K1 (KR L note) t t0).length (fun k=>YA ((K1 (KR L note) t t0).getD k default))])
 |_=>noC}
def UI1:Env:={ ct:=fun n=>match n with|67=>some VW|70=>some VV|68=>some rofC|69=>some powRC|71=>some rtrmC|29=>some kelC|_=>none,fn:=fun _=>none,meth:=fun _ _=>none}
theorem SN:UI1.ct 67=some VW:=rfl
theorem SR:UI1.ct 70=some VV:=rfl
theorem SO:UI1.ct 68=some rofC:=rfl
theorem SQ:UI1.ct 69=some powRC:=rfl
theorem SS:UI1.ct 71=some rtrmC:=rfl
theorem SM:UI1.ct 29=some kelC:=rfl
theorem Yhe:YE Yb UI1:=by
 refine⟨fun f c h=>?_,fun f vf h=>?_,(fun _ _ _ h=>by cases h),by kernel_rfl,(fun _ h=>by cases h)⟩
 ·simp only[UI1]at h
  split at h
  ·cases h;exact⟨Ycc,_,Tryz.func67,rfl,rfl⟩
  ·cases h;exact⟨Ycd,_,Tryz.func70,rfl,rfl⟩
  ·cases h;exact⟨YcF,_,Tryz.func68,rfl,rfl⟩
  ·cases h;exact⟨Yce,_,Tryz.func69,rfl,rfl⟩
  ·cases h;exact⟨YcK,_,Tryz.func71,rfl,rfl⟩
  ·cases h;exact⟨Ylx,_,Tryz.func29,rfl,rfl⟩
  ·cases h
 ·cases h
theorem two2{a b c d:Int}{k:Nat}(hk:k<2):YH (YR 2 (YK (k*2) [SV.int .i64 a,SV.int .i64 b,SV.int .i64 c,SV.int .i64 d]))=2/\Jk (YR 2 (YK (k*2) [SV.int .i64 a,SV.int .i64 b,SV.int .i64 c,SV.int .i64 d])):=by
 rcases(show k=0\/k=1 by omega)with rfl|rfl <;> exact⟨rfl,trivial,trivial,trivial⟩
theorem Yqm:rofnC.ok Yb 36:=by
 refine Im Tryz.func36 YsO Yhe 600 rofnC fun args k h=>?_
 simp only[rofnC]at h
 split at h
 ·rename_i a t0 t tv zv n sz get note
  obtain⟨L,⟨⟨rfl,rfl,hg⟩,hn,h0,h1,hc⟩,h⟩:=h
  refine⟨[.agg [.int .i64 a,.int .i64 t0,.int .i64 t],.vs tv zv 12 7 (fun k=>Yp (L k)),.int .i64 note],?_,?_⟩
  ·simp only[BQ,BR,Yaq,BS,and_true,true_and]
   exact⟨id,rfl,rfl,rfl,hg⟩
  dsimp only[v36,Z3,SN,SR,SO,SQ,SS,SM,VW,VV,Ji,rofC,powRC,rtrmC,Aj,kelC,Yp,go_sem,reduceIte,Ya]
  simp only[Yd,Ya,Ye,reduceCtorEq,Yc]
  obtain⟨m,rfl⟩:∃m:Nat,note=(m:Int):=⟨note.toNat,by omega⟩
  have em:(m:Int).tmod 12=((m%12:Nat):Int):=by rw[UF (by omega)];omega
  simp only[em,Yh]
  have e2:IntKind.i64.wrap (IntKind.i64.wrap ((m:Int).tdiv 12)-5)=(m:Int)/12-5:=by
   rw[ZG (by omega),Yg ((m:Int)/12) (by omega),Yg _ (by omega)]
  rw[e2]
  obtain⟨r,hr⟩:∃r,r=KR L m:=⟨_,rfl⟩
  have hr':(KG (KG (L (m%12)) (L (Xi 9)) (-1)).1 (Xc (KP 2 1).1 ((m:Int)/12-5) 1).1 1).1=r:=by rw[hr,KR,JS,show((m:Int)%12).toNat=m%12 by omega];rfl
  simp only[hr']
  rw[<-hr]at h hc
  clear hr hr' e2 em
  refine⟨by decide,⟨by omega,by omega⟩,by decide,by decide,by decide,Yns,by decide,by decide,by decide,by decide,by decide,by decide,by decide,hc,fun z=>⟨by decide,by decide,by decide,?_⟩⟩
  have hlen:=V0 r
  have hd:=ZU hc
  refine Loop.keep [3,8,0] Nat (fun i=>[(15,.int .i64 i)]) (fun i=>[(5,.own z 2 (Ys r).length (fun k=>YA (XJ (Ys r) i k)))]) [] (fun i=>i<=(Ys r).length) (fun i=>(Ys r).length-i) ?_ ?_
  ·refine⟨0,JP _,?_⟩
   dsimp only[YA,go_sem,reduceIte,Ya]
   simp only[Yf]
   refine⟨by decide,fun q hq=>Ak hq,fun k hk=>?_⟩
   rw[XJ,if_neg (QC _)]
   exact⟨rfl,rfl⟩
  ·rintro i hi
   dsimp only[Z3,SN,SR,SO,SQ,SS,SM,VW,VV,Ji,rofC,powRC,rtrmC,Aj,kelC,Yp,YA,Yh,go_sem,reduceIte,Ya]
   simp only[Yd,Ya,Ye,reduceCtorEq,Yc]
   refine⟨fun hlt=>?_,fun hge=>?_⟩
   ·have hil:i<(Ys r).length:=by omega
    have hx:=Ro hc _ (KK hil)
    have ei:XJ (Ys r) i i=(Ys r).getD i default:=if_neg (XX _)
    rw[ei,Yg (2*((Ys r).getD i default).2) (by omega),Yg ((i:Int)+1) (by omega)]
    refine⟨⟨by omega,by omega⟩,hil,⟨by omega,by omega⟩,hil,i+1,by omega,by omega,?_⟩
    simp only[Yf]
    refine⟨⟨by omega,by omega,by omega⟩,fun q hq=>Ak hq,fun k hk=>?_⟩
    by_cases hki:k=i
    ·subst hki
     rw[if_pos rfl,XJ,if_pos (by omega)]
     exact⟨⟨rfl,rfl⟩,⟨rfl,KA _ _⟩,trivial⟩
    ·rw[if_neg hki]
     have:XJ (Ys r) (i+1) k=XJ (Ys r) i k:=by
      unfold XJ
      by_cases h1:k<i
      ·rw[if_pos h1,if_pos (by omega)]
      ·rw[if_neg h1,if_neg (by omega)]
     rw[this]
     exact⟨⟨rfl,rfl⟩,⟨rfl,rfl⟩,trivial⟩
   ·obtain rfl:i=(Ys r).length:=by omega
    have e1:IntKind.i64.wrap (2*r.n)=2*r.n:=Yg _ (by omega)
    have e4:IntKind.i64.wrap (0-r.n)= -r.n:=by rw[Yg _ (by omega)];omega
    rw[e1,e4]
    refine⟨h1,h0,by decide,⟨by unfold Ka;omega,fun k hk=>two2 hk⟩,?_⟩
    have hL2:(K1 r t t0).length=(Ys r).length+2:=by simp [K1]
    refine⟨_,_,?_,?_,h,⟨trivial,trivial,trivial⟩,?_⟩
    ·rw[hL2]
     exact⟨⟨rfl,rfl,rfl,rfl,show 5<6 by decide⟩,⟨rfl,rfl⟩,trivial⟩
    ·refine⟨⟨trivial,trivial,trivial,trivial⟩,⟨trivial,trivial,trivial,trivial,trivial,trivial,trivial,trivial⟩,⟨trivial,trivial,trivial,trivial,trivial,trivial,trivial,trivial⟩,⟨trivial,trivial,trivial,trivial,trivial,trivial,trivial,trivial⟩,⟨rfl,rfl,rfl,fun q hq=>?_⟩,⟨by simp,rfl,hL2.symm,fun q hq=>?_⟩,trivial⟩
     ·rcases six hq with rfl|rfl|rfl|rfl|rfl|rfl <;> exact⟨trivial,trivial⟩
     ·unfold K1
      by_cases h2:q<(Ys r).length
      ·simp only[if_pos h2,XJ]
       rw[MB (by simpa using h2),B3 h2]
       exact⟨⟨rfl,rfl⟩,⟨rfl,rfl⟩,trivial⟩
      ·simp only[if_neg h2]
       rw[MC (by simp;omega),Vq]
       rcases(show q-(Ys r).length=0\/q-(Ys r).length=1 by omega)with e|e <;> (rw[e];exact⟨⟨rfl,rfl⟩,⟨rfl,rfl⟩,trivial⟩)
    ·simp [QV,Y4,Y0,j3,j7,YA]
 ·exact h.1.elim
theorem Ya9{o:Int}(h: -5<=o/\o<=6):Pi o=⟨o,0,0,0,0,0,1⟩/\YY ⟨o,0,0,0,0,0,1⟩=0:=by
 rcases(show o= -5\/o= -4\/o= -3\/o= -2\/o= -1\/o=0\/o=1\/o=2\/o=3\/o=4\/o=5\/o=6 by omega)with e|e|e|e|e|e|e|e|e|e|e|e <;> (subst e;decide+kernel)
theorem Ynq{o L:Int}(h: -5<=o/\o<=6):Rep L (Pi o) (o*L) 0 0:=by
 rw[(Ya9 h).1]
 exact⟨(Ya9 h).2,by simp,by simp,by simp,rfl,rfl,rfl⟩
def shO(r:Rt)(o:Int):Rt:=⟨r.a+o*r.n,r.b,r.c,0,0,0,r.n⟩
theorem Ya5{T:Tm}(h:Ki T=0){note:Int}(hn:0<=note/\note<=139):∃a b c:Int,Rep (Lm T) (JS (Y6 T) note) a b c/\Rep (Lm T) (KR (Y6 T) note) (a+(note/12-5)*Lm T) b c/\sm (a+(note/12-5)*Lm T):=by
 obtain⟨x,t,w,hr,ht,hw,h1,h2⟩:=Ya6 h hn.1
 have hL:=J9 h
 have hwx: -2640<=w/\w<=2640:=by omega
 have hbc:(cA T= -4/\cB T=4/\cC T= -1)\/(cA T= -19/\cB T=12/\cC T=0):=by unfold cA cB cC;split <;> simp
 have q1:=U9 h1
 have q2:=U9 h2
 obtain⟨o,ho⟩:∃o,note/12-5=o:=⟨_,rfl⟩
 have ho2: -5<=o/\o<=6:=by omega
 have hp:=Js (x:=Lm T) (y:=o) (X:=120) (Y:=6) (by omega) (by omega)
 have hp2:=Js (x:=Lm T) (y:=t) (X:=120) (Y:=11) (by omega) (by omega)
 have sa:sm (Lm T*x-cA T*w+1*(o*Lm T)):=by unfold sm;rw[KA o];rcases hbc with⟨e1,e2,e3⟩ | ⟨e1,e2,e3⟩ <;> (rw[e1,e2,e3]at q1 q2;rw[e1];omega)
 have hj:=(G2 (s:=1) (by omega) hr (Ynq (L:=Lm T) ho2) sa (by unfold sm;rcases hbc with⟨e1,e2,e3⟩ | ⟨e1,e2,e3⟩ <;> (rw[e1,e2,e3]at q1 q2;rw[e2];omega)) (by unfold sm;rcases hbc with⟨e1,e2,e3⟩ | ⟨e1,e2,e3⟩ <;> (rw[e1,e2,e3]at q1 q2;rw[e3];omega))).2
 rw[Int.one_mul]at sa
 refine⟨_,_,_,hr,?_,by rw[ho];exact sa⟩
 unfold KR
 rw[ho]
 exact hj.cast (by omega) (by omega) (by omega)
theorem Yp6{L:Int}{r:Rt}{a b c:Int}(h:Rep L r a b c):r.n.toNat∣L.natAbs:=by
 have hn:=h.n_rng
 have key:∀{x y:Int},x*L=y*r.n->r.n.toNat∣L.natAbs*x.natAbs:=fun {x y} e=>by
  have e2:x.natAbs*L.natAbs=y.natAbs*r.n.natAbs:=by rw[<-Int.natAbs_mul,e,Int.natAbs_mul]
  have e3:r.n.natAbs=r.n.toNat:=by omega
  rw[e3]at e2
  rw[Yk,e2]
  exact Nat.dvd_mul_left ..
 have g:=OE L.natAbs r.n.toNat r.a.natAbs r.b.natAbs r.c.natAbs
 rw[PO h,Kb]at g
 rw[<-g]
 exact Nat.dvd_gcd (Nat.dvd_gcd (Nat.dvd_gcd (Nat.dvd_mul_left ..) (key h.ha)) (key h.hb)) (key h.hc)
theorem Yko{n a o:Int}:n.natAbs.gcd (a+o*n).natAbs=n.natAbs.gcd a.natAbs:=by
 have h:Int.gcd n (a+o*n)=Int.gcd n a:=Int.gcd_add_mul_right_right ..
 exact h
theorem Ya4{T:Tm}(h:Ki T=0){note:Int}(hn:0<=note/\note<=139):KR (Y6 T) note=shO (JS (Y6 T) note) (note/12-5)/\YY (KR (Y6 T) note)=0:=by
 obtain⟨a,b,c,h1,h2,hsm⟩:=Ya5 h hn
 refine⟨?_,h2.ok⟩
 have hL:=J9 h
 obtain⟨r,hr⟩:∃r,r=JS (Y6 T) note:=⟨_,rfl⟩
 rw[<-hr]at h1⊢
 have n1:=h1.n_rng
 obtain⟨o,ho⟩:∃o,note/12-5=o:=⟨_,rfl⟩
 rw[ho]at h2 hsm⊢
 refine Ycy hL.1 h2 ?_
 have e1:(r.a+o*r.n)*Lm T=(a+o*Lm T)*r.n:=by
  rw[Int.add_mul,h1.ha,Int.add_mul,Int.mul_right_comm]
 have hd:=Nat.le_of_dvd (by omega) (Yp6 h1)
 have sb:sm (r.a+o*r.n):=BT n1.1 (by omega) e1 hsm
 obtain⟨_,b1,b2,b3,_,_,_,_⟩:=WY h1.ok
 have bad:∀{y:Int},sm y->KW y=false:=fun h=>by
  simp only[KW,JH,decide_eq_false_iff_not];unfold sm at h;omega
 have g:=PO h1
 refine⟨?_,e1,h1.hb,h1.hc,rfl,rfl,rfl⟩
 unfold shO
 rw[YY,if_neg (by simp only;omega),if_neg,if_neg]
 ·simp only[JR,Int.natAbs_zero,Nat.gcd_zero_right]
  have e2:=Yko (n:=r.n) (a:=r.a) (o:=o)
  rw[show r.n.natAbs=r.n.toNat by omega]at e2
  rw[e2,g];decide
 ·simp only[bad sb,b2,b3]
  decide
theorem Yp0{L:Int}{r:Rt}{a b c t t0:Int}(hr:Rep L r a b c):
 upP (K1 r t t0)=UP r.a r.b r.c^2*(273150+t).toNat^r.n.toNat/\dnP (K1 r t t0)=UP (-r.a) (-r.b) (-r.c)^2*(273150+t0).toNat^r.n.toNat:=by
 obtain⟨tu,td⟩:=NG hr
 have hn:=hr.n_rng
 unfold K1
 rw[(Xf _ _).1,(Xf _ _).2,(Mf _).1,(Mf _).2,tu,td]
 have h1:¬(r.n<0):=by omega
 have h2: -r.n<0:=by omega
 simp only[upP,dnP,if_neg h1,if_pos h2,JW,Kb,Kc,and_self]
theorem Ycu{T:Tm}(hT:Ki T=0){t t0 note:Int}(hn:0<=note/\note<=139){r:Rt}{n:Nat}(hr:JS (Y6 T) note=r)(h:NR r n)(ht:JB t=true)(ht0:JB t0=true):
 YY (KR (Y6 T) note)=0/\(KR (Y6 T) note).n=n/\LB.Rat4 (upP (K1 (KR (Y6 T) note) t t0)) (dnP (K1 (KR (Y6 T) note) t t0)) (upP (Kt r n (note/12-5) t t0)) (dnP (Kt r n (note/12-5) t t0))/\
  0<upP (K1 (KR (Y6 T) note) t t0)/\0<dnP (K1 (KR (Y6 T) note) t t0):=by
 obtain⟨e,hc⟩:=Ya4 hT hn
 obtain⟨a,b,c,h1,h2,_⟩:=Ya5 hT hn
 have hnn:=h.hn
 obtain⟨p1,p2⟩:=MV (o:=note/12-5) h ht ht0
 obtain⟨q1,q2⟩:=Yp0 (t:=t) (t0:=t0) h2
 have t1:=VZ ht
 have t2:=VZ ht0
 have en:(KR (Y6 T) note).n=n:=by rw[e,hr];exact hnn
 refine⟨hc,en,?_,?_,?_⟩
 ·rw[p1,p2,q1,q2,en,e,hr,Yh]
  unfold LB.Rat4 shO
  simp only
  have ad:=GM r.a r.b r.c ((note/12-5)*r.n) 0 0
  rw[Z7,Z7,Int.neg_zero,hnn]at ad
  have m2:∀z:Int,2*(n:Int)*z=(2:Nat)*(z*n):=fun z=>by
   rw[Int.mul_assoc,KA (n:Int)];rfl
  have u2:=Qw 2 ((note/12-5)*n) 0 0
  have d2:=Qw 2 (-((note/12-5)*n)) 0 0
  rw[Int.mul_zero]at u2 d2
  rw[hnn,m2,u2,<-KC,d2]
  have ad2:=congrArg (·^2) ad
  simp only[Yt]at ad2
  have ad3:=congrArg (·*((273150+t).toNat^n*(273150+t0).toNat^n)) ad2
  generalize(273150+t).toNat^n=W at*
  generalize(273150+t0).toNat^n=W0 at*
  refine Eq.trans ?_ (ad3.trans ?_) <;> ac_rfl
 ·rw[q1];exact Y3 (YD (KM ..)) (YD (by omega))
 ·rw[q2];exact Y3 (YD (KM ..)) (YD (by omega))
theorem AD{U1 D1 U2 D2 A K:Nat}(h:LB.Rat4 U1 D1 U2 D2)(p1:0<D1)(p2:0<D2):(D1*K<=U1*A↔D2*K<=U2*A)/\(U1*A=D1*K↔U2*A=D2*K):=by
 unfold LB.Rat4 at h
 have e1:D2*(D1*K)=D1*(D2*K):=Jd ..
 have e2:D2*(U1*A)=D1*(U2*A):=by
  rw[<-Yx,Yk D2,h,Yx]
 constructor
 ·rw[<-Nat.mul_le_mul_left_iff p2,e1,e2,Nat.mul_le_mul_left_iff p1]
 ·constructor
  ·intro hh
   exact Nat.eq_of_mul_eq_mul_left p1 (by rw[<-e2,<-e1,hh])
  ·intro hh
   exact Nat.eq_of_mul_eq_mul_left p2 (by rw[e2,e1,hh])
theorem Ynp{x y a:Nat}(hx:x<=323150)(hy:253150<=y)(ha:100000<=a):2^9*32^8*x^4*1^8<y^4*a^8:=by
 have h1:=YM hx 4
 have h2:=YM hy 4
 have h3:=YM ha 8
 exact Jn (Yu _ (Yz _ h1)) (Qf (show 2^9*32^8*323150^4*1^8<253150^4*100000^8 by decide+kernel) (YP h2 h3))
theorem YjL{a t0 t note:Int}{T:Tm}{r:Rt}{n:Nat}(hS:X5 a t0 t=0)(hT:Ki T=0)(hn:0<=note/\note<=139)(hr:JS (Y6 T) note=r)(h:NR r n):
 ∃k ex,VJ (Y6 T) t0 t note a=Gx k ex/\1<=k/\k<160000000/\
  k^(2*n)*dnP (K1 (KR (Y6 T) note) t t0++[(a,2*(n:Int))])<=upP (K1 (KR (Y6 T) note) t t0++[(a,2*(n:Int))])/\
  upP (K1 (KR (Y6 T) note) t t0++[(a,2*(n:Int))])<(k+1)^(2*n)*dnP (K1 (KR (Y6 T) note) t t0++[(a,2*(n:Int))])/\
  (ex=true↔upP (K1 (KR (Y6 T) note) t t0++[(a,2*(n:Int))])=k^(2*n)*dnP (K1 (KR (Y6 T) note) t t0++[(a,2*(n:Int))])):=by
 obtain⟨ha,h0,h1⟩:=GV hS
 have hrn:=h.rng
 obtain⟨_,_,s3,s4,s5⟩:=Ycu hT hn hr h h1 h0
 obtain⟨k,ex,f1,f2,f3,f4,f5⟩:=Ykd hS hT hn hr h
 obtain⟨p1,p2⟩:=MV (o:=note/12-5) h h1 h0
 have t1:=VZ h1
 have t2:=VZ h0
 have posU:=KM r.a r.b r.c
 have posV:=KM (-r.a) (-r.b) (-r.c)
 have posE:=KM (2*(n:Int)*(note/12-5)) 0 0
 have posF:=KM (-(2*(n:Int)*(note/12-5))) 0 0
 have hY:0<dnP (Kt r n (note/12-5) t t0):=by
  rw[p2]
  exact Y3 (YD posV) (Y3 posF (YD (by omega)))
 have hlo:dnP (Kt r n (note/12-5) t t0)*1^(2*n)<upP (Kt r n (note/12-5) t t0)*a.toNat^(2*n):=by
  rw[p1,p2]
  exact AF hrn.1 posU posE h.d (Yhi (by omega)) (Ynp t2.2 t1.1 (by omega))
 have hk1:1<=k:=by
  rcases KU k with e|e
  ·subst e
   rw[KL]at f4
   exact absurd (Nat.lt_trans hlo f4) (XX _)
  ·exact e
 have hn0:¬2*(n:Int)<0:=by omega
 have eU:upP (K1 (KR (Y6 T) note) t t0++[(a,2*(n:Int))])=upP (K1 (KR (Y6 T) note) t t0)*a.toNat^(2*n):=by
  rw[(Xf _ _).1,upP,upP,if_neg hn0,Kb,show(2*(n:Int)).toNat=2*n by omega]
 have eD:dnP (K1 (KR (Y6 T) note) t t0++[(a,2*(n:Int))])=dnP (K1 (KR (Y6 T) note) t t0):=by
  rw[(Xf _ _).2,dnP,dnP,if_neg hn0,Kb]
  try rw[Kb]
 rw[eU,eD]
 refine⟨k,ex,f1,hk1,f2,?_,?_,?_⟩
 ·rw[Yk (k^_)]
  exact(AD s3 s5 hY).1.2 f3
 ·rw[Yk ((k+1)^_)]
  exact Nat.lt_of_not_le fun hh=>absurd ((AD s3 s5 hY).1.1 hh) (Nat.not_le.2 f4)
 ·rw[f5,Yk (k^_)]
  constructor
  ·rintro⟨_,e⟩
   exact(AD s3 s5 hY).2.2 e
  ·intro e
   exact⟨hk1,(AD s3 s5 hY).2.1 e⟩
theorem Ydf(k:Nat)(ex:Bool):(Gx k ex).1=k/\∃h:Nat,(Gx k ex).2=h/\k<=h/\h<=k+1/\(ex=true->h=k)/\(ex=false->h=k+1):=by
 unfold Gx
 cases ex
 ·exact⟨rfl,k+1,rfl,by omega,by omega,by simp,by simp⟩
 ·exact⟨rfl,k,rfl,by omega,by omega,by simp,by simp⟩
theorem PowR.hi{l:List (Int×Int)}{s den B k h:Nat}{ex:Bool}(p:PowR l s den B k ex)(h1:ex=true->h=k)(h2:ex=false->h=k+1):upP l*s^den<=dnP l*h^den:=by
 cases hx:ex
 ·rw[h2 hx];exact JN p.up
 ·rw[h1 hx];exact YB (p.ex_iff.1 hx).2
set_option maxHeartbeats 4000000
def Yef:VF:={ ntmps:=6,res:=[.tmp 2],body:=
 (ZR [Zi 2 0]
 (ZR [Zm 3 0,
 Zc 4 137 3,
 u1 5 (.ari .sub) [.cn (.int .i64 32),.tm 4],
 Zm 2 5]
 .ret))}
theorem Ysa:Yn Yb Tryz.f136=some Yef:=by kernel_rfl
def YdU:VF:={ ntmps:=8,res:=[.tmp 2],body:=
 (ZR [Zi 2 0]
 (.seq (.cond (.cn (.bool false)) (ZR [Zm 3 0,
 u1 4 (.conv .u32) [.tm 3],
 Zc 5 137 4,
 Zm 2 5]
 .ret)
  .skip)
 (ZR [Zm 6 0,
 Zc 7 138 6,
 Zm 2 7]
 .ret)))}
theorem YrM:Yn Yb Tryz.f112=some YdU:=by kernel_rfl
def YdT:VF:={ ntmps:=17,res:=[.tmp 2],body:=
 (ZR [Zi 2 0]
 (.seq (ZR [Zm 3 0,
 Zl 4 3,
 Zq 5 .eql 4 0]
 (ZC 5 (ZR [Zi 2 0]
 .ret)
  .skip))
 (ZR [Zm 6 0,
 Zl 7 6,
 u1 8 (.ari .mul) [.cn (.int .i64 32),.tm 7],
 Zm 9 0,
 Zm 10 0,
 Zl 11 10,
 u1 12 (.ari .sub) [.tm 11,.cn (.int .i64 1)],
 Zx 13 1 9 12,
 Zf 14 1 13,
 Zc 15 136 14,
 Zo 16 .sub 8 15,
 Zm 2 16]
 .ret)))}
theorem YrL:Yn Yb Tryz.f111=some YdT:=by kernel_rfl
def v74:VF:=⟨43,[.tmp 4,.tmp 5],(ZR [u1 4 .mov [.cn .nil],u1 5 .mov [.cn (.bool false)]] (.seq (ZR [Zm 8 0,Zl 9 8,Zq 10 .gtr 9 0,Zm 11 10,Zg 12 11 true 0,u2 13 11 true (.call 111) [.tm 12],u2 14 11 true (.ari .sub) [.tm 13,.cn (.int .i64 1)],Zg 15 11 true 1,u2 16 11 true (.ari .mul) [.tm 14,.tm 15],u2 17 11 true (.cmp .geq) [.tm 16,.cn (.int .i64 16384)],u1 18 .and [.tm 11,.tm 17]] (ZC 18 (ZR [u1 4 .mov [.cn .nil],u1 5 .mov [.cn (.bool false)]] .ret) .skip)) (ZR [u1 19 (.call 72) [.cn (.int .u64 1)],Zm 6 19] (.seq (ZR [Zm 20 1,u1 21 (.conv .u64) [.tm 20],Zc 22 112 21,u1 23 (.ari .sub) [.tm 22,.cn (.int .i64 1)],Zm 7 23] (.block 0 (.loop (.seq (ZR [Zm 24 7,Zq 25 .geq 24 0] (ZC 25 .skip (.exit 0))) (.seq (.block 1 (ZR [Zm 28 6,Zm 29 6,Zd 30 75 28 29,Zm 6 30] (ZR [Zm 31 1,Zm 32 7,u1 33 .shr [.tm 31,.tm 32],u1 34 (.bit .and) [.tm 33,.cn (.int .i64 1)],Zq 35 .eql 34 1] (ZC 35 (.region [Zm 36 6,Zm 37 0,Zd 38 75 36 37,Zm 6 38]) .skip)))) (.region [Zm 26 7,u1 27 (.ari .sub) [.tm 26,.cn (.int .i64 1)],Zm 7 27])))))) (ZR [Zm 39 6,Zm 40 6,Zl 41 40,Zq 42 .leq 41 512,Zm 4 39,Zm 5 42] .ret)))))⟩
theorem Ytq:Yn Yb Tryz.f74=some v74:=by kernel_rfl
def v39:VF:=⟨32,[.tmp 4,.tmp 5],(ZR [u1 4 .mov [.cn .nil],Zi 5 0] (ZR [Zm 9 0,u1 10 (.buildSlice 1 1 [.nil] [(0,1)]) [.tm 9],Zc 11 73 10,Zm 6 11] (.seq (.block 0 (ZR [Zm 13 6,Zq 14 .neq 13 0,Zm 12 14] (ZC 12 (ZR [Zm 15 6,u1 4 .mov [.cn .nil],Zm 5 15] .ret) (ZR [Zm 17 1,Zq 18 .lss 17 0,Zm 19 18,Zg 20 19 false 1,u2 21 19 false (.cmp .gtr) [.tm 20,.cn (.int .i64 20000)],u1 22 .or [.tm 19,.tm 21],Zm 16 22] (ZC 16 (ZR [u1 4 .mov [.cn .nil],Zi 5 2] .ret) .skip))))) (ZR [Zm 24 0,Zm 25 1,Zd 26 74 24 25,Zm 23 26,Ze 27 0 23,Ze 28 1 23,Zm 7 27,Zm 8 28] (.seq (ZR [Zm 29 8,u1 30 .not [.tm 29]] (ZC 30 (ZR [u1 4 .mov [.cn .nil],Zi 5 3] .ret) .skip)) (ZR [Zm 31 7,Zm 4 31,Zi 5 0] .ret))))))⟩
theorem YsR:Yn Yb Tryz.f39=some v39:=by kernel_rfl
theorem YeQ:∀(f x:Nat),x<2^f->Lib.bitLenAux f x=Yw x
 |0,x,h=>by
  have:x=0:=by simpa using h
  subst this;rfl
 |f+1,x,h=>by
  rw[Lib.bitLenAux]
  split
  ·rename_i h0;subst h0;rfl
  ·rename_i h0
   rw[YF]at h
   rw[YeQ f (x/2) (by omega),Dt (a:=x) (by omega)];omega
theorem YeP{x:Nat}(h:x<18446744073709551616):Lib.bitLen x=Yw x:=YeQ 64 x h
def wl64C:Ctr:={ alias:=false,of:=fun l=>match l with
 | [.int .u64 x]=> .pre (0<=x/\x<=18446744073709551615) (.fin (.int .i64 (Yw x.toNat)) [])
 |_=>noC}
theorem Yt9:wl64C.ok Yb 138:=by
 intro args vs z k hsat hx hc
 simp only[wl64C]at hc
 split at hc
 ·rename_i x
  obtain⟨⟨h0,h1⟩,hc⟩:=hc
  cases hx with|cons _ v _ l g1 hx=>
  cases hx
  cases g1
  refine(len64_calls x z.toWorld h0 h1).mono ?_
  rintro e w' ⟨rfl,rfl⟩
  rw[YeP (by omega)]
  exact⟨_,[],_,[],z.I,Ql z,hc,rfl,.x _ _ (.int _ _),hp0 (hJ:=Ql z) hsat.1,BelowI.refl _ _,fun _=>⟨trivial,trivial⟩⟩
 ·exact hc.1.elim
def wl32C:Ctr:={ alias:=false,of:=fun l=>match l with
 | [.int .u32 x]=> .pre (0<=x/\x<=4294967295) (.fin (.int .i64 (Yw x.toNat)) [])
 |_=>noC}
theorem Yt8:wl32C.ok Yb 137:=by
 intro args vs z k hsat hx hc
 simp only[wl32C]at hc
 split at hc
 ·rename_i x
  obtain⟨⟨h0,h1⟩,hc⟩:=hc
  cases hx with|cons _ v _ l g1 hx=>
  cases hx
  cases g1
  refine(len32_calls x z.toWorld h0 h1).mono ?_
  rintro e w' ⟨rfl,rfl⟩
  rw[YeP (by omega)]
  exact⟨_,[],_,[],z.I,Ql z,hc,rfl,.x _ _ (.int _ _),hp0 (hJ:=Ql z) hsat.1,BelowI.refl _ _,fun _=>⟨trivial,trivial⟩⟩
 ·exact hc.1.elim
def wlz32C:Ctr:={ alias:=false,of:=fun l=>match l with
 | [.int .u32 x]=> .pre (0<=x/\x<=4294967295) (.fin (.int .i64 (32-(Yw x.toNat:Int))) [])
 |_=>noC}
def WPa:Env:={ ct:=fun n=>match n with|137=>some wl32C|138=>some wl64C|_=>none,fn:=fun _=>none,meth:=fun _ _=>none}
theorem YhN:WPa.ct 137=some wl32C:=rfl
theorem YhO:WPa.ct 138=some wl64C:=rfl
theorem Ta:YE Yb WPa:=by
 refine⟨fun f c h=>?_,fun f vf h=>?_,(fun _ _ _ h=>by cases h),by kernel_rfl,(fun _ h=>by cases h)⟩
 ·simp only[WPa]at h
  split at h
  ·cases h;exact⟨Yt8,_,Tryz.func137,rfl,rfl⟩
  ·cases h;exact⟨Yt9,_,Tryz.func138,rfl,rfl⟩
  ·cases h
 ·cases h
theorem Yub:wlz32C.ok Yb 136:=by
 refine Yv Tryz.func136 Ysa Ta 100 wlz32C fun args k h=>?_
 simp only[wlz32C]at h
 split at h
 ·rename_i x
  obtain⟨⟨h0,h1⟩,h⟩:=h
  refine⟨[.int .u32 x],by simp [leL,le],?_⟩
  dsimp only[Yef,YhN,wl32C,go_sem,reduceIte,Ya]
  simp only[Yd,Ya,Ye,reduceCtorEq,Yc]
  refine⟨⟨h0,h1⟩,YX ?_⟩
  have:Yw x.toNat<=32:=bitsN_le.2 (by have:(2:Nat)^32=4294967296:=rfl;omega)
  rw[Yg _ (by omega)]
  exact h
 ·exact h.1.elim
theorem Yua:wl64C.ok Yb 112:=by
 refine Yv Tryz.func112 YrM Ta 100 wl64C fun args k h=>?_
 simp only[wl64C]at h
 split at h
 ·rename_i x
  obtain⟨⟨h0,h1⟩,h⟩:=h
  refine⟨[.int .u64 x],by simp [leL,le],?_⟩
  dsimp only[YdU,YhO,wl64C,go_sem,reduceIte,Ya]
  simp only[Yd,Ya,Ye,reduceCtorEq,Yc]
  exact⟨⟨h0,h1⟩,YX h⟩
 ·exact h.1.elim
def wbitsC:Ctr:={ alias:=false,of:=fun l=>match l with
 | [.vs _ z n sz get]=> .ex Nat fun a=> .pre (okW a n sz get) (.fin (.int .i64 (Yw a)) [])
 |_=>noC}
def WPb:Env:={ ct:=fun n=>match n with|136=>some wlz32C|_=>none,fn:=fun _=>none,meth:=fun _ _=>none}
theorem YhP:WPb.ct 136=some wlz32C:=rfl
theorem YhQ:YE Yb WPb:=by
 refine⟨fun f c h=>?_,fun f vf h=>?_,(fun _ _ _ h=>by cases h),by kernel_rfl,(fun _ h=>by cases h)⟩
 ·simp only[WPb]at h
  split at h
  ·cases h;exact⟨Yub,_,Tryz.func136,rfl,rfl⟩
  ·cases h
 ·cases h
theorem Yt5:wbitsC.ok Yb 111:=by
 refine Yv Tryz.func111 YrL YhQ 200 wbitsC fun args k h=>?_
 simp only[wbitsC]at h
 split at h
 ·rename_i tt z n sz get
  obtain⟨a,⟨⟨rfl,hn,ha,hg⟩,hna,hn5⟩,h⟩:=h
  refine⟨[.vs tt z n 1 (fun k=>[.int .u32 (dig a k)])],by simpa [leL,le]using hg,?_⟩
  dsimp only[YdT,YhP,wlz32C,go_sem,reduceIte,Ya]
  simp only[Yd,Ya,Ye,reduceCtorEq,Yc]
  refine⟨fun h0=>?_,fun h0=>?_⟩
  ·have:a=0:=nl_eq0.1 (by omega)
   rw[this]at h
   exact YX h
  ·have hp:0<n:=by omega
   obtain⟨m,hm⟩:∃m,n=m+1:=⟨n-1,by omega⟩
   have hb:=Yiv (a:=a) (m:=m) (by omega)
   have hd:=Qk a m
   have h32:Yw (dig a m)<=32:=bitsN_le.2 hd
   rw[Y2 hp (by omega),Yh,show n-1=m by omega,Yh]
   refine⟨⟨by omega,by omega⟩,⟨by omega,by omega⟩,YX ?_⟩
   rw[Yg (32*(n:Int)) (by omega),Yg _ (by omega),show 32*(n:Int)-(32-(Yw (dig a m):Int))=(Yw a:Int)by omega]
   exact h
 ·exact h.1.elim
def wpowC:Ctr:={ alias:=false,of:=fun l=>match l with
 | [.vs _ z n sz get,.int .i64 k]=> .ex Nat fun a=> .ex Nat fun K=> .pre (okW a n sz get/\k=K/\K<=20000/\nl (a^K)<=512) (.fin (.tup [Ym false (a^K),.bool true]) [])
 |_=>noC}
theorem YnX{a K M:Nat}(ha:0<a)(h:nl (a^K)<=M):(Yw a-1)*K<32*M:=by
 have h1:2^(Yw a-1)<=a:=by
  have hb:Yw a≠0:=fun e=>by have:=bitsN_eq0.1 e;omega
  have:¬a<2^(Yw a-1):=fun hh=>by have:=bitsN_le.2 hh;omega
  omega
 have h2:=YM h1 K
 rw[<-Yl]at h2
 have h3:=nl_le.1 h
 rw[Wr]at h3
 exact(Nat.pow_lt_pow_iff_right (by decide)).1 (Jn h2 h3)
theorem YnW{a K:Nat}(ha:0<a)(h:nl (a^K)<=512):(Yw a-1)*K<16384:=YnX ha h
theorem and1{x:Nat}(h:x<9223372036854775808):Jw .and .i64 (x:Int) 1=((x%2:Nat):Int):=by
 show IntKind.i64.wrap ((BitVec.ofInt 64 (x:Int)&&&BitVec.ofInt 64 1).toNat:Int)=_
 have h2:(BitVec.ofInt 64 1).toNat=1:=by decide
 rw[BitVec.toNat_and,H7 (by omega),h2,Nat.and_one_is_mod,Yg _ (by omega)]
theorem YnZ{a K m:Nat}(h:nl (a^K)<=512)(hm:m<=K):nl (a^m)<=512:=by
 rcases KU a with e|e
 ·subst e
  rcases KU m with e|e
  ·subst e;decide
  ·rw[Nat.zero_pow e,XL];decide
 ·exact Yj (G9 (Kl e hm)) h
def WPc:Env:={ ct:=fun n=>match n with|111=>some wbitsC|72=>some ofC|112=>some wl64C|75=>some wtimC|_=>none,fn:=fun _=>none,meth:=fun _ _=>none}
theorem Tb:WPc.ct 111=some wbitsC:=rfl
theorem Td:WPc.ct 72=some ofC:=rfl
theorem Tc:WPc.ct 112=some wl64C:=rfl
theorem Te:WPc.ct 75=some wtimC:=rfl
theorem YhR:YE Yb WPc:=by
 refine⟨fun f c h=>?_,fun f vf h=>?_,(fun _ _ _ h=>by cases h),by kernel_rfl,(fun _ h=>by cases h)⟩
 ·simp only[WPc]at h
  split at h
  ·cases h;exact⟨Yt5,_,Tryz.func111,rfl,rfl⟩
  ·cases h;exact⟨YeO,_,Tryz.func72,rfl,rfl⟩
  ·cases h;exact⟨Yua,_,Tryz.func112,rfl,rfl⟩
  ·cases h;exact⟨YeU,_,Tryz.func75,rfl,rfl⟩
  ·cases h
 ·cases h
theorem Yue:wpowC.ok Yb 74:=by
 refine Yv Tryz.func74 Ytq YhR 300 wpowC fun args k h=>?_
 simp only[wpowC]at h
 split at h
 ·rename_i tt z n sz get kk
  obtain⟨a,K,⟨⟨⟨rfl,hn,ha,hg⟩,hna,hn5⟩,rfl,hK,hP⟩,h⟩:=h
  refine⟨[.vs tt z n 1 (fun k=>[.int .u32 (dig a k)]),.int .i64 K],by simpa [leL,le]using hg,?_⟩
  dsimp only[v74,Tb,Td,Tc,Te,wbitsC,ofC,wl64C,wtimC,Ym,go_sem,reduceIte,Ya]
  simp only[Yd,Ya,Ye,reduceCtorEq,Yc]
  have hb:0<n->((Yw a:Int)-1)*K<16384/\0<=((Yw a:Int)-1)*K:=fun h0=>by
   have ha0:0<a:=by
    rcases KU a with e|e
    ·rw[e,XL]at hna;omega
    ·exact e
   have hb0:Yw a≠0:=fun e=>by have:=bitsN_eq0.1 e;omega
   have h1:=YnW ha0 hP
   obtain⟨b,hbb⟩:∃b,Yw a=b+1:=⟨Yw a-1,by omega⟩
   rw[hbb]at h1⊢
   have e:((b+1:Nat):Int)-1=(b:Int):=by omega
   rw[e,<-JV]
   have h2:(b+1-1)*K=b*K:=rfl
   omega
  have hbn:=Yiu a
  have hKb:Yw K<=15:=bitsN_le.2 (by omega)
  have hKu:IntKind.u64.wrap (K:Int)=K:=by rw[IntKind.wrap_u64];omega
  refine⟨a,fun _=>⟨⟨rfl,hn,ha,fun k _=>Y1 _⟩,hna,hn5⟩,fun hh=>?_,fun _=>⟨by decide,by omega,?_⟩⟩
  ·rw[YS,decide_eq_true_eq,decide_eq_true_eq]at hh
   have hb:=hb (by omega)
   rw[Yg ((Yw a:Int)-1) (by omega),Yg _ (by omega)]at hh
   omega
  rw[hKu,Yh,Yg ((Yw K:Int)-1) (by omega)]
  refine Loop.keep [0,0,2,0] Nat (fun j=>[(7,.int .i64 ((j:Int)-1)),(6,.vs true false (nl (a^(K/2^j))) 1 (fun k=>[.int .u32 (dig (a^(K/2^j)) k)]))]) (fun _=>[]) [] (fun j=>j<=15) (fun j=>j) ?_ ?_
  ·refine⟨Yw K,hKb,?_⟩
   have e0:K/2^Yw K=0:=Qu (US K)
   rw[e0,JO]
   dsimp only[go_sem,reduceIte,Ya]
   simp only[Yf]
   exact⟨rfl,fun _ _=>Y1 _⟩
  ·rintro j hj
   dsimp only[Tb,Td,Tc,Te,wbitsC,ofC,wl64C,wtimC,Ym,Yh,go_sem,reduceIte,Ya]
   simp only[Yd,Ya,Ye,reduceCtorEq,Yc]
   have hPj:nl (a^(K/2^j))<=512:=YnZ hP (QP _ _)
   refine⟨fun hge=>?_,fun hlt=>?_⟩
   ·obtain⟨i,rfl⟩:∃i,j=i+1:=⟨j-1,by omega⟩
    have ei:((i+1:Nat):Int)-1=(i:Int):=by omega
    have eb:Jw .and .i64 ((K:Int).fdiv (2^min i 64)) 1=((Dr K i:Nat):Int):=by
     have:K/2^i<=K:=QP _ _
     rw[Fu (by omega),and1 (by omega)];rfl
    have hh:=Ykx K i
    have hl:=Yis K i
    obtain⟨m,hm⟩:∃m,K/2^(i+1)=m:=⟨_,rfl⟩
    rw[hm]at hPj hh⊢
    have h2:nl (a^m*a^m)<=1024:=Ya1 (n:=512) (m:=512) hPj hPj
    have e2:a^m*a^m=a^(2*m):=by rw[<-Yo];congr 1;omega
    rw[ei,Yh,eb,Yg ((i:Int)-1) (by omega)]
    refine⟨a^m,a^m,⟨YJ (by omega),YJ (by omega),by omega⟩,by omega,fun h1=>?_,fun h1=>?_⟩
    ·have e3:a^m*a^m*a=a^(K/2^i):=by rw[e2,<-YF];congr 1;omega
     refine⟨a^m*a^m,a,⟨YJ (by omega),⟨rfl,hn,ha,fun k _=>Y1 _⟩,by omega⟩,i,by omega,by omega,?_⟩
     rw[e3]
     simp only[Yf]
    ·have e3:a^m*a^m=a^(K/2^i):=by rw[e2];congr 1;omega
     refine⟨i,by omega,by omega,?_⟩
     rw[e3]
     simp only[Yf]
   ·obtain rfl:j=0:=by omega
    have e0:K/2^0=K:=by rw[JO,Nat.div_one]
    rw[e0]at hPj⊢
    rw[decide_eq_true (by omega:((nl (a^K):Nat):Int)<=512)]
    exact Ky (show k (.tup [Ym false (a^K),.bool true]) []from h) (Jq _ ⟨trivial,trivial,trivial⟩) (fun _=>by simp [Ym,Y0,Y4])
 ·exact h.1.elim
def wPowC:Ctr:={ alias:=false,of:=fun l=>match l with
 | [.vs _ z n sz get,.int .i64 k]=> .ex Nat fun a=> .ex Nat fun K=> .pre (okW a n sz get/\k=K/\K<=20000/\nl (a^K)<=512) (.fin (.tup [Ym false (a^K),.int .i64 0]) [])
 |_=>noC}
def WPd:Env:={ ct:=fun n=>match n with|73=>some wchkC|74=>some wpowC|_=>none,fn:=fun _=>none,meth:=fun _ _=>none}
theorem YhS:WPd.ct 73=some wchkC:=rfl
theorem YhT:WPd.ct 74=some wpowC:=rfl
theorem YhU:YE Yb WPd:=by
 refine⟨fun f c h=>?_,fun f vf h=>?_,(fun _ _ _ h=>by cases h),by kernel_rfl,(fun _ h=>by cases h)⟩
 ·simp only[WPd]at h
  split at h
  ·cases h;exact⟨YeL,_,Tryz.func73,rfl,rfl⟩
  ·cases h;exact⟨Yue,_,Tryz.func74,rfl,rfl⟩
  ·cases h
 ·cases h
theorem YeF:wPowC.ok Yb 39:=by
 refine Yv Tryz.func39 YsR YhU 300 wPowC fun args k h=>?_
 simp only[wPowC]at h
 split at h
 ·rename_i tt z n sz get kk
  obtain⟨a,K,⟨⟨⟨rfl,hn,ha,hg⟩,hna,hn5⟩,rfl,hK,hP⟩,h⟩:=h
  refine⟨[.vs tt z n 1 (fun k=>[.int .u32 (dig a k)]),.int .i64 K],by simpa [leL,le]using hg,?_⟩
  subst hna
  dsimp only[v39,YhS,YhT,wchkC,wpowC,Ym,go_sem,reduceIte,Ya]
  simp only[Yd,Ya,Ye,reduceCtorEq,Yc]
  refine⟨by decide,_,⟨Ybm,Ybk hn5⟩,fun hh=>absurd trivial hh,fun hb=>?_,fun _=>⟨a,K,⟨⟨⟨rfl,hn,ha,fun k _=>Y1 _⟩,rfl,hn5⟩,rfl,hK,hP⟩,by decide,by decide,F0 (show k (.tup [Ym false (a^K),.int .i64 0]) []from h)⟩⟩
  rw[Qt,decide_eq_true_eq,decide_eq_true_eq]at hb
  omega
 ·exact h.1.elim
def v37:VF:=⟨11,[.tmp 2],(ZR [Zi 2 0] (ZR [Zi 3 0] (.seq (.block 0 (.loop (.seq (ZR [Zm 4 0,Zq 5 .gtr 4 0] (ZC 5 .skip (.exit 0))) (.block 1 (ZR [Zm 6 0,u1 7 .quo [.tm 6,.cn (.int .i64 2)],Zm 0 7] (.region [Zm 8 3,Zp 9 8 1,Zm 3 9])))))) (ZR [Zm 10 3,Zm 2 10] .ret))))⟩
theorem YsP:Yn Yb Tryz.f37=some v37:=by kernel_rfl
def v14:VF:=⟨92,[.tmp 2,.tmp 3,.tmp 4],(ZR [u1 2 .mov [.cn .nil],u1 3 .mov [.cn .nil],u1 4 .mov [.cn (.bool false)]] (ZR [Zi 5 0] (.seq (ZR [Zi 6 0] (.block 0 (.loop (.seq (ZR [Zm 12 6,Zm 13 0,Zl 14 13,Zr 15 .lss 12 14] (ZC 15 .skip (.exit 0))) (.seq (.block 1 (.draw [] [Zu 18 5,Zu 19 0,Zu 20 6,ZX 21 2 19 20,Zy 22 0 21,Zv 23 1 22,Zu 25 0,Zu 26 6,ZX 27 2 25 26,Zy 28 1 27,Zv 29 1 28,Zu 30 0,Zu 31 6,ZX 32 2 30 31,Zy 33 1 32,Zv 34 1 33,w1 35 .neg [.tm 34],w1 36 .max [.tm 29,.tm 35],w1 24 (.call 37) [.tm 23],w1 37 (.ari .mul) [.tm 24,.tm 36],w1 38 (.ari .add) [.tm 18,.tm 37],Zu 5 38])) (.region [Zm 16 6,Zp 17 16 1,Zm 6 17])))))) (.seq (ZR [Zm 39 5,Zq 40 .gtr 39 7000] (ZC 40 (ZR [u1 2 .mov [.cn .nil],u1 3 .mov [.cn .nil],u1 4 .mov [.cn (.bool false)]] .ret) .skip)) (ZR [u1 41 (.call 38) [.cn (.int .u64 1)],u1 42 (.call 38) [.cn (.int .u64 1)],Zm 7 41,Zm 8 42] (.seq (ZR [Zi 9 0] (.block 2 (.loop (.seq (ZR [Zm 43 9,Zm 44 0,Zl 45 44,Zr 46 .lss 43 45] (ZC 46 .skip (.exit 2))) (.seq (.block 3 (.seq (.draw [] [Zu 50 0,Zu 51 9,ZX 52 2 50 51,Zy 53 0 52,Zv 54 1 53,w1 55 (.conv .u64) [.tm 54],Zu 57 0,Zu 58 9,ZX 59 2 57 58,Zy 60 1 59,Zv 61 1 60,Zu 62 0,Zu 63 9,ZX 64 2 62 63,Zy 65 1 64,Zv 66 1 65,w1 67 .neg [.tm 66],w1 68 .max [.tm 61,.tm 67],w1 56 (.call 38) [.tm 55],Zz 69 39 56 68,Zu 49 69,ZE 70 0 49,ZE 71 1 49,Zu 10 70,Zu 11 71]) (ZR [Zm 72 0,Zm 73 9,Zx 74 2 72 73,Za 75 1 74,Zf 76 1 75,Zq 77 .gtr 76 0] (ZC 77 (.region [Zm 79 7,Zm 80 10,Zd 81 40 79 80,Zm 78 81,Ze 82 0 78,Ze 83 1 78,Zm 7 82]) (.region [Zm 85 8,Zm 86 10,Zd 87 40 85 86,Zm 84 87,Ze 88 0 84,Ze 89 1 84,Zm 8 88]))))) (.region [Zm 47 9,Zp 48 47 1,Zm 9 48])))))) (ZR [Zm 90 7,Zm 91 8,Zm 2 90,Zm 3 91,u1 4 .mov [.cn (.bool true)]] .ret)))))))⟩
theorem Ysn:Yn Yb Tryz.f14=some v14:=by kernel_rfl
def v16:VF:=⟨46,[.tmp 8],(ZR [Zi 8 0] (ZR [Zm 16 0,u1 17 (.conv .u64) [.tm 16],Zc 18 38 17,Zm 19 1,Zd 20 39 18 19,Zm 15 20,Ze 21 0 15,Ze 22 1 15,Zm 9 21,Zm 10 22] (ZR [Zm 24 9,Zm 25 3,Zd 26 40 24 25,Zm 23 26,Ze 27 0 23,Ze 28 1 23,Zm 11 27,Zm 12 28] (ZR [Zm 30 11,Zm 31 2,Zd 32 43 30 31,Zm 29 32,Ze 33 0 29,Ze 34 1 29,Zm 13 33,Zm 14 34] (.seq (ZR [Zm 35 10,Zq 36 .neq 35 0,Zm 37 36,Zg 38 37 false 12,u2 39 37 false (.cmp .neq) [.tm 38,.cn (.int .i64 0)],u1 40 .or [.tm 37,.tm 39],Zm 41 40,Zg 42 41 false 14,u2 43 41 false (.cmp .neq) [.tm 42,.cn (.int .i64 0)],u1 44 .or [.tm 41,.tm 43]] (ZC 44 (ZR [Zi 8 2] .ret) .skip)) (ZR [Zm 45 13,Zm 8 45] .ret))))))⟩
theorem Ysx:Yn Yb Tryz.f16=some v16:=by kernel_rfl
def lbitC:Ctr:={ alias:=false,of:=fun l=>match l with
 | [.int .i64 n]=> .pre (0<=n/\n<=1000000000000) (.fin (.int .i64 (Yw n.toNat)) [])
 |_=>noC}
def LEa:Env:={ ct:=fun _=>none,fn:=fun _=>none,meth:=fun _ _=>none}
theorem Ye3:YE Yb LEa:=by
 refine⟨fun f c h=>?_,fun f vf h=>?_,(fun _ _ _ h=>by cases h),by kernel_rfl,(fun _ h=>by cases h)⟩
 ·cases h
 ·cases h
theorem YlE:lbitC.ok Yb 37:=by
 refine Yv Tryz.func37 YsP Ye3 100 lbitC fun args k h=>?_
 simp only[lbitC]at h
 split at h
 ·rename_i n
  obtain⟨⟨h0,h1⟩,h⟩:=h
  obtain⟨N,rfl⟩:=Vl h0
  refine⟨[.int .i64 N],by simp [leL,le],?_⟩
  dsimp only[v37,go_sem,reduceIte,Ya]
  simp only[Yd,Ya,Ye,reduceCtorEq,Yc]
  have hB:Yw N<=40:=bitsN_le.2 (by omega)
  refine Loop.keep [2] (Nat×Nat) (fun x=>[(0,.int .i64 x.1),(3,.int .i64 x.2)]) (fun _=>[]) [] (fun x=>x.1<=N/\x.2+Yw x.1=Yw N) (fun x=>x.1) ?_ ?_
  ·refine⟨(N,0),⟨Yr _,KL _⟩,?_⟩
   dsimp only[go_sem,reduceIte,Ya]
   simp only[Yf]
   rfl
  ·rintro⟨x,m⟩ ⟨hx,hm⟩
   dsimp only at hx hm⊢
   dsimp only[go_sem,reduceIte,Ya]
   simp only[Yd,Ya,Ye,reduceCtorEq,Yc]
   refine⟨fun hp=>?_,fun hz=>?_⟩
   ·have hb:=Dt (a:=x) (by omega)
    have e1:(x:Int).tdiv 2=((x/2:Nat):Int):=by rw[ZG (by omega)];omega
    rw[e1,Yg ((x/2:Nat):Int) (by omega),Yg ((m:Int)+1) (by omega)]
    refine⟨by decide,(x/2,m+1),⟨by show x/2<=N;omega,by show m+1+Yw (x/2)=Yw N;omega⟩,by omega,?_⟩
    simp only[Yf]
    show(m:Int)+1=((m+1:Nat):Int)
    rfl
   ·have e:x=0:=by omega
    subst e
    rw[Yit,Kw]at hm
    rw[hm]
    exact YX h
 ·exact h.1.elim
def K7:List (Int×Int)->Nat
 | []=>0
 |x::l=>Yw x.1.toNat*x.2.natAbs+K7 l
theorem A5:∀a b:List (Int×Int),K7 (a++b)=K7 a+K7 b
 | [],b=>by simp [K7]
 |x::a,b=>by
  rw[ZH,K7,K7,A5 a b];omega
theorem A7{l:List (Int×Int)}{i:Nat}(hi:i<l.length):l.take (i+1)=l.take i++[l.getD i default]:=by
 rw[List.take_succ,Wu hi,Kp,Wu hi]
 rfl
def okE(x:Int×Int):Prop:=(1<=x.1/\x.1<=1000000000)/\ -10000000<=x.2/\x.2<=10000000
theorem Ydq:∀l:List (Int×Int),(∀x,x∈l->okE x)->K7 l<=300000000*l.length
 | [],_=>Yr _
 |x::l,h=>by
  have h1:=Ydq l fun y hy=>h y (KH _ hy)
  obtain⟨⟨a,b⟩,c,d⟩:=h x (KF ..)
  have hb:Yw x.1.toNat<=30:=bitsN_le.2 (by omega)
  have:=YP hb (show x.2.natAbs<=10000000 by omega)
  rw[K7,Xr]
  omega
theorem PD:∀l:List (Int×Int),(∀x,x∈l->okE x)->upP l<=2^K7 l/\dnP l<=2^K7 l
 | [],_=>⟨Yr _,Yr _⟩
 |x::l,h=>by
  obtain⟨h1,h2⟩:=PD l fun y hy=>h y (KH _ hy)
  rw[K7,upP,dnP,Yo]
  have hp:∀n,n=x.2.natAbs->x.1.toNat^n<=2^(Yw x.1.toNat*x.2.natAbs):=fun n hn=>by
   rw[hn,Yl]
   exact YM (JN (US _)) _
  have h0:1<=2^(Yw x.1.toNat*x.2.natAbs):=Ja _
  constructor
  ·refine YP ?_ h1
   split
   ·exact h0
   ·exact hp _ (by omega)
  ·refine YP ?_ h2
   split
   ·exact hp _ (by omega)
   ·exact h0
theorem Yng{a e M:Nat}(h:a<=2^e)(he:e<32*M):nl a<=M:=by
 rw[nl_le,Wr]
 exact Jn h ((Nat.pow_lt_pow_iff_right (by decide)).2 he)
theorem Ur{a e:Nat}(h:a<=2^e)(he:e<16384):nl a<=512:=Yng h he
theorem EG{a:Nat}(h:nl a<=512):Jx a=a/\ZP a=0:=⟨if_pos h,if_pos h⟩
def u6F(l:List (Int×Int)):Nat:=if 7000<K7 l then 0 else upP l
def d6F(l:List (Int×Int)):Nat:=if 7000<K7 l then 0 else dnP l
def lprdC:Ctr:={ alias:=false,of:=fun l=>match l with
 | [.vs _ _ n sz get]=> .ex (List (Int×Int)) fun l=> .pre (lsP 2 YA n sz get l/\l.length<=16/\∀x,x∈l->okE x)
     (.all Bool fun y=> .all Bool fun y'=> .fin (.tup [Ym y (u6F l),Ym y' (d6F l),.bool (decide (K7 l<=7000))]) [])
 |_=>noC}
def LEb:Env:={ ct:=fun n=>match n with|37=>some lbitC|38=>some ofC|39=>some wPowC|40=>some wMulC|_=>none,fn:=fun _=>none,meth:=fun _ _=>none}
theorem FI:LEb.ct 37=some lbitC:=rfl
theorem FJ:LEb.ct 38=some ofC:=rfl
theorem FK:LEb.ct 39=some wPowC:=rfl
theorem FL:LEb.ct 40=some wMulC:=rfl
theorem Ye4:YE Yb LEb:=by
 refine⟨fun f c h=>?_,fun f vf h=>?_,(fun _ _ _ h=>by cases h),by kernel_rfl,(fun _ h=>by cases h)⟩
 ·simp only[LEb]at h
  split at h
  ·cases h;exact⟨YlE,_,Tryz.func37,rfl,rfl⟩
  ·cases h;exact⟨RJ,_,Tryz.func38,rfl,rfl⟩
  ·cases h;exact⟨YeF,_,Tryz.func39,rfl,rfl⟩
  ·cases h;exact⟨RI,_,Tryz.func40,rfl,rfl⟩
  ·cases h
 ·cases h
theorem Ymy:lprdC.ok Yb 14:=by
 refine Yv Tryz.func14 Ysn Ye4 400 lprdC fun args k h=>?_
 simp only[lprdC]at h
 split at h
 ·rename_i tt z n sz get
  obtain⟨l,⟨⟨rfl,rfl,hg⟩,hlen,hl⟩,h⟩:=h
  refine⟨[.vs tt z l.length 2 (fun k=>YA (l.getD k default))],by simpa [leL,le]using hg,?_⟩
  dsimp only[v14,FI,FJ,FK,FL,lbitC,ofC,wPowC,wMulC,Ym,YA,go_sem,reduceIte,Ya]
  simp only[Yd,Ya,Ye,reduceCtorEq,Yc]
  refine Loop.keep [0,1,0,0] Nat (fun i=>[(6,.int .i64 i),(5,.int .i64 (K7 (l.take i)))]) (fun _=>[]) [] (fun i=>i<=l.length) (fun i=>l.length-i) ?_ ?_
  ·refine⟨0,JP _,?_⟩
   rw[List.take_zero]
   dsimp only[FI,FJ,FK,FL,lbitC,ofC,wPowC,wMulC,Ym,YA,go_sem,reduceIte,Ya]
   simp only[Yf]
   exact⟨rfl,rfl⟩
  ·rintro i hi
   dsimp only[FI,FJ,FK,FL,lbitC,ofC,wPowC,wMulC,Ym,YA,Yh,go_sem,reduceIte,Ya]
   simp only[Yd,Ya,Ye,reduceCtorEq,Yc]
   refine⟨fun hlt=>?_,fun hge=>?_⟩
   ·have hil:i<l.length:=by omega
    obtain⟨⟨a1,a2⟩,b1,b2⟩:=hl _ (KK hil)
    have hb:Yw (l.getD i default).1.toNat<=30:=bitsN_le.2 (by omega)
    have em:max (l.getD i default).2 (IntKind.i64.wrap (0-(l.getD i default).2))=((l.getD i default).2.natAbs:Int):=by
     rw[Yg _ (by omega)];omega
    have e1:K7 (l.take (i+1))=K7 (l.take i)+Yw (l.getD i default).1.toNat*(l.getD i default).2.natAbs:=by
     rw[A7 hil,A5,K7,K7,Kw]
    have hm:=YP hb (show(l.getD i default).2.natAbs<=10000000 by omega)
    have hs:=Ydq (l.take i) fun x hx=>hl x (List.mem_of_mem_take hx)
    have hlt2:(l.take i).length<=16:=by rw[J8];omega
    rw[em,<-JV,Yg ((Yw (l.getD i default).1.toNat*(l.getD i default).2.natAbs:Nat):Int) (by omega),Yg _ (by omega),Yg ((i:Int)+1) (by omega)]
    refine⟨⟨by omega,by omega⟩,⟨by omega,by omega⟩,⟨by omega,by omega⟩,⟨by omega,by omega⟩,i+1,by omega,by omega,?_⟩
    rw[e1]
    simp only[Yf]
    exact⟨by rw[WT],rfl⟩
   ·obtain rfl:i=l.length:=by omega
    rw[QB]
    refine⟨fun hb=>?_,fun hb=>⟨by decide,by decide,?_⟩⟩
    ·have h:k (.tup [Ym true (u6F l),Ym true (d6F l),.bool (decide (K7 l<=7000))]) []:=h true true
     rw[u6F,d6F,if_pos (by omega),if_pos (by omega),decide_eq_false (by omega)]at h
     exact Ky (show k _ []from h) (by simp [Ym,XL,QE,Qr,Qs,le,leL]) (fun _=>by simp [Ym,Y0,Y4])
    ·have h:∀y y':Bool,k (.tup [Ym y (upP l),Ym y' (dnP l),.bool true]) []:=fun y y'=>by
      have h:k (.tup [Ym y (u6F l),Ym y' (d6F l),.bool (decide (K7 l<=7000))]) []:=h y y'
      rw[u6F,d6F,if_neg (by omega),if_neg (by omega),decide_eq_true (by omega)]at h
      exact h
     have hS:K7 l<=7000:=by omega
     refine Loop.keep [0,1,0,0] (Nat×Bool×Bool) (fun x=>[(9,.int .i64 x.1),(7,.vs true x.2.1 (nl (upP (l.take x.1))) 1 (fun k=>[.int .u32 (dig (upP (l.take x.1)) k)])),(8,.vs true x.2.2 (nl (dnP (l.take x.1))) 1 (fun k=>[.int .u32 (dig (dnP (l.take x.1)) k)]))]) (fun _=>[]) [] (fun x=>x.1<=l.length) (fun x=>l.length-x.1) ?_ ?_
     ·refine⟨(0,false,false),JP _,?_⟩
      dsimp only
      rw[List.take_zero]
      dsimp only[upP,dnP,FI,FJ,FK,FL,lbitC,ofC,wPowC,wMulC,Ym,YA,go_sem,reduceIte,Ya]
      simp only[Yf]
      exact⟨⟨rfl,fun _ _=>Y1 _⟩,⟨rfl,fun _ _=>Y1 _⟩,rfl⟩
     ·rintro⟨j,y1,y2⟩ hj
      dsimp only at hj⊢
      dsimp only[FI,FJ,FK,FL,lbitC,ofC,wPowC,wMulC,Ym,YA,Yh,go_sem,reduceIte,Ya]
      simp only[Yd,Ya,Ye,reduceCtorEq,Yc]
      have hT:=PD (l.take j) fun x hx=>hl x (List.mem_of_mem_take hx)
      refine⟨fun hlt=>?_,fun hge=>?_⟩
      ·have hil:j<l.length:=by omega
       obtain⟨⟨a1,a2⟩,b1,b2⟩:=hl _ (KK hil)
       obtain⟨N,hN⟩:∃N:Nat,(l.getD j default).1=N:=⟨(l.getD j default).1.toNat,by omega⟩
       obtain⟨e,he⟩:∃e:Int,(l.getD j default).2=e:=⟨_,rfl⟩
       rw[hN]at a1 a2
       rw[he]at b1 b2
       have em:max e (IntKind.i64.wrap (0-e))=((e.natAbs:Nat):Int):=by
        rw[Yg _ (by omega)];omega
       have eu:IntKind.u64.wrap (N:Int)=N:=by rw[IntKind.wrap_u64];omega
       have e1:K7 (l.take (j+1))=K7 (l.take j)+Yw N*e.natAbs:=by
        rw[A7 hil,A5,K7,K7,Kw,hN,he,Yh]
       have e2:upP (l.take (j+1))=upP (l.take j)*(if e<0 then 1 else N^e.toNat):=by
        rw[A7 hil,(Xf _ _).1,upP,upP,Kb,hN,he,Yh]
       have e3:dnP (l.take (j+1))=dnP (l.take j)*(if e<0 then N^(-e).toNat else 1):=by
        rw[A7 hil,(Xf _ _).2,dnP,dnP,Kb,hN,he,Yh]
       have hle:K7 (l.take (j+1))<=K7 l:=by
        have:K7 l=K7 (l.take (j+1))+K7 (l.drop (j+1)):=by rw[<-A5,List.take_append_drop]
        omega
       have hb1:1<=Yw N:=by
        have:=bitsN_eq0 (a:=N)
        omega
       have hK:e.natAbs<=Yw N*e.natAbs:=V6 _ hb1
       have hp:N^e.natAbs<=2^(Yw N*e.natAbs):=by
        rw[Yl]
        exact YM (JN (US _)) _
       have hp5:=Ur hp (by omega)
       have hup5:=Ur hT.1 (by omega)
       have hdn5:=Ur hT.2 (by omega)
       have hpu:=YP hT.1 hp
       rw[<-Yo]at hpu
       have hpd:=YP hT.2 hp
       rw[<-Yo]at hpd
       obtain⟨cu,_⟩:=EG (Ur hpu (by omega))
       obtain⟨cd,_⟩:=EG (Ur hpd (by omega))
       have hN5:nl N<=512:=Yj (nl_le.2 (show N<4294967296^1 by omega)) (by decide)
       rw[hN,he,eu,em,Yh,Yg ((j:Int)+1) (by omega)]
       refine⟨⟨by omega,by omega⟩,⟨by omega,by omega⟩,⟨by omega,by omega⟩,⟨by omega,by omega⟩,N,e.natAbs,⟨⟨YJ (by omega),rfl,hN5⟩,rfl,by omega,hp5⟩,by decide,by decide,⟨by omega,by omega⟩,fun hpos=>?_,fun hneg=>?_⟩
       ·refine⟨upP (l.take j),N^e.natAbs,⟨⟨YJ (by omega),rfl,hup5⟩,⟨YJ (by omega),rfl,hp5⟩⟩,fun y=>⟨by decide,by decide,(j+1,y,y2),by show j+1<=_;omega,by show l.length-(j+1)<_;omega,?_⟩⟩
        dsimp only
        rw[if_neg (by omega),show e.toNat=e.natAbs by omega]at e2
        rw[if_neg (by omega),Kb]at e3
        rw[e2,e3,cu]
        simp only[Yf]
        rfl
       ·refine⟨dnP (l.take j),N^e.natAbs,⟨⟨YJ (by omega),rfl,hdn5⟩,⟨YJ (by omega),rfl,hp5⟩⟩,fun y=>⟨by decide,by decide,(j+1,y1,y),by show j+1<=_;omega,by show l.length-(j+1)<_;omega,?_⟩⟩
        dsimp only
        have e2':upP (l.take (j+1))=upP (l.take j):=by
         rw[e2]
         split
         ·exact Kb _
         ·rw[show e.toNat=0 by omega,JO,Kb]
        have e3':dnP (l.take (j+1))=dnP (l.take j)*N^e.natAbs:=by
         rw[e3]
         split
         ·rw[show(-e).toNat=e.natAbs by omega]
         ·rw[show e.natAbs=0 by omega,JO]
        rw[e2',e3',cd]
        simp only[Yf]
        rfl
      ·obtain rfl:j=l.length:=by omega
       rw[QB]
       exact Ky (show k _ []from h y1 y2) (Jq _ ⟨trivial,trivial,trivial,trivial⟩) (fun _=>by simp [Ym,Y0,Y4])
 ·exact h.1.elim
def sideC:Ctr:={ alias:=false,of:=fun l=>match l with
 | [.int .i64 x,.int .i64 d,.vs _ _ n sz get,.vs _ _ m sz' get']=> .ex Nat fun X=> .ex Nat fun D=> .ex Nat fun a=> .ex Nat fun b=> .pre (x=X/\X<=1000000000000/\d=D/\D<=20000/\okW a n sz get/\okW b m sz' get'/\nl (X^D)<=512/\nl (X^D*b)<=512)
     (.fin (.int .i64 (KS (X^D*b) a)) [])
 |_=>noC}
def LEc:Env:={ ct:=fun n=>match n with|38=>some ofC|39=>some wPowC|40=>some wMulC|43=>some wCmpC|_=>none,fn:=fun _=>none,meth:=fun _ _=>none}
theorem Ye5:LEc.ct 38=some ofC:=rfl
theorem Ye6:LEc.ct 39=some wPowC:=rfl
theorem Ye7:LEc.ct 40=some wMulC:=rfl
theorem Ye8:LEc.ct 43=some wCmpC:=rfl
theorem Ye9:YE Yb LEc:=by
 refine⟨fun f c h=>?_,fun f vf h=>?_,(fun _ _ _ h=>by cases h),by kernel_rfl,(fun _ h=>by cases h)⟩
 ·simp only[LEc]at h
  split at h
  ·cases h;exact⟨RJ,_,Tryz.func38,rfl,rfl⟩
  ·cases h;exact⟨YeF,_,Tryz.func39,rfl,rfl⟩
  ·cases h;exact⟨RI,_,Tryz.func40,rfl,rfl⟩
  ·cases h;exact⟨YeD,_,Tryz.func43,rfl,rfl⟩
  ·cases h
 ·cases h
theorem YqM:sideC.ok Yb 16:=by
 refine Yv Tryz.func16 Ysx Ye9 400 sideC fun args k h=>?_
 simp only[sideC]at h
 split at h
 ·rename_i x d t1 z1 n sz get t2 z2 m sz' get'
  obtain⟨X,D,a,b,⟨rfl,hX,rfl,hD,⟨⟨rfl,hn,ha,hg⟩,hna,hn5⟩,⟨⟨rfl,hm,hb,hg'⟩,hmb,hm5⟩,hP,hQ⟩,h⟩:=h
  refine⟨[.int .i64 X,.int .i64 D,.vs t1 z1 n 1 (fun k=>[.int .u32 (dig a k)]),.vs t2 z2 m 1 (fun k=>[.int .u32 (dig b k)])],?_,?_⟩
  ·exact⟨⟨rfl,rfl⟩,⟨rfl,rfl⟩,⟨id,rfl,rfl,rfl,hg⟩,⟨id,rfl,rfl,rfl,hg'⟩,trivial⟩
  subst hna hmb
  dsimp only[v16,Ye5,Ye6,Ye7,Ye8,ofC,wPowC,wMulC,wCmpC,Ym,go_sem,reduceIte,Ya]
  simp only[Yd,Ya,Ye,reduceCtorEq,Yc]
  have eu:IntKind.u64.wrap (X:Int)=X:=by rw[IntKind.wrap_u64];omega
  have hX5:nl X<=512:=Yj (nl_le.2 (show X<4294967296^2 by omega)) (by decide)
  obtain⟨cq,ce⟩:=EG hQ
  rw[eu,Yh]
  refine⟨⟨by omega,by omega⟩,X,D,⟨⟨YJ (by omega),rfl,hX5⟩,rfl,hD,hP⟩,by decide,by decide,X^D,b,⟨⟨YJ (by omega),rfl,hP⟩,⟨rfl,hm,hb,fun k _=>Y1 _⟩,rfl,hm5⟩,by decide,by decide,X^D*b,a,⟨?_,⟨rfl,hn,ha,fun k _=>Y1 _⟩,rfl,hn5⟩,by decide,by decide,fun hh=>?_,fun _=>YX h⟩
  ·rw[cq]
   exact⟨YJ (by omega),rfl,hQ⟩
  ·rw[ce]at hh
   cases hh
 ·exact h.1.elim
def j27:List SV:=[.junk,.junk,.junk,.junk,.junk,.junk,.junk,.junk,.junk,.junk,.junk,.junk,.junk,.junk,.junk,.junk,.junk,.junk,.junk,.junk,.junk,.junk,.junk,.junk,.junk,.junk,.junk]
def rt6C:Ctr:={ alias:=false,of:=fun l=>match l with
 | [.agg [.int .i64 a,.int .i64 t0,.int .i64 t],.agg cs,.int .i64 note]=> .ex Tm fun T=> .pre (cs=YW T/\T.nm.size<=9223372036854775807/\Ki T=0/\(0<=note/\note<=139)/\JB t0=true/\JB t=true)
     (.fin (.tup [.own 7 0 (K1 (KR (Y6 T) note) t t0).length 2,.int .i64 (2*(KR (Y6 T) note).n)]) [.box j3,.box j27,.box j3,.box j7,.box j7,.box j7,.own false 1 6 (fun _=>[.junk]),.own false 2 (K1 (KR (Y6 T) note) t t0).length (fun k=>YA ((K1 (KR (Y6 T) note) t t0).getD k default))])
 |_=>noC}
def UJ1:Env:={ ct:=fun n=>match n with|35=>some rnotC|36=>some rofnC|_=>none,fn:=fun _=>none,meth:=fun _ _=>none}
theorem Yhf:UJ1.ct 35=some rnotC:=rfl
theorem Yhg:UJ1.ct 36=some rofnC:=rfl
theorem Yhh:YE Yb UJ1:=by
 refine⟨fun f c h=>?_,fun f vf h=>?_,(fun _ _ _ h=>by cases h),by kernel_rfl,(fun _ h=>by cases h)⟩
 ·simp only[UJ1]at h
  split at h
  ·cases h;exact⟨Yql,_,Tryz.func35,rfl,rfl⟩
  ·cases h;exact⟨Yqm,_,Tryz.func36,rfl,rfl⟩
  ·cases h
 ·cases h
theorem Yqp:rt6C.ok Yb 13:=by
 refine Im Tryz.func13 Ysc Yhh 600 rt6C fun args k h=>?_
 simp only[rt6C]at h
 split at h
 ·rename_i a t0 t cs note
  obtain⟨T,⟨rfl,hnm,hT,hn,h0,h1⟩,h⟩:=h
  refine⟨[.agg [.int .i64 a,.int .i64 t0,.int .i64 t],.agg (YW T),.int .i64 note],⟨⟨⟨rfl,rfl⟩,⟨rfl,rfl⟩,⟨rfl,rfl⟩,trivial⟩,YU _ (JQ T _),⟨rfl,rfl⟩,trivial⟩,?_⟩
  have hc:=(Ya4 hT hn).2
  dsimp only[v13,Yhf,Yhg,rnotC,rofnC,go_sem,reduceIte,Ya]
  simp only[Yd,Ya,Ye,reduceCtorEq,Yc]
  refine⟨ZA T,by rw[Xy];decide,T,⟨rfl,hnm,hT⟩,by decide,by decide,Y6 T,⟨fun k hk=>?_,hn,h0,h1,hc⟩,by decide,by decide,?_⟩
  ·exact Y1 _
  ·refine⟨_,_,?_,?_,h,⟨trivial,trivial,trivial⟩,?_⟩
   ·exact⟨⟨rfl,rfl,rfl,rfl,show 7<8 by decide⟩,⟨rfl,rfl⟩,trivial⟩
   ·exact⟨⟨trivial,trivial,trivial,trivial⟩,⟨trivial,trivial,trivial,trivial,trivial,trivial,trivial,trivial,trivial,trivial,trivial,trivial,trivial,trivial,trivial,trivial,trivial,trivial,trivial,trivial,trivial,trivial,trivial,trivial,trivial,trivial,trivial,trivial⟩,⟨trivial,trivial,trivial,trivial⟩,⟨trivial,trivial,trivial,trivial,trivial,trivial,trivial,trivial⟩,⟨trivial,trivial,trivial,trivial,trivial,trivial,trivial,trivial⟩,⟨trivial,trivial,trivial,trivial,trivial,trivial,trivial,trivial⟩,⟨rfl,rfl,rfl,fun _ _=>⟨trivial,trivial⟩⟩,⟨rfl,rfl,rfl,fun _ _=>⟨⟨rfl,rfl⟩,⟨rfl,rfl⟩,trivial⟩⟩,trivial⟩
   ·simp [QV,Y4,Y0,j3,j7,j27,YA]
 ·exact h.1.elim
def v4:VF:=⟨124,[.tmp 4],(ZR [u1 2 .box [.tm 0],u1 4 .mov [.cn (.bool false)]] (.seq (ZR [Zt 14 30 2,Zm 15 1,Zd 16 12 14 15,u1 17 .not [.tm 16]] (ZC 17 (ZR [u1 18 (.call 5) [],Zm 4 18] .ret) .skip)) (ZR [Za 20 0 2,Zt 21 3 20,Za 22 3 2,Zt 23 27 22,Zm 24 1,u1 25 (.call 13) [.tm 21,.tm 23,.tm 24],Zm 19 25,Ze 26 0 19,Ze 27 1 19,Zm 5 26,Zm 6 27] (ZR [Zm 29 5,Za 30 0 2,Za 31 0 30,Zf 32 1 31,Zm 33 6,u1 34 (.build [(.int .i64 0),(.int .i64 0)] [(0,1),(1,1)]) [.tm 32,.tm 33],u1 35 (.buildSlice 2 1 [(.int .i64 0),(.int .i64 0)] [(0,2)]) [.tm 34],u1 36 (.append 2 16 [(.int .i64 0),(.int .i64 0)]) [.tm 29,.tm 35],Zc 37 14 36,Zm 28 37,Ze 38 0 28,Ze 39 1 28,Ze 40 2 28,Zm 7 38,Zm 8 39,Zm 9 40] (.seq (ZR [Zm 41 9,u1 42 .not [.tm 41],Zm 43 42,Zg 44 43 false 6,u2 45 43 false (.ari .mul) [.cn (.int .i64 30),.tm 44],u2 46 43 false (.cmp .gtr) [.tm 45,.cn (.int .i64 8000)],u1 47 .or [.tm 43,.tm 46]] (ZC 47 (ZR [u1 48 (.call 5) [],Zm 4 48] .ret) .skip)) (ZR [Za 50 0 2,Zt 51 3 50,Za 52 3 2,Zt 53 27 52,Zm 54 1,u1 55 (.call 15) [.tm 51,.tm 53,.tm 54],Zm 49 55,Ze 56 0 49,Ze 57 1 49,Zn 10,Zs 2 10 56,Zm 11 57] (.seq (ZR [Zm 58 11,Zq 59 .neq 58 0,Zm 60 59,Zj 61 60 false 0 10,Zh 62 60 false 1 61,u2 63 60 false (.cmp .lss) [.tm 62,.cn (.int .i64 1)],u1 64 .or [.tm 60,.tm 63],Zm 65 64,Zj 66 65 false 0 10,Zh 67 65 false 1 66,Zj 68 65 false 1 10,Zh 69 65 false 1 68,u2 70 65 false (.cmp .gtr) [.tm 67,.tm 69],u1 71 .or [.tm 65,.tm 70],Zm 72 71,Zj 73 72 false 1 10,Zh 74 72 false 1 73,Zj 75 72 false 0 10,Zh 76 72 false 1 75,u2 77 72 false (.ari .add) [.tm 76,.cn (.int .i64 1)],u2 78 72 false (.cmp .gtr) [.tm 74,.tm 77],u1 79 .or [.tm 72,.tm 78],Zm 80 79,Zj 81 80 false 1 10,Zh 82 80 false 1 81,u2 83 80 false (.cmp .gtr) [.tm 82,.cn (.int .i64 1000000000)],u1 84 .or [.tm 80,.tm 83]] (ZC 84 (ZR [u1 4 .mov [.cn (.bool false)]] .ret) .skip)) (.seq (.draw [] [Zy 85 0 10,Zv 86 1 85,Zu 87 6,Zu 88 7,Zu 89 8,Zy 91 1 10,Zv 92 1 91,Zu 93 6,Zu 94 7,Zu 95 8,w1 90 (.call 16) [.tm 86,.tm 87,.tm 88,.tm 89],w1 96 (.call 16) [.tm 92,.tm 93,.tm 94,.tm 95],Zu 12 90,Zu 13 96]) (ZR [Za 97 0 10,Zf 98 1 97,Za 99 1 10,Zf 100 1 99,Zr 101 .eql 98 100,Zm 102 101,Zg 103 102 true 12,u2 104 102 true (.cmp .eql) [.tm 103,.cn (.int .i64 0)],u1 105 .and [.tm 102,.tm 104],Zm 106 105,Zj 107 106 false 0 10,Zh 108 106 false 1 107,Zj 109 106 false 1 10,Zh 110 106 false 1 109,u2 111 106 false (.cmp .lss) [.tm 108,.tm 110],Zg 112 106 false 111,Zg 113 112 true 12,u2 114 112 true (.cmp .lss) [.tm 113,.cn (.int .i64 0)],u2 115 106 false .and [.tm 112,.tm 114],Zg 116 106 false 115,Zg 117 116 true 13,u2 118 116 true (.cmp .gtr) [.tm 117,.cn (.int .i64 0)],u2 119 106 false .and [.tm 116,.tm 118],u1 120 .or [.tm 106,.tm 119],Zm 121 120,u2 122 121 true (.call 5) [],u1 123 .and [.tm 121,.tm 122],Zm 4 123] .ret)))))))))⟩
theorem Ys1:Yn Yb Tryz.f4=some v4:=by kernel_rfl
def UX0:Env:={ ct:=fun n=>match n with|32=>some chkSC|34=>some chk5A|15=>some frq6C|5=>some trueC|13=>some rt6C|14=>some lprdC|16=>some sideC|_=>none,fn:=fun n=>match n with|12=>some v12|_=>none,meth:=fun _ _=>none}
theorem Yhq:UX0.ct 32=some chkSC:=rfl
theorem Yhr:UX0.ct 34=some chk5A:=rfl
theorem Yho:UX0.ct 15=some frq6C:=rfl
theorem Yhs:UX0.ct 5=some trueC:=rfl
theorem Yhm:UX0.ct 13=some rt6C:=rfl
theorem Yhn:UX0.ct 14=some lprdC:=rfl
theorem Yhp:UX0.ct 16=some sideC:=rfl
theorem Yhl:UX0.ct 12=none:=rfl
theorem Yht:UX0.fn 12=some v12:=rfl
theorem Yhu:YE Yb UX0:=by
 refine⟨fun f c h=>?_,fun f vf h=>?_,(fun _ _ _ h=>by cases h),by kernel_rfl,(fun _ h=>by cases h)⟩
 ·simp only[UX0]at h
  split at h
  ·cases h;exact⟨Yi6,_,Tryz.func32,rfl,rfl⟩
  ·cases h;exact⟨T8,_,Tryz.func34,rfl,rfl⟩
  ·cases h;exact⟨Ou,_,Tryz.func15,rfl,rfl⟩
  ·cases h;exact⟨Yil,_,Tryz.func5,rfl,rfl⟩
  ·cases h;exact⟨Yqp,_,Tryz.func13,rfl,rfl⟩
  ·cases h;exact⟨Ymy,_,Tryz.func14,rfl,rfl⟩
  ·cases h;exact⟨YqM,_,Tryz.func16,rfl,rfl⟩
  ·cases h
 ·simp only[UX0]at h
  split at h
  ·cases h;exact⟨_,Tryz.func12,Yr4,_,Tryz.func12,rfl,rfl⟩
  ·cases h
theorem Yn2(i:Nat)(T:Tm):YZ i (YW T)=YW T:=rfl
theorem Yqd(i:Nat)(T:Tm):WP i (YW T)=false:=rfl
theorem Ycs{r:Rt}(h:YY r=0)(t t0:Int):(K1 r t t0).length<=8:=by
 have:=V0 r
 simp [K1];omega
theorem Yct{r:Rt}{a t t0:Int}{n:Nat}(h:YY r=0)(ht:JB t=true)(ht0:JB t0=true)(ha:100000<=a/\a<=1000000)(hn:1<=n/\n<=1000):∀x,x∈K1 r t t0++[(a,2*(n:Int))]->okE x:=by
 have ht:=UB ht
 have ht0:=UB ht0
 have hr:=(WY h).1
 intro x hx
 unfold K1 at hx
 rw[KE,KE,QO]at hx
 rcases hx with(⟨y,hy,rfl⟩ |hx) |hx
 ·have:=A9 h y hy
  unfold okE Wi;simp only;omega
 ·simp only[K4,List.not_mem_nil,or_false]at hx
  unfold okE
  rcases hx with rfl|rfl <;> simp only <;> omega
 ·simp only[K4,List.not_mem_nil,or_false]at hx
  unfold okE
  subst hx;simp only;omega
theorem YlC:(LJ [⟨true,Ra⟩,⟨false,[.int .i64]⟩]).ok Yb 4:=by
 refine Yv Tryz.func4 Ys1 Yhu 900 (LJ [⟨true,Ra⟩,⟨false,[.int .i64]⟩]) fun args k h=>?_
 obtain⟨ha,hk⟩:=h
 obtain⟨_,_,rfl,h1,e1⟩:=Ybg ha
 obtain⟨cs,rfl,g1⟩:=Ynz h1
 obtain⟨a,t0,t,T,rfl,hnm⟩:=Yi0 g1
 obtain⟨_,_,rfl,h2,e2⟩:=Ybg e1
 obtain⟨note,rfl,hw⟩:=Ybi (YnA h2)
 cases Yny e2
 have hk':k (.bool true) []:=hk
 have hm:T.nm.size<=9223372036854775807:=Yj hnm (by unfold maxLen;decide)
 refine⟨[.agg (EH a t0 t T),.int .i64 note],?_,?_⟩
 ·refine⟨YU _ ⟨trivial,trivial,trivial,?_⟩,⟨rfl,rfl⟩,trivial⟩
  exact JQ T _
 dsimp only[v4,EH,Ws,Xy,Yhq,Yhr,Yho,Yhs,Yhm,Yhn,Yhp,Yhl,Yht,v12,chkSC,chk5A,frq6C,trueC,rt6C,lprdC,sideC,Ym,go_sem,reduceIte,Ya]
 simp only[Yd,Ya,Ye,reduceCtorEq,Yc]
 simp only[vw_T]
 refine⟨ZA T,ZA T,T,fun _=>⟨rfl,hm⟩,fun hc=>?_,fun hc=>?_⟩
 ·exact Qi hk'
 ·simp only[YS,decide_eq_true_eq]at hc
  obtain⟨⟨⟨hS,hT⟩,n0⟩,n1⟩:=hc
  obtain⟨ha',hb0,hb1⟩:=GV hS
  obtain⟨r,n,hr,hnr⟩:=Yno hT n0
  obtain⟨s1,s2,s3,s4,s5⟩:=Ycu hT ⟨n0,n1⟩ hr hnr hb1 hb0
  have hrn:=hnr.rng
  refine⟨T,⟨rfl,hm,hT,⟨n0,n1⟩,hb0,hb1⟩,by decide,by decide,by decide,⟨?_,fun k hk=>?_⟩,?_⟩
  ·have:=Ycs s1 t t0
   unfold Ka;omega
  ·obtain rfl:k=0:=by omega
   exact⟨rfl,trivial,trivial,trivial⟩
  simp only[Yn2,Yqd]
  rw[s2]
  refine⟨K1 (KR (Y6 T) note) t t0++[(a,2*(n:Int))],⟨⟨rfl,?_,fun q hq=>?_⟩,?_,?_⟩,by decide,by decide,by decide,fun hc=>Qi hk',fun hc=>?_⟩
  ·simp
  ·by_cases h2:q<(K1 (KR (Y6 T) note) t t0).length
   ·simp only[if_pos h2]
    rw[MB h2]
    exact Y1 _
   ·simp only[if_neg h2]
    rw[MC (by omega),show q-(K1 (KR (Y6 T) note) t t0).length=0 by omega]
    exact Y1 _
  ·have:=Ycs s1 t t0
   rw[JI,List.length_singleton];omega
  ·exact Yct s1 hb1 hb0 ha' hrn
  obtain⟨kk,ex,f1,f2,f3,f4,f5,f6⟩:=YjL hS hT ⟨n0,n1⟩ hr hnr
  obtain⟨l,hl⟩:∃l,l=K1 (KR (Y6 T) note) t t0++[(a,2*(n:Int))]:=⟨_,rfl⟩
  rw[<-hl]at f4 f5 f6 hc⊢
  have hok:∀x,x∈l->okE x:=by rw[hl];exact Yct s1 hb1 hb0 ha' hrn
  have hc2:K7 l<=7000/\2*n<=266:=by
   simp only[JH,Bool.not_eq_false',decide_eq_true_eq,decide_eq_false_iff_not]at hc
   obtain⟨g1,g2⟩:=hc
   rw[Yg _ (by omega)]at g2
   omega
  obtain⟨c1,c2⟩:=hc2
  have hz:0<dnP l:=by
   rcases KU (dnP l)with e|e
   ·rw[e,Wf]at f5;omega
   ·exact e
  obtain⟨b1,b2⟩:=PD l hok
  have u1:nl (upP l)<=512:=Ur b1 (by omega)
  have u2:nl (dnP l)<=512:=Ur b2 (by omega)
  have key:∀v:Nat,v<268435456->nl (v^(2*n))<=512/\nl (v^(2*n)*dnP l)<=512:=fun v hv=>by
   have g1:v^(2*n)<=2^(28*(2*n)):=by
    have e28:(2:Nat)^28=268435456:=rfl
    have g0:=YM (show v<=2^28 by rw[e28];omega) (2*n)
    rw[<-Yl]at g0
    exact g0
   have g2:=YP g1 b2
   rw[<-Yo]at g2
   exact⟨Ur g1 (by omega),Ur g2 (by omega)⟩
  have eu:u6F l=upP l:=if_neg (by omega)
  have ed:d6F l=dnP l:=if_neg (by omega)
  rw[eu,ed]
  refine⟨by rw[Xy];decide,T,⟨rfl,hm,hS,hT,n0,n1⟩,by decide,by decide,fun hb=>?_,fun _=>?_⟩
  ·exfalso
   rw[f1]at hb
   obtain⟨s1',hh,s2',s3',s4',s5',s6'⟩:=Ydf kk ex
   rw[s1',s2',Yg ((kk:Int)+1) (by omega)]at hb
   simp only[decide_true,Bool.not_true,Bool.false_or,Qt,decide_eq_true_eq]at hb
   omega
  rw[f1]
  obtain⟨s1',hh,s2',s3',s4',s5',s6'⟩:=Ydf kk ex
  rw[s1',s2']
  obtain⟨k1,k2⟩:=key kk (by omega)
  obtain⟨k3,k4⟩:=key hh (by omega)
  have w1:okW (upP l) (nl (upP l)) 1 (fun k=>[.int .u32 (dig (upP l) k)]):=⟨YJ (by omega),rfl,u1⟩
  have w2:okW (dnP l) (nl (dnP l)) 1 (fun k=>[.int .u32 (dig (dnP l) k)]):=⟨YJ (by omega),rfl,u2⟩
  refine⟨kk,2*n,upP l,dnP l,⟨rfl,by omega,by omega,by omega,w1,w2,k1,k2⟩,hh,2*n,upP l,dnP l,⟨rfl,by omega,by omega,by omega,w1,w2,k3,k4⟩,fun u v=>by rw[u,decide_eq_true v];rfl,fun u v=>by rw[u,v];rfl,?_⟩
  have hres:((decide ((kk:Int)=hh)&&decide (KS (kk^(2*n)*dnP l) (upP l)=0) || decide ((kk:Int)<hh)&&decide (KS (kk^(2*n)*dnP l) (upP l)<0)&&decide (0<KS (hh^(2*n)*dnP l) (upP l)))&&true)=true:=by
   cases ex with
   |true=>
    have e:=f6.1 rfl
    rw[s5' rfl,<-e]
    simp [KS]
   |false=>
    rw[s6' rfl]
    have hne:upP l≠kk^(2*n)*dnP l:=fun e=>by cases f6.2 e
    have o1:KS (kk^(2*n)*dnP l) (upP l)= -1:=by
     unfold KS
     rw[if_pos (by omega)]
    have o2:KS ((kk+1)^(2*n)*dnP l) (upP l)=1:=by
     unfold KS
     rw[if_neg (by omega),if_pos f5]
    rw[o1,o2,decide_eq_true (show(kk:Int)<((kk+1:Nat):Int)by omega)]
    simp
  rw[hres]
  exact Qi hk'
end Go.Proofs.YtlhmikjnholpnaaGreatDoor
namespace Go.Vx
open Go Go.RowKit Go.ChangeShapes Go.WideShapes Go.ChangeAt Go.WideMaps Go.WideElems
def primesL:List Int:=[2,3,5,7,11,13]
def Gr:DataW Unit:= .agg [.lit (.int .i64 2),.lit (.int .i64 3),.lit (.int .i64 5),.lit (.int .i64 7),.lit (.int .i64 11),.lit (.int .i64 13)]
theorem Ykt{P:Program}{W:World}{g:Nat}{T el:TypeId}(hg:P.globalNamed "quintadena/ratios.primes" =some g)(hT:(P.globals[g]?).map (·.type)=some T)
 (hu:P.underlying T=some (.array 6 el)) (he:P.underlying el=some (.int .i64)) (hc:P.cellsOf el=1) (hp:laidMetH P [("quintadena/ratios.primes",Gr)] W):
 Cells W g 0 (MF primesL):=by
 rw[MakeChecks.laidMetH_plain _ _ _ (by kernel_rfl)]at hp
 obtain⟨ps,⟨g1,t1,cs1,f1,p1,q1,hg1,ht1,hv1,hd1,h1⟩,h2⟩:=hp
 obtain rfl:=Option.some.inj (hg.symm.trans hg1)
 obtain rfl:=Option.some.inj (hT.symm.trans ht1)
 obtain⟨xs,m1,rfl,hx1,hlen,hn3,hel⟩:=DataW.trod_array hu hd1
 have hcell:∀k,k<6->cs1[k]? =some (.int .i64 (primesL.getD k 0)):=by
  intro k hk
  have h3:=hel k hk
  obtain⟨x,hx⟩:∃x,xs[k]? =some x:=⟨xs[k]'(by omega),by simp⟩
  rw[hx,hc,Kb]at h3
  obtain⟨v,e1,e2,_⟩:=DataW.trod_int he h3
  have e3:(cs1.toList.drop k)[0]? =some (.int .i64 v):=by
   have:((cs1.toList.drop k).take 1)[0]? =some (.int .i64 v):=by rw[e1];rfl
   simpa using this
  have e4:cs1[k]? =some (.int .i64 v):=by simpa using e3
  rw[e4]
  simp only[Prod.mk.injEq]at hx1
  have e5:(DataW.lit (.int .i64 (primesL.getD k 0)):DataW Unit)=x.1:=by
   have e6:(xs.map (·.1))[k]? =some x.1:=by simp [hx]
   have e7:=hx1.1
   simp only[Gr,DataW.agg.injEq]at e7
   rw[<-e7]at e6
   match k,hk,e6 with
   |0,_,e6|1,_,e6|2,_,e6|3,_,e6|4,_,e6|5,_,e6=>exact Option.some.inj e6
  rw[e2]at e5
  simp only[DataW.lit.injEq,Lit.int.injEq]at e5
  rw[e5.2]
 unfold World.var? at hv1
 rw[hg]at hv1
 simp only[Option.bind_some]at hv1
 split at hv1
 ·rename_i cs T' fz ho
  cases hv1
  refine⟨cs1,T',fz,ho,fun j v hj=>?_⟩
  have hj6:j<6:=by
   have:=(UG.1 hj).1
   simpa [MF,primesL]using this
  rw[KL,hcell j hj6]
  match j,hj6,hj with
  |0,_,hj|1,_,hj|2,_,hj|3,_,hj|4,_,hj|5,_,hj=>exact hj
 ·cases hv1
theorem YlD{g:Nat}{T el:TypeId}{C:Checked}{f:FuncId}{fn:Func}{s:ChangeSpec}{dom:List PathCond}{os:Os}{H:Type}{enc:TypeId×Value->H}{shs:List PSh}{tb:TypeId}
 (own:ownKnob C.prog.godebug=none)(started:os.Started)(noInit:C.prog.inits.idxOf? f=none)(hfn:C.prog.funcs[f]? =some fn)(hl:laidOutB C.prog=true)
 (witness:∃(w:World) (tape:Tape) (i:Input),w.os=os/\(w.forCall tape i).Shaped C.prog/\i.vars=[]/\Input.okWide C.prog (w.forCall tape i) .any w.heap.size f i/\
   ((s.pre enc C.prog fn dom false (w.forCall tape i).memory i.args/\laidMetH C.prog [("quintadena/ratios.primes",Gr)] (w.forCall tape i).memory)/\sizedMet enc C.prog fn (OpenSpec.ofChange s) false (w.forCall tape i).memory i.args)/\({}:Assume).holds C.prog (lone (Frame.enter C.prog f i.args .normal) [] (w.forCall tape i)))
 (hsh:M5 C.prog fn.params.toList=some shs)(hread:PM C.prog fn.params.toList=true)(hres:fn.resultTypes.toList=[tb])(htb:C.prog.underlying tb=some .bool)(hvars:s.vars=[])
 (hspec:∀ds:List (DataW H),ds.length=fn.params.toList.length->(s.fn H ds).results=[.lit (.bool true)]/\(s.fn H ds).args=ds/\(s.fn H ds).vars=[])(hc:(LJ shs).ok C.prog f)(hg:C.prog.globalNamed "quintadena/ratios.primes" =some g)(hT:(C.prog.globals[g]?).map (·.type)=some T) (hu:C.prog.underlying T=some (.array 6 el)) (he:C.prog.underlying el=some (.int .i64)) (hce:C.prog.cellsOf el=1):
 ReturnsInHanded {} C os f .any (fun w args=>(s.pre enc C.prog fn dom false w args/\laidMetH C.prog [("quintadena/ratios.primes",Gr)] w)/\sizedMet enc C.prog fn (OpenSpec.ofChange s) false w args) (s.post enc C.prog fn false true false false):=by
 refine returnsInHanded_of_change_and (X:=fun w _=>laidMetH C.prog [("quintadena/ratios.primes",Gr)] w) (fun _ _ _ hh h=>h.of_heap hh) own started noInit hfn witness ?_
 intro W base args ds gs before hval hW hcnd _ hL _
 obtain⟨p,q,hA,hV,hbef,hfz,hnd⟩:=id hW
 have hlen:=YdE hA
 rw[hvars]at hV
 obtain⟨rfl,rfl⟩:=trodVars_none hV
 obtain⟨svs,k1,k2⟩:=Ybv (B:=W.heap.size) hsh (fun j t v ht hv=>hval j t v (by simpa using ht) (by simpa using hv)) hA
 have hcall:=hc svs args.toList (cx0 W) (fun r hs=>r= .bool true) ⟨fun b K h=>(by cases h),fun g' l h=>by
  have hcl:=Ykt hg hT hu he hce hL
  unfold BF at h
  split at h
  ·rename_i hg'
   cases h
   obtain rfl:=Option.some.inj (hg.symm.trans hg')
   obtain⟨cs,T',fz,ho,_⟩:=id hcl
   exact⟨(Xh.1 ho).1,trivial,hcl⟩
  ·cases h⟩ k1 ⟨k2,rfl⟩
 simp only[Array.toArray_toList]at hcall
 refine hcall.mono fun e W' h=>?_
 obtain⟨r,hs,v,bs,J,hJ,rfl,rfl,hr,_,hbI,_⟩:=h
 have hb:Below W.heap.size W W':=⟨hbI.os,hbI.tape,hbI.output,hbI.size,fun k hk=>hbI.block k hk rfl⟩
 have hv:=hr.bool_inv
 subst hv
 obtain⟨s1,s2,s3⟩:=hspec ds hlen
 refine⟨_,rfl,ds,[],before,[],p,[],hW,?_,?_,?_,hb.frame _,fun h=>by cases h⟩
 ·rw[Z9,s1,hres]
  have hsz:fn.resultTypes.size=1:=by rw[<-V4,hres];rfl
  have:(Value.bool true).resultList fn.resultTypes.size=[.bool true]:=by rw[hsz];rfl
  rw[this]
  exact trodAll_mk1 (shut_bool htb true)
 ·rw[Z9,s2]
  exact Ybu hl hb hread hA
 ·rw[Z9,s3,hvars];rfl
end Go.Vx
namespace Go.Vx
open Go Go.RowKit Go.ChangeShapes Go.WideShapes Go.ChangeAt Go.WideMaps Go.WideElems
end Go.Vx
namespace Go.Proofs.YtlhmikjnholpnaaGreatDoor
open Go Go.Vx Go.RowKit
set_option maxRecDepth 100000
theorem YnO:ownKnob Yb.godebug=none:=by kernel_rfl
theorem Ylz:laidOutB Yb=true:=by kernel_rfl
theorem Ykj:Yb.globalNamed "quintadena/ratios.primes" =some 0:=by kernel_rfl
theorem Yrl:(Yb.globals[0]?).map (·.type)=some 153:=by kernel_rfl
theorem Yru:Yb.underlying 153=some (.array 6 2):=by kernel_rfl
theorem Yjy:Yb.underlying 2=some (.int .i64):=by kernel_rfl
theorem YiW:Yb.cellsOf 2=1:=by kernel_rfl
theorem Yjl(os:Os)(args:Array Value):laidMetH Yb [("quintadena/ratios.primes",Gr)] ((World.doorLaid Yb 400 os).forCall (fun _ _=>0) ⟨#[],args,[]⟩).memory:=
 laidMetH_of_parts3 (fuel:=8) (laidMet_of_run' 8 (by kernel_rfl) (by kernel_rfl)) (by kernel_rfl) (by kernel_rfl)
theorem YnS(os:Os)(started:os.Started)(H:Type)(enc:TypeId×Value->H):
 ReturnsInHanded {} Tryz.checked os 4 .any (fun w args=>(Rows.pitchExactSpec.pre enc Yb Tryz.f4 [] false w args/\laidMetH Yb [("quintadena/ratios.primes",Gr)] w)/\sizedMet enc Yb Tryz.f4 (OpenSpec.ofChange Rows.pitchExactSpec) false w args)
  (Rows.pitchExactSpec.post enc Yb Tryz.f4 false true false false):=
 YlD (C:=Tryz.checked) (tb:=4) YnO started (by kernel_rfl) Tryz.func4 Ylz
  (ChangeSpec.witness_shaped (enc:=enc) (C:=Tryz.checked) (os:=os) (X:=fun w _=>laidMetH Yb [("quintadena/ratios.primes",Gr)] w) false (World.doorLaid Yb 400 os) #[.agg #[.int .i64 0,.int .i64 0,.int .i64 0,.string ⟨#[]⟩,.bool false,.int .i64 0,.int .i64 0,.int .i64 0,.int .i64 0,.int .i64 0,.int .i64 0,.int .i64 0,.int .i64 0,.int .i64 0,.int .i64 0,.int .i64 0,.int .i64 0,.int .i64 0,.int .i64 0,.int .i64 0,.int .i64 0,.int .i64 0,.int .i64 0,.int .i64 0,.int .i64 0,.int .i64 0,.int .i64 0,.int .i64 0,.int .i64 0,.int .i64 0],.int .i64 0] 8 rfl (World.shaped_of_RefB (by kernel_rfl) (by kernel_rfl)) (by kernel_rfl) (by kernel_rfl) (by kernel_rfl) (Yjl os _))
  (by kernel_rfl) (by kernel_rfl) (by kernel_rfl) (by kernel_rfl) rfl (fun ds h=>match ds,h with| [_,_],_=>⟨rfl,rfl,rfl⟩) YlC Ykj Yrl Yru Yjy YiW
theorem YnT:Rows.PitchExactSaid:=
 OpenClaim.holds_of_wide 4 Tryz.f4 rfl rfl rfl rfl rfl rfl rfl ⟨rfl,rfl,rfl,rfl,rfl⟩ rfl rfl rfl rfl rfl (by kernel_rfl) Tryz.func4 (by kernel_rfl)
  (of_decide_eq_true (by kernel_rfl)) (by unfold Func.isWrapper;first| (rw[if_pos (by decide+kernel)];kernel_rfl) | (rw[if_neg (by decide+kernel)];exact⟨rfl,rfl⟩))
  (fun os started H enc _=>YnS os started H enc)
theorem pitchExact_holds:Rows.PitchExactCardSaid:=
 Claim7.holds_tied_plain_at .later [] [.data] true (true, "7b14231c86bb9e1fb914c88e4056939b4afe5b7a7f86415e4fe5cdd101849307") false
  YnT (fun _ h=>by cases h) (by kernel_rfl) (fun _ h=>by cases h) pitchExact_row_tie rfl ⟨rfl,rfl⟩ (by kernel_rfl) rfl
  (fun f fn hf hfn=>by
    obtain rfl:f=4:=Option.some.inj ((show Yb.funcNamed Rows.pitchExactRow.func=some 4 by kernel_rfl).symm.trans hf) |>.symm
    obtain rfl:fn=Tryz.f4:=(Option.some.inj (Tryz.func4.symm.trans hfn)).symm
    exact⟨by kernel_rfl,fun j t ht=>by
     have hall:(Tryz.f4.params.toList.all fun u=>!Yb.wantsStandIn u)=true:=by kernel_rfl
     have hm:t∈Tryz.f4.params.toList:=Array.mem_toList_iff.2 (Array.mem_of_getElem? ht)
     exact(show Yb.wantsStandIn t=false by simpa using Vn.1 hall t hm)⟩)
  (by kernel_rfl)
end Go.Proofs.YtlhmikjnholpnaaGreatDoor
