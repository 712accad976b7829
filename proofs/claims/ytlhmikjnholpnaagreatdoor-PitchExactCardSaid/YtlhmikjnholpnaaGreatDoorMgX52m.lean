/- What the tables of the commas say of products of powers: they are equal, or apart. -/
import Derived.Test.YtlhmikjnholpnaaGreatDoorMgX52l
import Derived.Test.YtlhmikjnholpnaaGreatDoorMgX52k
import Derived.Test.YtlhmikjnholpnaaGreatDoorMgX52e
import Derived.Test.YtlhmikjnholpnaaGreatDoorMgX52d
import Derived.Test.YtlhmikjnholpnaaGreatDoorProg
import Derived.Test.YtlhmikjnholpnaaGreatDoorMgX52f
open And renaming intro->Yy
open Bool renaming and_eq_false_iff->Vk,and_eq_true->YS,or_eq_false_iff->JH,or_eq_true->Qt
open Int renaming add_zero->Z7,eq_ofNat_of_zero_le->Vl,mul_comm->KA,mul_neg->KC,natCast_mul->JV,neg_neg->JW,tdiv_eq_ediv_of_nonneg->ZG,tmod_eq_emod_of_nonneg->UF,toNat_natCast->Yh,toNat_of_nonneg->K3
open Go.IntWalk renaming i64_in->Yg,u64_in->Z8,up_tdiv->Wt,up_tmod->Vm
open List renaming all_eq_true->Vn,append_nil->Z9,getD_eq_getElem?_getD->Kp,getElem?_append_left->XE,getElem?_append_right->WU,getElem?_eq_getElem->Wu,length_append->JI,length_cons->Xr,length_nil->ZI,mem_append->KE,mem_cons->K4,mem_cons_of_mem->KH,mem_cons_self->KF,mem_singleton->JD,take_length->QB
open Nat renaming add_assoc->XV,add_mul->YN,add_zero->Kw,div_add_mod->KO,div_div_eq_div_mul->KY,div_eq_of_lt->Qu,div_le_self->QP,div_lt_iff_lt_mul->ZJ,dvd_trans->JM,eq_zero_or_pos->KU,gcd->YG,gcd_dvd_left->Wv,le_mul_of_pos_left->V6,le_of_ble_eq_true->KI,le_of_eq->YB,le_of_lt->JN,le_of_mul_le_mul_left->WV,le_of_mul_le_mul_right->Kr,le_of_not_lt->ZK,le_refl->Yr,le_trans->Yj,lt_irrefl->XX,lt_of_le_of_lt->Jn,lt_of_lt_of_le->Qf,lt_or_ge->YV,lt_trichotomy->We,mod_eq_of_lt->Qg,mod_lt->Kj,mul_add->Y9,mul_assoc->Yx,mul_comm->Yk,mul_le_mul->YP,mul_le_mul_left->Yz,mul_le_mul_right->Yu,mul_left_comm->Jd,mul_lt_mul_of_pos_right->ZL,mul_one->Kb,mul_pos->Y3,mul_pow->Yt,mul_right_comm->WW,mul_zero->Wf,not_lt_zero->QC,one_mul->Kc,pow->Kx,pow_add->Yo,pow_le_pow_iff_left->XY,pow_le_pow_left->YM,pow_le_pow_right->Kl,pow_mul->Yl,pow_pos->YD,pow_succ->YF,pow_zero->JO,reduceAdd->Ya,reduceEqDiff->Yc,reduceLeDiff->Ye,succ_mul->XG,two_pow_pos->Qv,zero_add->KL,zero_le->JP,zero_mul->JX
open Or renaming inl->Jo,inr->KV
open Go.Proofs.Tryz renaming prog->Yb
set_option linter.all false
set_option maxRecDepth 100000
namespace Go.Proofs.YtlhmikjnholpnaaGreatDoor.LB
open Go.Proofs.YtlhmikjnholpnaaGreatDoor
theorem OD{c1 c2 ln L:Nat}(hc2:0<c2)(t:∀h,(h=0\/h=22)->KN c1 c2 ln h 2 38=true/\KN c1 c2 ln h 40 19=true/\KN c1 c2 ln h 59 15=true/\KN c1 c2 ln h 74 13=true/\KN c1 c2 ln h 87 12=true/\KN c1 c2 ln h 99 11=true/\KN c1 c2 ln h 110 11=true)
 (one:U7 c1 c2 (Kx c2 L) (Kx c1 L) ln 1 (45-L)=true)(hs:∀r,r<L->c2^r<=2*pV/\c1^r<=2*pV){q r:Nat}(hq:1<=q/\q<=120)(hr:r<=44*q)(hg:YG r q=1):Gap pV pG q (c2^r) (c1^r):=by
 rcases YV q 2 with h1|h2
 ·have e:q=1:=by omega
  subst e
  rcases YV r L with hl|hl
  ·obtain⟨K,hK⟩:∃K,K=1048576:=⟨_,rfl⟩
   obtain⟨e1,e2⟩:=hs r hl
   have e5:2*pV<=K*pV:=Yu _ (by omega)
   exact Ykm hK (Yj e1 e5) (Yj e2 e5)
  ·have g:=kOne hc2 one (i:=r-L) (by omega)
   rwa [show L+(r-L)=r by omega]at g
 ·have key:∀h:Nat,(h=0\/h=22)->∀i,i<22*q+1->YG i q=1->Gap pV pG q (c2^(h*q+i)) (c1^(h*q+i)):=by
   intro h hh i hi hgi
   have go:∀a n,0<a/\a<=q/\q<a+n->KN c1 c2 ln h a n=true->Gap pV pG q (c2^(h*q+i)) (c1^(h*q+i)):=fun a n ha ht=>by
    have e:a+(q-a)=q:=by omega
    have g:=Yac hc2 ha.1 n ht (q-a) (by omega) i (by rw[e];exact hi) (by rw[e];exact hgi)
    rwa [e]at g
   obtain⟨t1,t2,t3,t4,t5,t6,t7⟩:=t h hh
   rcases(show q<40\/(40<=q/\q<59)\/(59<=q/\q<74)\/(74<=q/\q<87)\/(87<=q/\q<99)\/(99<=q/\q<110)\/110<=q by omega)with c|c|c|c|c|c|c
   ·exact go _ _ (by omega) t1
   ·exact go _ _ (by omega) t2
   ·exact go _ _ (by omega) t3
   ·exact go _ _ (by omega) t4
   ·exact go _ _ (by omega) t5
   ·exact go _ _ (by omega) t6
   ·exact go _ _ (by omega) t7
  rcases YV r (22*q)with hl|hl
  ·have g:=key 0 (Jo rfl) r (by omega) hg
   rwa [JX,KL]at g
  ·have e:r=r-22*q+22*q:=by omega
   have g:=key 22 (KV rfl) (r-22*q) (by omega) (by rw[e,Nat.gcd_add_mul_right_left]at hg;exact hg)
   rwa [show 22*q+(r-22*q)=r by omega]at g
theorem gapP{q r:Nat}:(1<=q/\q<=120)->r<=44*q->YG r q=1->Gap pV pG q (524288^r) (531441^r):=
 OD (L:=7) (by decide) (fun h hh=>by
  rcases hh with rfl|rfl
  ·exact⟨Yk5,Yk6,Yk7,Yk8,Yk9,Yla,Yk4⟩
  ·exact⟨Ylc,Yld,Yle,Ylf,Ylg,Ylh,Ylb⟩) kP1 fun r hr=>⟨Yj (Kl (by decide) (Nat.le_of_lt_succ hr)) (KI smP),Yj (Kl (by decide) (Nat.le_of_lt_succ hr)) (KI snP)⟩
theorem gapS{q r:Nat}:(1<=q/\q<=120)->r<=44*q->YG r q=1->Gap pV pG q (80^r) (81^r):=
 OD (L:=20) (by decide) (fun h hh=>by
  rcases hh with rfl|rfl
  ·exact⟨Ylj,Ylk,Yll,Ylm,Yln,Ylo,Yli⟩
  ·exact⟨Ylq,Ylr,Yls,Ylt,Ylu,Ylv,Ylp⟩) kS1 fun r hr=>⟨Yj (Kl (by decide) (Nat.le_of_lt_succ hr)) (KI smS),Yj (Kl (by decide) (Nat.le_of_lt_succ hr)) (KI snS)⟩
def Sep(G n U D:Nat):Prop:=(U<D->U*(G+1)^n<=D*G^n)/\(D<U->D*(G+1)^n<=U*G^n)
theorem Sep.symm{G n U D:Nat}(h:Sep G n U D):Sep G n D U:=⟨h.2,h.1⟩
theorem YcO{G q L n N U D x y:Nat}(hL:0<L)(hx:0<x)(hy:0<y)(hN:N*q=L*n)(hR:U^L*y^N=D^L*x^N)(h1:x<y->x*(G+1)^q<=y*G^q)(h:U<D):U*(G+1)^n<=D*G^n:=by
 have hlt:x<y:=by
  refine Nat.lt_of_not_le fun hh=>?_
  have a:=Yz (U^L) (YM hh N)
  have b:=ZL (Nat.pow_lt_pow_left h (show L≠0 by omega)) (YD (n:=N) hx)
  omega
 have g:=YM (h1 hlt) N
 rw[Yt,Yt,<-Yl,<-Yl,Yk q N,hN]at g
 refine(XY (show L≠0 by omega)).1 ?_
 rw[Yt,Yt,<-Yl,<-Yl,Yk n L]
 refine Kr (c:=y^N) ?_ (YD hy)
 have e1:U^L*(G+1)^(L*n)*y^N=D^L*(x^N*(G+1)^(L*n)):=by rw[WW,hR,Yx]
 have e2:D^L*G^(L*n)*y^N=D^L*(y^N*G^(L*n)):=by rw[Yx,Yk (G^(L*n))]
 rw[e1,e2]
 exact Yz _ g
theorem sep_end{G S n Q e U D:Nat}(hU:0<U)(hG:0<G)(hQ:Q=G*S)(he:e<n*S)(h:U*(G+1)^n<=D*G^n)(hlog:D^Q<=U^Q*2^e):False:=by
 have h1:=YM h Q
 rw[Yt,Yt,<-Yl,<-Yl]at h1
 have h2:=Yj h1 (Yu (G^(n*Q)) hlog)
 rw[Yx]at h2
 have h3:=WV h2 (YD hU)
 have h4:=YM (Ru G hG) (n*S)
 rw[Yt,<-Yl,<-Yl,show G*(n*S)=n*Q by rw[hQ];ac_rfl]at h4
 have h5:=Kr (Yj h4 h3) (YD hG)
 have:=(Nat.pow_le_pow_iff_right (by decide)).1 h5
 omega
def Tab(c1 c2:Nat):Prop:=∀q r,1<=q->q<=120->r<=44*q->YG r q=1->Gap pV pG q (c2^r) (c1^r)
theorem Tab.symm{c1 c2:Nat}(h:Tab c1 c2):Tab c2 c1:=fun q r a b c d=>(h q r a b c d).symm
theorem tabP:Tab 531441 524288:=fun q r a b c d=>gapP ⟨a,b⟩ c d
theorem tabS:Tab 81 80:=fun q r a b c d=>gapS ⟨a,b⟩ c d
theorem sep_tab{c1 c2 U D L n u v w:Nat}(hg:Tab c1 c2)(hc1:0<c1)(hc2:0<c2)(hL:1<=L/\L<=120)(hw:w<=44*L)(hu:0<u/\u<=pV)(hv:0<v/\v<=pV)
 (hR:U^L*(v^L*c1^w)^n=D^L*(u^L*c2^w)^n):Sep pG n U D:=by
 obtain⟨g,hgd⟩:∃g,g=YG w L:=⟨_,rfl⟩
 have hg0:0<g:=by rw[hgd];exact Nat.gcd_pos_of_pos_right _ (by omega)
 obtain⟨r,hr⟩:g∣w:=by rw[hgd];exact Wv ..
 obtain⟨q,hq⟩:g∣L:=by rw[hgd];exact Nat.gcd_dvd_right ..
 have hco:YG r q=1:=by
  have e:=Nat.gcd_mul_left g r q
  rw[<-hr,<-hq,<-hgd]at e
  exact Nat.eq_of_mul_eq_mul_left hg0 (by omega)
 have hq1:1<=q:=by
  refine Nat.pos_of_ne_zero fun h=>?_
  rw[h]at hq;omega
 have hq2:q<=120:=Yj (Yj (V6 q hg0) (YB hq.symm)) hL.2
 have hr2:r<=44*q:=by
  rw[hr,hq,Jd]at hw
  exact WV hw hg0
 obtain⟨h1,h2⟩:=hg q r hq1 hq2 hr2 hco u v hu.1 hv.1 hu.2 hv.2
 have ex:(u^q*c2^r)^(g*n)=(u^L*c2^w)^n:=by rw[Yl,Yt,<-Yl,<-Yl,Yk q,Yk r,<-hq,<-hr]
 have ey:(c1^r*v^q)^(g*n)=(v^L*c1^w)^n:=by rw[Yl,Yt,<-Yl,<-Yl,Yk q,Yk r,<-hq,<-hr,Yk (c1^w)]
 rw[<-ex,<-ey]at hR
 have hx:0<u^q*c2^r:=Y3 (YD hu.1) (YD hc2)
 have hy:0<c1^r*v^q:=Y3 (YD hc1) (YD hv.1)
 have hN:g*n*q=L*n:=by rw[hq,WW]
 exact⟨YcO (by omega) hx hy hN hR h1,YcO (by omega) hy hx hN hR.symm h2⟩
def Rat4(U D x y:Nat):Prop:=U*y=D*x
theorem Rat4.mul{U D x y U' D' x' y':Nat}(h:Rat4 U D x y)(h':Rat4 U' D' x' y'):Rat4 (U*U') (D*D') (x*x') (y*y'):=by
 unfold Rat4 at*
 have:U*U'*(y*y')=(U*y)*(U'*y'):=by ac_rfl
 rw[this,h,h'];ac_rfl
theorem Rat4.pow{U D x y:Nat}(h:Rat4 U D x y)(n:Nat):Rat4 (U^n) (D^n) (x^n) (y^n):=by
 unfold Rat4 at*
 rw[<-Yt,h,Yt]
theorem Rat4.trans{U D x y p q:Nat}(hy:0<y)(h:Rat4 U D x y)(h':Rat4 x y p q):Rat4 U D p q:=by
 unfold Rat4 at*
 refine Nat.eq_of_mul_eq_mul_right hy ?_
 have e1:U*q*y=(U*y)*q:=by ac_rfl
 have e2:D*p*y=D*(y*p):=by ac_rfl
 rw[e1,h,e2,<-h'];ac_rfl
theorem Rat4.refl(U D:Nat):Rat4 U D U D:=Yk ..
theorem YpV(a b c x y z:Int):Rat4 (UP (a+x) (b+y) (c+z)) (UP (-(a+x)) (-(b+y)) (-(c+z))) (UP a b c*UP x y z) (UP (-a) (-b) (-c)*UP (-x) (-y) (-z)):=GM ..
theorem rat_comma{a b c X Y p1 p2 p3:Int}{L m:Nat}(ea:a=L*X-m*p1)(eb:b=L*Y-m*p2)(ec:c= -(m*p3)):
 Rat4 (UP a b c) (UP (-a) (-b) (-c)) (UP X Y 0^L*UP (-p1) (-p2) (-p3)^m) (UP (-X) (-Y) 0^L*UP p1 p2 p3^m):=by
 have h:=YpV (L*X) (L*Y) (L*0) (m* -p1) (m* -p2) (m* -p3)
 have e1:∀t:Int, -((L:Int)*t)=(L:Int)* -t:=fun t=>(KC _ _).symm
 have e2:∀t:Int, -((m:Int)* -t)=(m:Int)*t:=fun t=>by rw[KC,JW]
 have ea':(L:Int)*X+m* -p1=a:=by rw[ea,KC];omega
 have eb':(L:Int)*Y+m* -p2=b:=by rw[eb,KC];omega
 have ec':(L:Int)*0+m* -p3=c:=by rw[ec,KC];omega
 rw[ea',eb',ec',e1,e1,e1,e2,e2,e2,Qw,Qw,Qw,Qw]at h
 exact h
end Go.Proofs.YtlhmikjnholpnaaGreatDoor.LB
namespace Go.Proofs.YtlhmikjnholpnaaGreatDoor
open Go Go.Vx
def Dec(l:List (Int×Int)):Prop:=upP l=dnP l\/¬Und l 2048
theorem Yrv{l:List (Int×Int)}{J:Nat}{w:Nat->Nat}(hJ:J<=2048)(hl:∀x,x∈l->okU x)(hw:∀x,x∈l->(lN x.1.toNat 2048).2<=(lN x.1.toNat 2048).1+w x.1.toNat*2^(2048-J))(h:Und l 2048):
 upP l^(2^J)<=dnP l^(2^J)*2^(upS w l+dnS w l):=by
 obtain⟨⟨a1,a2⟩,b1,b2⟩:=Vj (K:=2^2048) (g:=fun n=>(lN n 2048).1) (h:=fun n=>(lN n 2048).2) (fun n k1 k2=>MS k1 k2) l hl
 obtain⟨s1,s2⟩:=CI (g:=fun n=>(lN n 2048).1) (h:=fun n=>(lN n 2048).2) (w:=w) (c:=2^(2048-J)) l hw
 obtain⟨h1,_⟩:=h
 obtain⟨c,hc⟩:∃c,c=2^(2048-J):=⟨_,rfl⟩
 obtain⟨K,hK⟩:∃K,K=(2:Nat)^2048:=⟨_,rfl⟩
 have hc0:c≠0:=by rw[hc];have:=Ja (2048-J);omega
 have hKc:K=2^J*c:=by rw[hK,hc,<-Yo];congr 1;omega
 rw[<-hc]at s1 s2
 rw[<-hK]at a1 a2 b1 b2
 rw[<-XY hc0,Yt,<-Yl,<-Yl,<-hKc,<-Yl,YN]
 refine Yj a2 ?_
 refine Yj (Kl (by decide) (show _<=dnS (fun n=>(lN n 2048).1) l+(upS w l*c+dnS w l*c)by omega)) ?_
 rw[Yo]
 exact Yu _ b1
theorem Yc8{l:List (Int×Int)}(hl:∀x,x∈l->okU x)(hn:l.length<=20)(h:Dec l):0<=Xd l↔dnP l<=upP l:=by
 obtain⟨h1,h2,h3,h4⟩:=Yc9 hl hn
 rcases h4 with h4|h4|h4
 ·have:=h1 h4;omega
 ·have:=h2 h4;omega
 ·have h5:=h3 h4
  rcases h with h|h
  ·omega
  ·rcases h5 with h5|h5
   ·have:=Pp hl hn h5;omega
   ·exact absurd h5 h
set_option maxRecDepth 100000
theorem IR(n:Nat):LB.ePt n=2^n:=rfl
def wQb:Nat:=LB.ePt (300-2)
def wQ(n:Nat):Nat:=if n=2 then 0 else if n=3\/n=5 then 1 else if n<536870912 then 67108864 else wQb
theorem Ym1:Qm 300 3:=Gi (D:=900) (J:=300) (P:=70) (by decide) (by decide) (by decide) (by decide) (by decide+kernel)
theorem Ym2:Qm 300 5:=Gi (D:=900) (J:=300) (P:=70) (by decide) (by decide) (by decide) (by decide) (by decide+kernel)
theorem Yt1{n J:Nat}(hJ:J=300)(h1:1<=n)(h2:n<2^41):(lN n 2048).2<=(lN n 2048).1+wQ n*2^(2048-J):=by
 unfold wQ
 split
 ·rename_i e
  subst e
  rw[Yak O2]
  exact Nat.le_add_right _ _
 ·split
  ·rename_i h
   have h3:Qm J n:=by
    rw[hJ]
    rcases h with rfl|rfl
    ·exact Ym1
    ·exact Ym2
   rw[Kc]
   exact h3
  ·split
   ·rename_i h
    have g:=L8 (J':=J) (YaV h1 h) (by omega) (by omega)
    rw[show J-274=26 by omega]at g
    exact g
   ·have g:=L8 (J':=J) (YaU h1 h2) (by omega) (by omega)
    have e:(2:Nat)^(J-2)=wQb:=by rw[hJ];unfold wQb;rw[IR]
    rw[e]at g
    exact g
theorem Yt3{n:Nat}(h1:1<=n)(h2:n<2^41):(lN n 2048).2<=(lN n 2048).1+wQ n*2^(2048-300):=Yt1 (J:=300) rfl h1 h2
theorem YeG:wQ 2=0:=rfl
theorem YeH:wQ 3=1:=rfl
theorem YeI:wQ 5=1:=rfl
theorem Cl{n:Nat}(h:n<536870912):wQ n<=67108864:=by
 unfold wQ
 split
 ·decide
 ·split
  ·decide
  ·first|exact Yr _| (rw[if_pos h];exact Yr _)
theorem Yt4:67108864<=wQb:=by
 have h:LB.ePt 26<=LB.ePt (300-2):=LB.ePt_le (by decide)
 exact h
theorem Yt2(n:Nat):wQ n<=wQb:=by
 have:=Yt4
 unfold wQ
 split
 ·omega
 ·split
  ·omega
  ·split
   ·exact this
   ·exact Yr _
theorem NY:∀l:List (Int×Int),(∀x,x∈l->okU x)->0<upP l/\0<dnP l
 | [],_=>⟨Nat.one_pos,Nat.one_pos⟩
 |x::l,h=>by
  obtain⟨h1,h2⟩:=NY l fun y hy=>h y (KH _ hy)
  obtain⟨k1,_,_⟩:=WL (h x (KF ..))
  rw[upP,dnP]
  constructor
  ·refine Y3 ?_ h1
   split
   ·exact Nat.one_pos
   ·exact YD k1
  ·refine Y3 ?_ h2
   split
   ·exact YD k1
   ·exact Nat.one_pos
theorem Q300{S Q:Nat}(hS:S=1073741824)(hQ:Q=LB.ePt 300):Q=LB.pG*S:=by
 have h30:LB.ePt 30=1073741824:=rfl
 have h:=LB.ePt_add 270 30
 rw[h30,show 270+30=300 from rfl]at h
 rw[hS,hQ]
 unfold LB.pG
 exact h.symm
theorem YdJ{l:List (Int×Int)}(hl:∀x,x∈l->okU x)(hu:Und l 2048):
 dnP l^LB.ePt 300<=upP l^LB.ePt 300*2^(upS wQ l+dnS wQ l)/\upP l^LB.ePt 300<=dnP l^LB.ePt 300*2^(upS wQ l+dnS wQ l):=by
 have hw:∀x,x∈l->(lN x.1.toNat 2048).2<=(lN x.1.toNat 2048).1+wQ x.1.toNat*2^(2048-300):=fun x hx=>Yt3 (WL (hl x hx)).1 (Pn (hl x hx))
 have g1:=Rx (J:=300) (w:=wQ) (by decide) hl hw hu
 have g2:=Yrv (J:=300) (w:=wQ) (by decide) hl hw hu
 rw[<-IR 300]at g1 g2
 exact⟨g1,g2⟩
theorem Iw{l:List (Int×Int)}{n S:Nat}(hS:S=1073741824)(hl:∀x,x∈l->okU x)(hs:LB.Sep LB.pG n (upP l) (dnP l))(hw:upS wQ l+dnS wQ l<n*S):Dec l:=by
 unfold Dec
 refine Classical.byContradiction fun hcon=>?_
 have hne:¬upP l=dnP l:=fun e=>hcon (Jo e)
 have hu:Und l 2048:=Classical.byContradiction fun hh=>hcon (KV hh)
 obtain⟨g1,g2⟩:=YdJ hl hu
 obtain⟨p1,p2⟩:=NY l hl
 have hQ:=Q300 hS rfl
 have hG:0<LB.pG:=by unfold LB.pG;exact LB.ePt_pos 270
 generalize LB.ePt 300=Q at*
 rcases Nat.lt_or_gt_of_ne hne with hlt|hlt
 ·exact LB.sep_end p1 hG hQ hw (hs.1 hlt) g1
 ·exact LB.sep_end p2 hG hQ hw (hs.2 hlt) g2
theorem Oc{U D Q m s:Nat}(hU:0<U)(h:U*2^m<=D)(hs:s<m*Q)(g:D^Q<=U^Q*2^s):False:=by
 have h1:=Yj (YM h Q) g
 rw[Yt,<-Yl]at h1
 have h2:=WV h1 (YD hU)
 have:=(Nat.pow_le_pow_iff_right (by decide)).1 h2
 omega
theorem ES{l:List (Int×Int)}{m:Nat}(hl:∀x,x∈l->okU x)(hf:upP l*2^m<=dnP l\/dnP l*2^m<=upP l)(hw:upS wQ l+dnS wQ l<m*LB.ePt 300):Dec l:=by
 unfold Dec
 refine Classical.byContradiction fun hcon=>?_
 have hu:Und l 2048:=Classical.byContradiction fun hh=>hcon (KV hh)
 obtain⟨g1,g2⟩:=YdJ hl hu
 obtain⟨p1,p2⟩:=NY l hl
 rcases hf with hf|hf
 ·exact Oc p1 hf hw g1
 ·exact Oc p2 hf hw g2
def gT(T:Tm)(i:Nat):Int:=K8 (fun _=>1) T.wolf i
def gW(T:Tm)(i:Nat):Int:=K8 (tI T) T.wolf i
theorem Lh(T:Tm):∀i,gA T i= -(Lm T*gT T i)-cA T*gW T i/\gB T i=Lm T*gT T i-cB T*gW T i/\gC T i= -(cC T*gW T i)
 |0=>by unfold gA gB gC gT gW K8;simp
 |i+1=>by
  obtain⟨h1,h2,h3⟩:=Lh T i
  unfold gA gB gC gT gW at*
  rw[K8,K8,K8,K8,K8,h1,h2,h3]
  unfold fA fB fC
  by_cases c:(i:Int)=T.wolf
  ·simp only[if_pos c,Z7,and_self]
  ·simp only[if_neg c,Int.mul_add,Int.mul_one]
   omega
def sX(T:Tm)(i:Nat):Int:= -gT T i+(if T.wolf<i then 7+gT T 12 else 0)
def sT(T:Tm)(i:Nat):Int:=gT T i+(if T.wolf<i then -gT T 12 else 0)
def sW(T:Tm)(i:Nat):Int:=gW T i+(if T.wolf<i then -gW T 12 else 0)
theorem P2(T:Tm)(i:Nat):sA T i=Lm T*sX T i-cA T*sW T i/\sB T i=Lm T*sT T i-cB T*sW T i/\sC T i= -(cC T*sW T i):=by
 obtain⟨h1,h2,h3⟩:=Lh T i
 obtain⟨k1,k2,k3⟩:=Lh T 12
 unfold sA sB sC sX sT sW
 rw[h1,h2,h3,k1,k2,k3]
 by_cases c:T.wolf<i
 ·simp only[if_pos c,Int.mul_add,KC]
  omega
 ·simp only[if_neg c,Int.mul_add,KC]
  omega
theorem HV{T:Tm}(hw:0<=T.wolf):∀i:Nat,gT T i=if T.wolf<i then(i:Int)-1 else i
 |0=>by rw[if_neg (by omega)];rfl
 |i+1=>by
  have ih:=HV hw i
  unfold gT at ih⊢
  rw[K8,ih]
  by_cases c:T.wolf<i
  ·rw[if_pos c,if_neg (by omega),if_pos (by omega)];omega
  ·by_cases d:(i:Int)=T.wolf
   ·rw[if_neg c,if_pos d,if_pos (by omega)];omega
   ·rw[if_neg c,if_neg d,if_neg (by omega)];omega
theorem Ykk{T:Tm}(h:Ki T=0)(i d:Nat)(hd:i+d<=12): -(2*Lm T*d)<=gW T (i+d)-gW T i/\gW T (i+d)-gW T i<=2*Lm T*d:=by
 have hL:=J9 h
 exact ND (by omega) (fun j hj=>by have:=Rj h hj;omega) i d hd
theorem VK{T:Tm}(h:Ki T=0){i j:Nat}(hij:i<=j)(hj:j<=12){m:Nat}(hm:j-i<=m): -(2*Lm T*m)<=gW T j-gW T i/\gW T j-gW T i<=2*Lm T*m:=by
 have hL:=J9 h
 have b:=Ykk h i (j-i) (by omega)
 rw[show i+(j-i)=j by omega]at b
 have:=Wp (show 0<=2*Lm T by omega) hm
 omega
theorem YqC{T:Tm}(h:Ki T=0){j:Nat}(hj:j<12):(-11<=sT T j-sT T 3/\sT T j-sT T 3<=11)/\ -(22*Lm T)<=sW T j-sW T 3/\sW T j-sW T 3<=22*Lm T:=by
 obtain⟨hw,_⟩:=Vz h
 have hL:=J9 h
 have e1:=HV hw.1 j
 have e2:=HV hw.1 3
 have e3:=HV hw.1 12
 unfold sT sW
 rw[e1,e2,e3,if_pos (show T.wolf<((12:Nat):Int)by omega)]
 by_cases c:T.wolf<j
 ·by_cases d:T.wolf<((3:Nat):Int)
  ·simp only[if_pos c,if_pos d]
   refine⟨by omega,?_⟩
   rcases Nat.le_total 3 j with g|g
   ·have:=VK h g (by omega) (m:=11) (by omega)
    omega
   ·have:=VK h g (by omega) (m:=11) (by omega)
    omega
  ·simp only[if_pos c,if_neg d]
   refine⟨by omega,?_⟩
   have a:=VK h (show j<=12 by omega) (Yr _) (m:=8) (by omega)
   have b:=VK h (show 0<=3 by omega) (by omega) (m:=3) (by omega)
   have z:gW T 0=0:=rfl
   omega
 ·by_cases d:T.wolf<((3:Nat):Int)
  ·simp only[if_neg c,if_pos d]
   refine⟨by omega,?_⟩
   have a:=VK h (show 3<=12 by omega) (Yr _) (m:=9) (by omega)
   have b:=VK h (show 0<=j by omega) (by omega) (m:=2) (by omega)
   have z:gW T 0=0:=rfl
   omega
  ·simp only[if_neg c,if_neg d]
   refine⟨by omega,?_⟩
   rcases Nat.le_total 3 j with g|g
   ·have:=VK h g (by omega) (m:=11) (by omega)
    omega
   ·have:=VK h g (by omega) (m:=11) (by omega)
    omega
theorem YqD{T:Tm}(h:Ki T=0){j:Nat}(hj:j<12):(-11<=sT T j/\sT T j<=11)/\ -(22*Lm T)<=sW T j/\sW T j<=22*Lm T:=by
 obtain⟨hw,_⟩:=Vz h
 have hL:=J9 h
 have e1:=HV hw.1 j
 have e3:=HV hw.1 12
 unfold sT sW
 rw[e1,e3,if_pos (show T.wolf<((12:Nat):Int)by omega)]
 by_cases c:T.wolf<j
 ·simp only[if_pos c]
  refine⟨by omega,?_⟩
  have a:=VK h (show j<=12 by omega) (Yr _) (m:=11) (by omega)
  omega
 ·simp only[if_neg c]
  refine⟨by omega,?_⟩
  have b:=VK h (show 0<=j by omega) (by omega) (m:=11) (by omega)
  have z:gW T 0=0:=rfl
  omega
theorem Ya6{T:Tm}(h:Ki T=0){note:Int}(hn:0<=note):∃x t w:Int,Rep (Lm T) (JS (Y6 T) note) (Lm T*x-cA T*w) (Lm T*t-cB T*w) (-(cC T*w))/\(-11<=t/\t<=11)/\(-(22*Lm T)<=w/\w<=22*Lm T)/\
 Le0 (8*(Lm T*x-cA T*w)-9*Lm T) (8*(Lm T*t-cB T*w)) (8* -(cC T*w))/\Le0 (8* -(Lm T*x-cA T*w)-9*Lm T) (8* -(Lm T*t-cB T*w)) (8* - -(cC T*w)):=by
 obtain⟨hw,_⟩:=Vz h
 have hL:=J9 h
 have hb:=UR h
 obtain⟨j,hj,hjc⟩:=If (c:=(note%12).toNat) (by omega)
 obtain⟨k,r1,l1,l2⟩:=B9 h hj
 obtain⟨k9,r9,m1,m2⟩:=B9 h (show 3<12 by decide)
 rw[hjc]at r1
 rw[show 7*3%12=9 from rfl]at r9
 have bd:=Fp h (i:=j) (m:=11) (by omega) (by omega) (by omega)
 have b9:=Fp h (i:=3) (m:=9) (by omega) (by omega) (by omega)
 have u:=BP ((VL (m:=8) (by decide)).2 l1) m2
 have d:=BP l2 ((VL (m:=8) (by decide)).2 m1)
 have u2:Le0 (8*(sA T j-k*Lm T+ -1*(sA T 3-k9*Lm T))-9*Lm T) (8*(sB T j+ -1*sB T 3)) (8*(sC T j+ -1*sC T 3)):=Ga u (by omega) (by omega) (by omega)
 have d2:Le0 (8* -(sA T j-k*Lm T+ -1*(sA T 3-k9*Lm T))-9*Lm T) (8* -(sB T j+ -1*sB T 3)) (8* -(sC T j+ -1*sC T 3)):=Ga d (by omega) (by omega) (by omega)
 have q1:=U9 u2
 have q2:=U9 d2
 have hbc:(bB T=25/\bC T=0)\/(bB T=9/\bC T=2):=by unfold bB bC;split <;> simp
 have hab: -98000<=sA T j-k*Lm T+ -1*(sA T 3-k9*Lm T)/\sA T j-k*Lm T+ -1*(sA T 3-k9*Lm T)<=98000:=by
  rcases hbc with⟨e1,e2⟩ | ⟨e1,e2⟩
  ·rw[e1,e2]at bd b9;omega
  ·rw[e1,e2]at bd b9;omega
 have hj2:=(G2 (s:= -1) (by omega) r1 r9 (by unfold sm;omega) (by unfold sm;rcases hbc with⟨e1,e2⟩ | ⟨e1,e2⟩ <;> (rw[e1,e2]at bd b9;omega)) (by unfold sm;rcases hbc with⟨e1,e2⟩ | ⟨e1,e2⟩ <;> (rw[e1,e2]at bd b9;omega))).2
 obtain⟨s1,s2⟩:=YqC h hj
 obtain⟨a1,a2,a3⟩:=P2 T j
 obtain⟨c1,c2,c3⟩:=P2 T 3
 have ea:sA T j-k*Lm T+ -1*(sA T 3-k9*Lm T)=Lm T*(sX T j-k-(sX T 3-k9))-cA T*(sW T j-sW T 3):=by
  rw[a1,c1];simp only[Int.mul_sub,KA k,KA k9];omega
 have eb:sB T j+ -1*sB T 3=Lm T*(sT T j-sT T 3)-cB T*(sW T j-sW T 3):=by
  rw[a2,c2];simp only[Int.mul_sub];omega
 have ec:sC T j+ -1*sC T 3= -(cC T*(sW T j-sW T 3)):=by
  rw[a3,c3];simp only[Int.mul_sub];omega
 rw[ea,eb,ec]at hj2 u2 d2
 exact⟨_,_,_,hj2,s1,s2,u2,d2⟩
structure Com (p1 p2 p3:Int):Prop where
 tab:LB.Tab (UP p1 p2 p3) (UP (-p1) (-p2) (-p3))
 g1:UP p1 p2 p3^44<=2*UP (-p1) (-p2) (-p3)^44
 g2:UP (-p1) (-p2) (-p3)^44<=2*UP p1 p2 p3^44
theorem Com.neg{p1 p2 p3:Int}(h:Com p1 p2 p3):Com (-p1) (-p2) (-p3):=by
 obtain⟨a,b,c⟩:=h
 refine⟨?_,?_,?_⟩ <;> rw[JW,JW,JW]
 ·exact a.symm
 ·exact c
 ·exact b
theorem Yjc:Com (-4) 4 (-1):=by
 have e1:UP (-4) 4 (-1)=81:=rfl
 have e2:UP (- -4) (-4) (- -1)=80:=rfl
 refine⟨?_,?_,?_⟩ <;> rw[e1,e2]
 ·exact LB.tabS
 ·decide+kernel
 ·decide+kernel
theorem Yjb:Com (-19) 12 0:=by
 have e1:UP (-19) 12 0=531441:=rfl
 have e2:UP (- -19) (-12) (-0)=524288:=rfl
 refine⟨?_,?_,?_⟩ <;> rw[e1,e2]
 ·exact LB.tabP
 ·decide+kernel
 ·decide+kernel
theorem Ii(T:Tm):Com (cA T) (cB T) (cC T):=by
 unfold cA cB cC
 split
 ·exact Yjc
 ·exact Yjb
theorem Pz{c1 c2 m L e f:Nat}(h:c1^44<=2*c2^44)(hm:m<=22*L)(he:22*e<=44*f):c1^(e*m)<=c2^(e*m)*2^(f*L):=by
 refine(XY (show 44≠0 by decide)).1 ?_
 have a:=YM h (e*m)
 rw[Yt,<-Yl,<-Yl]at a
 rw[Yt,<-Yl,<-Yl,<-Yl,Yk _ 44]
 refine Yj a ?_
 rw[Yk]
 refine Yz _ (Kl (by decide) ?_)
 have b:=Yz e hm
 have c:=Yu L he
 have e1:e*(22*L)=22*e*L:=by ac_rfl
 have e2:f*L*44=44*f*L:=by ac_rfl
 omega
theorem PK{U D x y K:Nat}(h:LB.Rat4 U D x y)(hD:0<D)(hU:U<=D*K):x<=y*K:=by
 unfold LB.Rat4 at h
 refine WV (c:=D) ?_ hD
 rw[<-h]
 have:=Yu y hU
 rw[Yk y K,<-Yx]
 exact this
theorem Yqn{u v K L:Nat}(hL:1<=L)(h:(u^8)^L<=(v^8)^L*2^(K*L)):u^8<=v^8*2^K:=by
 refine(XY (show L≠0 by omega)).1 ?_
 rw[Yt,<-Yl 2]
 exact h
theorem YjV{L m:Nat}{a b c X t p1 p2 p3:Int}(hL:1<=L)(hm:m<=22*L)(hc:UP p1 p2 p3^44<=2*UP (-p1) (-p2) (-p3)^44)(ea:a=L*X-m*p1)(eb:b=L*t-m*p2)(ec:c= -(m*p3))
 (u:Le0 (8*a-9*L) (8*b) (8*c)):UP X t 0^8<=UP (-X) (-t) 0^8*2^13:=by
 have u1:Le0 (8*a+ -((9*L:Nat):Int)) (8*b) (8*c):=Ga u (by omega) rfl rfl
 have u2:=LK u1
 have e8:∀x y z:Int,UP (8*x) (8*y) (8*z)=UP x y z^8:=fun x y z=>Qw 8 x y z
 rw[<-KC,<-KC,<-KC,e8,e8]at u2
 have R:=(LB.rat_comma ea eb ec).pow 8
 have h1:=PK R (YD (KM ..)) u2
 have h2:=Pz (m:=m) (L:=L) (e:=8) (f:=4) hc hm (by decide)
 have hp:0<UP (-p1) (-p2) (-p3)^(8*m):=YD (KM ..)
 rw[Yt,Yt,<-Yl,<-Yl,<-Yl,<-Yl,Yk m 8,Yk L 8]at h1
 refine Yqn hL ?_
 rw[<-Yl,<-Yl]
 refine Kr (c:=UP (-p1) (-p2) (-p3)^(8*m)) ?_ hp
 refine Yj h1 ?_
 have h3:=Yz (UP (-X) (-t) 0^(8*L)*2^(9*L)) h2
 have e13:(2:Nat)^(13*L)=2^(9*L)*2^(4*L):=by rw[<-Yo];congr 1;omega
 rw[e13]
 refine Yj (YB ?_) (Yj h3 (YB ?_)) <;> ac_rfl
theorem YjW{X t:Int}(ht: -11<=t/\t<=11)(h:UP X t 0^8<=UP (-X) (-t) 0^8*2^13):UP X t 0<=1048576:=by
 have h3:∀n:Nat,n<=11->3^n<=177147:=fun n hn=>by
  have h:3^n<=3^11:=Kl (by decide) hn
  have e:(3:Nat)^11=177147:=rfl
  omega
 by_cases hX:0<=X
 ·have e:UP (-X) (-t) 0=3^(-t).toNat:=by
   unfold UP
   rw[show(-X).toNat=0 by omega]
   simp
  rw[e]at h
  have h4:=h3 (-t).toNat (by omega)
  have h5:=YM h4 8
  have h6:177147^8*2^13<=1048576^8:=by decide+kernel
  refine(XY (show 8≠0 by decide)).1 ?_
  have h7:=Yu (2^13) h5
  omega
 ·have e:UP X t 0=3^t.toNat:=by
   unfold UP
   rw[show X.toNat=0 by omega]
   simp
  rw[e]
  have h4:=h3 t.toNat (by omega)
  omega
theorem Yp7{L n m:Nat}{r:Rt}{X t p1 p2 p3:Int}(hr:Rep L r (L*X-m*p1) (L*t-m*p2) (-(m*p3)))(hn:r.n=n):
 LB.Rat4 (UP r.a r.b r.c^L) (UP (-r.a) (-r.b) (-r.c)^L) ((UP X t 0^L*UP (-p1) (-p2) (-p3)^m)^n) ((UP (-X) (-t) 0^L*UP p1 p2 p3^m)^n):=by
 have key:∀{x y:Int},x*L=y*r.n->(L:Int)*x=n*y:=fun {x y} h=>by rw[KA,h,hn,KA]
 have a:=key hr.ha
 have b:=key hr.hb
 have c:=key hr.hc
 have e1:UP r.a r.b r.c^L=UP (L*X-m*p1) (L*t-m*p2) (-(m*p3))^n:=by rw[<-Qw,<-Qw,a,b,c]
 have e2:UP (-r.a) (-r.b) (-r.c)^L=UP (-(L*X-m*p1)) (-(L*t-m*p2)) (- -(m*p3))^n:=by
  have n1:(L:Int)* -r.a=n* -(L*X-m*p1):=by rw[KC,a,KC]
  have n2:(L:Int)* -r.b=n* -(L*t-m*p2):=by rw[KC,b,KC]
  have n3:(L:Int)* -r.c=n* - -(m*p3):=by rw[KC,c,KC (n:Int) (-(m*p3))]
  rw[<-Qw,<-Qw,n1,n2,n3]
 rw[e1,e2]
 exact(LB.rat_comma rfl rfl rfl).pow n
theorem Ykf{L n m k W W0 A:Nat}{r:Rt}{X t p1 p2 p3 o:Int}(C:Com p1 p2 p3)(hL:1<=L/\L<=120)(hm:m<=22*L)(ht: -11<=t/\t<=11)(hr:Rep L r (L*X-m*p1) (L*t-m*p2) (-(m*p3)))(hn:r.n=n)(hn1:1<=n)
 (u:Le0 (8*(L*X-m*p1)-9*L) (8*(L*t-m*p2)) (8* -(m*p3)))(ho:o<=6)(hW:1<=W/\W<=323150)(hW0:1<=W0)(hA:1<=A/\A<=1000000)(hk:1<=k)
 {U D:Nat}(hU:U=UP r.a r.b r.c^2*(UP (2*(n:Int)*o) 0 0*W^n)*A^(2*n))(hD:D=UP (-r.a) (-r.b) (-r.c)^2*(UP (-(2*(n:Int)*o)) 0 0*W0^n)*k^(2*n))(hnear:D<=U*2^n):LB.Sep LB.pG n U D:=by
 have R1:=(Yp7 hr hn).pow 2
 have eo:UP (2*(n:Int)*o) 0 0=UP (2*o) 0 0^n:=by
  rw[<-Qw,Int.mul_zero,show 2*(n:Int)*o=n*(2*o)by rw[KA 2 (n:Int),Int.mul_assoc]]
 have eo2:UP (-(2*(n:Int)*o)) 0 0=UP (-(2*o)) 0 0^n:=by
  rw[<-Qw,Int.mul_zero,KC,show 2*(n:Int)*o=n*(2*o)by rw[KA 2 (n:Int),Int.mul_assoc]]
 have f1:=YjW ht (YjV hL.1 hm C.g1 rfl rfl rfl u)
 have hq:UP (2*o) 0 0<=4096:=by
  unfold UP
  simp only[Int.toNat_zero,JO,Kb]
  have h:2^(2*o).toNat<=2^12:=Kl (by decide) (by omega)
  have e:(2:Nat)^12=4096:=rfl
  omega
 have g2:=Pz (m:=m) (L:=L) (e:=2) (f:=1) C.g2 hm (by decide)
 have tab:=C.tab
 have q1:=KM (2*o) 0 0
 have q2:=KM (-(2*o)) 0 0
 have x1:=KM X t 0
 have x2:=KM (-X) (-t) 0
 have c1p:=KM p1 p2 p3
 have c2p:=KM (-p1) (-p2) (-p3)
 have rp:=KM r.a r.b r.c
 have rm:=KM (-r.a) (-r.b) (-r.c)
 rw[eo]at hU
 rw[eo2]at hD
 clear eo eo2 u hr C
 generalize UP (2*o) 0 0=q at*
 generalize UP (-(2*o)) 0 0=q' at*
 generalize UP X t 0=u1 at*
 generalize UP (-X) (-t) 0=v1 at*
 generalize UP p1 p2 p3=c1 at*
 generalize UP (-p1) (-p2) (-p3)=c2 at*
 generalize UP r.a r.b r.c=a at*
 generalize UP (-r.a) (-r.b) (-r.c)=b at*
 have hR:U^L*((v1^2*q'*(W0*k^2))^L*c1^(2*m))^n=D^L*((u1^2*q*(W*A^2))^L*c2^(2*m))^n:=by
  unfold LB.Rat4 at R1
  have e1:U^L*((v1^2*q'*(W0*k^2))^L*c1^(2*m))^n=(a^L)^2*((v1^L*c1^m)^n)^2*(((q*q'*(W*W0))^L)^n*((A*k)^L)^(2*n)):=by
   rw[hU]
   simp only[Yt,<-Yl]
   ac_rfl
  have e2:D^L*((u1^2*q*(W*A^2))^L*c2^(2*m))^n=(b^L)^2*((u1^L*c2^m)^n)^2*(((q*q'*(W*W0))^L)^n*((A*k)^L)^(2*n)):=by
   rw[hD]
   simp only[Yt,<-Yl]
   ac_rfl
  rw[e1,e2,R1]
 have hu:u1^2*q*(W*A^2)<=1048576^2*4096*(323150*1000000^2):=
  YP (YP (YM f1 2) hq) (YP hW.2 (YM hA.2 2))
 have hu0:0<u1^2*q*(W*A^2):=Y3 (Y3 (YD x1) q1) (Y3 hW.1 (YD hA.1))
 have hv0:0<v1^2*q'*(W0*k^2):=Y3 (Y3 (YD x2) q2) (Y3 hW0 (YD hk))
 have hV:4*(1048576^2*4096*(323150*1000000^2))<=LB.pV:=KI (by decide+kernel)
 have hv:v1^2*q'*(W0*k^2)<=4*(u1^2*q*(W*A^2)):=by
  generalize v1^2*q'*(W0*k^2)=v at*
  generalize u1^2*q*(W*A^2)=u at*
  have hU0:0<U:=by
   rw[hU]
   exact Y3 (Y3 (YD rp) (Y3 (YD q1) (YD hW.1))) (YD hA.1)
  have h1:=YM hnear L
  rw[Yt,<-Yl]at h1
  have h2:(v^L*c1^(2*m))^n<=(u^L*c2^(2*m))^n*2^(n*L):=PK (U:=D^L) (D:=U^L) (show _=_ from hR.symm) (YD hU0) h1
  have h3:(v^L*c1^(2*m))^n<=(u^L*c2^(2*m)*2^L)^n:=by
   rw[Yt _ (2^L),<-Yl,Yk L n];exact h2
  have h4:=(XY (show n≠0 by omega)).1 h3
  rw[Kc]at g2
  have h5:=Yz (u^L*2^L) g2
  have h6:v^L*c1^(2*m)<=(4*u)^L*c1^(2*m):=by
   refine Yj h4 (Yj (YB ?_) (Yj h5 (YB ?_)))
   ·ac_rfl
   ·rw[Yt 4,show(4:Nat)=2*2 from rfl,Yt 2 2]
    ac_rfl
  have h7:=Kr h6 (YD c1p)
  exact(XY (show L≠0 by omega)).1 h7
 exact LB.sep_tab tab c1p c2p hL (show 2*m<=44*L by omega) ⟨hu0,by omega⟩ ⟨hv0,by omega⟩ hR
theorem Ydx{w:Nat->Nat}(w2:w 2=0)(w3:w 3<=1)(w5:w 5<=1){L:Int}{r:Rt}{a b c:Int}(h:Rep L r a b c):upS w (Ys r)+dnS w (Ys r)<=200000:=by
 have z:∀p:Int,tm1 p 0=[]:=fun p=>rfl
 unfold Ys
 rw[h.hd,h.he,h.hf,z,z,z]
 simp only[Z9]
 rw[(QA w _ _).1,(QA w _ _).1,(QA w _ _).2,(QA w _ _).2]
 have t2:=Fz w 2 r.a
 have t3:=Fz w 3 r.b
 have t5:=Fz w 5 r.c
 rw[w2,JX]at t2
 have m3:=Yu r.b.natAbs w3
 have m5:=Yu r.c.natAbs w5
 obtain⟨_,b1,b2,b3,_⟩:=WY h.ok
 have b2:=QQ b2
 have b3:=QQ b3
 have e2:((2:Nat):Int)=2:=rfl
 have e3:((3:Nat):Int)=3:=rfl
 have e5:((5:Nat):Int)=5:=rfl
 rw[e2]at t2
 rw[e3]at t3
 rw[e5]at t5
 omega
theorem YmA{w:Nat->Nat}(w2:w 2=0)(w3:w 3<=1)(w5:w 5<=1){r:Rt}{n:Nat}{o t t0:Int}(h:NR r n):upS w (Kt r n o t t0)+dnS w (Kt r n o t t0)<=400000+(w (273150+t).toNat*n+w (273150+t0).toNat*n):=by
 obtain⟨_,_,_,_,hr⟩:=h.rep
 have tw:=Ydx w2 w3 w5 hr
 unfold Kt
 rw[(QA w _ _).1,(QA w _ _).2,(Mg w _).1,(Mg w _).2]
 have h1:¬((n:Int)<0):=by omega
 have e:upS w [(2,2*(n:Int)*o),(273150+t,(n:Int)),(273150+t0, -(n:Int))]+dnS w [(2,2*(n:Int)*o),(273150+t,(n:Int)),(273150+t0, -(n:Int))]<=w (273150+t).toNat*n+w (273150+t0).toNat*n:=by
  have z:w (2:Int).toNat=0:=w2
  simp only[upS,dnS,if_neg h1,z,JX,ite_self,Yh,JW]
  split
  ·omega
  ·rename_i h2
   have:n=0:=by omega
   subst this
   simp
 omega
theorem rep3{T:Tm}(h:Ki T=0){note:Int}(hn:0<=note):∃(L m:Nat) (X t p1 p2 p3:Int),(1<=L/\L<=120)/\m<=22*L/\(-11<=t/\t<=11)/\Com p1 p2 p3/\Rep L (JS (Y6 T) note) (L*X-m*p1) (L*t-m*p2) (-(m*p3))/\
 Le0 (8*(L*X-m*p1)-9*L) (8*(L*t-m*p2)) (8* -(m*p3)):=by
 obtain⟨X,t,w,hr,ht,hw,u,_⟩:=Ya6 h hn
 have hL:=J9 h
 have hC:=Ii T
 obtain⟨L,hLe⟩:∃L:Nat,Lm T=L:=⟨(Lm T).toNat,by omega⟩
 rw[hLe]at hr u hL hw
 rcases Int.le_total 0 w with h0|h0
 ·obtain⟨m,rfl⟩:∃m:Nat,w=m:=⟨w.toNat,by omega⟩
  refine⟨L,m,X,t,cA T,cB T,cC T,by omega,by omega,ht,hC,?_,?_⟩
  ·rw[KA (m:Int),KA (m:Int),KA (m:Int)];exact hr
  ·rw[KA (m:Int),KA (m:Int),KA (m:Int)];exact u
 ·obtain⟨m,hm⟩:∃m:Nat,w= -m:=⟨(-w).toNat,by omega⟩
  subst hm
  have e:∀z:Int,z* -(m:Int)=m* -z:=fun z=>by rw[KC,KC,KA]
  rw[e,e,e]at hr u
  exact⟨L,m,X,t, -cA T, -cB T, -cC T,by omega,by omega,ht,hC.neg,hr,u⟩
theorem Ynb{dn up A k n:Nat}(hn:1<=n)(hdn:0<dn)(h:dn*k^(2*n)<=up*A^(2*n)*2^n)(hB:up*A^(2*n)<dn*160000000^(2*n)):k<536870912:=by
 have h1:dn*k^(2*n)<dn*160000000^(2*n)*2^n:=Jn h (ZL hB (Qv n))
 rw[Yx]at h1
 have h2:=Nat.lt_of_mul_lt_mul_left h1
 rw[Yl,Yl,<-Yt]at h2
 have h3:=(Nat.pow_lt_pow_iff_left (show n≠0 by omega)).1 h2
 have h4:160000000^2*2<536870912^2:=by decide
 exact(Nat.pow_lt_pow_iff_left (show 2≠0 by decide)).1 (by omega)
theorem Ykc{a t0 t note:Int}{T:Tm}{r:Rt}{n:Nat}(hS:X5 a t0 t=0)(hT:Ki T=0)(hn:0<=note/\note<=139)(hr:JS (Y6 T) note=r)(h:NR r n){k:Nat}(hk:1<=k/\k<=1000000000001):
 Dec (atF (Kt r n (note/12-5) t t0++[((a.toNat:Int),((2*n:Nat):Int))]) ((2*n:Nat):Int) k):=by
 obtain⟨ha,h0,h1⟩:=GV hS
 have ho: -5<=note/12-5/\note/12-5<=6:=by omega
 obtain⟨l1,l2⟩:=L1 h h1 h0 ho
 obtain⟨p1,p2⟩:=MV (o:=note/12-5) h h1 h0
 have hrn:=h.rng
 have t1:=VZ h1
 have t2:=VZ h0
 have posV:=KM (-r.a) (-r.b) (-r.c)
 have posF:=KM (-(2*(n:Int)*(note/12-5))) 0 0
 have hY:0<dnP (Kt r n (note/12-5) t t0):=by
  rw[p2]
  exact Y3 (YD posV) (Y3 posF (YD (by omega)))
 have hB:upP (Kt r n (note/12-5) t t0)*a.toNat^(2*n)<dnP (Kt r n (note/12-5) t t0)*160000000^(2*n):=by
  rw[p1,p2]
  exact AF hrn.1 posV posF h.u (C3 ho.2) (Ph t1.2 t2.1 (by omega))
 have hd:1<=2*n/\2*n<=1000000:=by omega
 have hok:=HB (s:=a.toNat) (den:=2*n) (k:=k) (fun x hx=>(l1 x hx).1) (by omega) hd hk
 have hsum:upS wQ (atF (Kt r n (note/12-5) t t0++[((a.toNat:Int),((2*n:Nat):Int))]) ((2*n:Nat):Int) k)+dnS wQ (atF (Kt r n (note/12-5) t t0++[((a.toNat:Int),((2*n:Nat):Int))]) ((2*n:Nat):Int) k)<=400000+268435456*n+wQ k*(2*n):=by
  rw[(Vv wQ hd.1).1,(Vv wQ hd.1).2]
  have s:=YmA (w:=wQ) (t:=t) (t0:=t0) (o:=note/12-5) YeG (YB YeH) (YB YeI) h
  have m1:=Yu n (Cl (n:=(273150+t).toNat) (by omega))
  have m2:=Yu n (Cl (n:=(273150+t0).toNat) (by omega))
  have m3:=Yu (2*n) (Cl (n:=a.toNat) (by omega))
  omega
 obtain⟨L,m,X,tt,q1,q2,q3,hL,hm,htt,hC,hrep,hu⟩:=rep3 hT hn.1
 rw[hr]at hrep
 by_cases c:dnP (Kt r n (note/12-5) t t0)*k^(2*n)<=upP (Kt r n (note/12-5) t t0)*a.toNat^(2*n)*2^n
 ·have hk2:=Ynb hrn.1 hY c hB
  have m4:=Yu (2*n) (Cl hk2)
  refine Iw (n:=n) rfl hok ?_ (by omega)
  rw[(ZN hd.1).1,(ZN hd.1).2]
  exact Ykf hC hL hm htt hrep h.hn hrn.1 hu ho.2 (W:=(273150+t).toNat) (by omega) (W0:=(273150+t0).toNat) (by omega) (A:=a.toNat) (by omega) hk.1 (by rw[p1]) (by rw[p2]) c
 ·refine ES (m:=n) hok (Jo ?_) ?_
  ·rw[(ZN hd.1).1,(ZN hd.1).2]
   omega
  ·have m4:=Yu (2*n) (Yt2 k)
   have e:LB.ePt 300=4*wQb:=by
    have h2:LB.ePt 2=4:=rfl
    have h:=LB.ePt_add 2 (300-2)
    rw[h2,show 2+(300-2)=300 from rfl]at h
    unfold wQb
    exact h.symm
   have hb:536870912<=wQb:=by
    have h:LB.ePt 29<=LB.ePt (300-2):=LB.ePt_le (by decide)
    exact h
   rw[e]
   generalize wQb=Q at*
   have k1:=Yz n hb
   have k2:n*(4*Q)=4*(n*Q):=Jd ..
   have k3:Q*(2*n)=2*(n*Q):=by rw[Yk,Yx]
   omega
theorem YkY{l:List (Int×Int)}{s den k:Nat}(hl:∀x,x∈l->okU x)(hn:l.length<=16)(hs:1<=s/\s<=1000000000000)(hd:1<=den/\den<=1000000)(hk:1<=k/\k<=1000000000001)(hD:Dec (atF (l++[((s:Int),(den:Int))]) den k))(h:isS l s den k):dnP l*k^den<=upP l*s^den:=by
 have h1:=(O1 hl hn hs hd hk).2 h
 unfold isF at h1
 rw[Qt,decide_eq_true_eq,decide_eq_true_eq]at h1
 rcases h1 with h1|h1
 ·omega
 ·have h2:=(Yc8 (HB hl hs hd hk) (by simp [atF];omega) hD).1 h1
  rwa [(ZN hd.1).1,(ZN hd.1).2]at h2
theorem Ykd{a t0 t note:Int}{T:Tm}{r:Rt}{n:Nat}(hS:X5 a t0 t=0)(hT:Ki T=0)(hn:0<=note/\note<=139)(hr:JS (Y6 T) note=r)(h:NR r n):
 ∃k ex,VJ (Y6 T) t0 t note a=Gx k ex/\k<160000000/\dnP (Kt r n (note/12-5) t t0)*k^(2*n)<=upP (Kt r n (note/12-5) t t0)*a.toNat^(2*n)/\upP (Kt r n (note/12-5) t t0)*a.toNat^(2*n)<dnP (Kt r n (note/12-5) t t0)*(k+1)^(2*n)/\
  (ex=true↔1<=k/\upP (Kt r n (note/12-5) t t0)*a.toNat^(2*n)=dnP (Kt r n (note/12-5) t t0)*k^(2*n)):=by
 obtain⟨k,ex,h1,h2⟩:=Yke hS hn hr h
 obtain⟨ha,h0,ht⟩:=GV hS
 obtain⟨l1,l2⟩:=L1 h ht h0 (show -5<=note/12-5/\note/12-5<=6 by omega)
 have hrn:=h.rng
 have hd:1<=2*n/\2*n<=1000000:=by omega
 have hle:dnP (Kt r n (note/12-5) t t0)*k^(2*n)<=upP (Kt r n (note/12-5) t t0)*a.toNat^(2*n):=by
  rcases KU k with e|e
  ·subst e
   rw[Nat.zero_pow (by omega),Wf]
   exact JP _
  ·have:=h2.lt
   exact YkY (fun x hx=>(l1 x hx).1) (by omega) (by omega) hd ⟨e,by omega⟩ (Ykc hS hT hn hr h ⟨e,by omega⟩) ((h2.seg k e (by omega)).2 (Yr _))
 refine⟨k,ex,h1,?_,hle,h2.up,h2.ex_iff⟩
 obtain⟨p1,p2⟩:=MV (o:=note/12-5) h ht h0
 have posV:=KM (-r.a) (-r.b) (-r.c)
 have posF:=KM (-(2*(n:Int)*(note/12-5))) 0 0
 have t1:=VZ ht
 have t2:=VZ h0
 have hB:upP (Kt r n (note/12-5) t t0)*a.toNat^(2*n)<dnP (Kt r n (note/12-5) t t0)*160000000^(2*n):=by
  rw[p1,p2]
  exact AF hrn.1 posV posF h.u (C3 (by omega)) (Ph t1.2 t2.1 (by omega))
 have:=Nat.lt_of_mul_lt_mul_left (Jn hle hB)
 exact(Nat.pow_lt_pow_iff_left (by omega)).1 this
end Go.Proofs.YtlhmikjnholpnaaGreatDoor
namespace Go.Proofs.YtlhmikjnholpnaaGreatDoor.Q
open Go Go.Vx
def dig(a i:Nat):Nat:=a/32768^i%32768
theorem Ke(i:Nat):0<32768^i:=YD (by decide)
theorem Jb(i:Nat):32768^(i+1)=32768^i*32768:=YF ..
theorem Qk(a i:Nat):dig a i<32768:=Kj _ (by decide)
theorem Xm(a i:Nat):a%32768^(i+1)=a%32768^i+32768^i*dig a i:=Nat.mod_pow_succ
theorem EU(a:Nat):dig a 0=a%32768:=by simp [dig]
theorem Mk(i:Nat):dig 0 i=0:=by simp [dig]
theorem Iz(a i:Nat):dig a (i+1)=dig (a/32768) i:=by
 unfold dig
 rw[KY,Jb,Yk]
theorem X6{a n i:Nat}(h:a<32768^n)(hi:n<=i):dig a i=0:=by
 unfold dig
 rw[Qu]
 exact Qf h (Kl (by decide) hi)
theorem MY{a b:Nat}:∀{n:Nat},(∀i,i<n->dig a i=dig b i)->a%32768^n=b%32768^n
 |0,_=>by simp [Nat.mod_one]
 |n+1,h=>by rw[Xm,Xm,MY fun i hi=>h i (by omega),h n (by omega)]
theorem EV{a b n:Nat}(ha:a<32768^n)(hb:b<32768^n)(h:∀i,i<n->dig a i=dig b i):a=b:=by
 have:=MY h
 rwa [Qg ha,Qg hb]at this
theorem VB{a j k:Nat}(h:k<j):dig (a%32768^j) k=dig a k:=by
 unfold dig
 obtain⟨m,rfl⟩:∃m,j=k+(m+1):=⟨j-k-1,by omega⟩
 rw[Yo,Nat.mod_mul_right_div_self,YF,Yk,Nat.mod_mul_right_mod]
def nlF:Nat->Nat->Nat
 |0,_=>0
 |f+1,a=>if a=0 then 0 else nlF f (a/32768)+1
def nl(a:Nat):Nat:=nlF a a
theorem M2:∀(f a n:Nat),a<=f->(nlF f a<=n↔a<32768^n)
 |0,a,n,h=>by
  have:=Ke n
  simp only[nlF];omega
 |f+1,a,n,h=>by
  simp only[nlF]
  split
  ·rename_i h0;have:=Ke n;subst h0;simp;omega
  ·cases n with
   |zero=>simp;omega
   |succ n=>
    have:=M2 f (a/32768) n (by omega)
    rw[Jb,<-ZJ (by decide),<-this]
    omega
theorem nl_le{a n:Nat}:nl a<=n↔a<32768^n:=M2 a a n (Yr _)
theorem QF(a:Nat):a<32768^nl a:=nl_le.1 (Yr _)
theorem XL:nl 0=0:=rfl
theorem nl_pos{a:Nat}:0<nl a↔0<a:=by
 have:= @nl_le a 0
 simp at this;omega
theorem nl_eq0{a:Nat}:nl a=0↔a=0:=by
 have:= @nl_le a 0
 simp at this;omega
theorem Pc{a:Nat}(h:a≠0):dig a (nl a-1)≠0:=by
 obtain⟨n,hn⟩:∃n,nl a=n+1:=⟨nl a-1,by have:=nl_eq0 (a:=a);omega⟩
 rw[hn,Nat.add_sub_cancel]
 have h1:=QF a
 have h2:¬a<32768^n:=fun hh=>by have:=nl_le.2 hh;omega
 rw[hn,Jb]at h1
 unfold dig
 have h3:a/32768^n<32768:=by rw[ZJ (Ke n),Yk];exact h1
 rw[Qg h3]
 have:=Nat.div_pos (ZK h2) (Ke n)
 omega
theorem G9{a b:Nat}(h:a<=b):nl a<=nl b:=nl_le.2 (Jn h (QF b))
theorem WJ{a n:Nat}(h:a<32768^n)(ht:n=0\/dig a (n-1)≠0):nl a=n:=by
 have h1:=nl_le.2 h
 rcases ht with rfl|ht
 ·omega
 ·rcases YV (nl a) n with h2|h2
  ·exact absurd (X6 (QF a) (by omega:nl a<=n-1)) ht
  ·omega
theorem W9{a n:Nat}(h:a<32768^(n+1))(h0:dig a n=0):a<32768^n:=by
 have:=Xm a n
 rw[h0,Qg h]at this
 rw[this]
 simpa using Kj a (Ke n)
def cy(a b i:Nat):Nat:=(a%32768^i+b%32768^i)/32768^i
theorem Ir(a b:Nat):cy a b 0=0:=by simp [cy,Nat.mod_one]
theorem DJ(a b i:Nat):cy a b i<=1:=by
 unfold cy
 have h1:=Kj a (Ke i)
 have h2:=Kj b (Ke i)
 have:(a%32768^i+b%32768^i)/32768^i<2:=by
  rw[ZJ (Ke i)];omega
 omega
theorem EX(a b i:Nat):(a+b)/32768^i=a/32768^i+b/32768^i+cy a b i:=by
 unfold cy
 have h1:=KO a (32768^i)
 have h2:=KO b (32768^i)
 generalize hP:32768^i=P at*
 have hp:0<P:=hP▸Ke i
 have e:a+b=P*(a/P+b/P)+(a%P+b%P):=by rw[Y9];omega
 conv=>lhs;rw[e]
 rw[Nat.mul_add_div hp]
theorem Dk(a b i:Nat):(dig a i+dig b i+cy a b i)%32768=dig (a+b) i:=by
 unfold dig
 rw[EX]
 omega
theorem Ea(a b i:Nat):(dig a i+dig b i+cy a b i)/32768=cy a b (i+1):=by
 have e:cy a b (i+1)=(a%32768^(i+1)+b%32768^(i+1))/32768^(i+1):=rfl
 rw[e,Xm,Xm,Jb,<-KY]
 unfold cy
 generalize hP:32768^i=P at*
 have hp:0<P:=hP▸Ke i
 have e:a%P+P*dig a i+(b%P+P*dig b i)=P*(dig a i+dig b i)+(a%P+b%P):=by rw[Y9];omega
 rw[e,Nat.mul_add_div hp]
def J5(V j x:Nat):Nat:=V-dig V j*32768^j+x*32768^j
theorem Uz(V j:Nat):V=32768^j*(32768*(V/32768^(j+1))+dig V j)+V%32768^j:=by
 have h1:=KO V (32768^j)
 have h2:=KO (V/32768^j) 32768
 rw[KY,<-Jb]at h2
 unfold dig
 rw[h2,h1]
theorem Ux(V j x:Nat):J5 V j x=32768^j*(32768*(V/32768^(j+1))+x)+V%32768^j:=by
 have:=Uz V j
 unfold J5
 generalize dig V j=d at*
 generalize V/32768^(j+1)=h at*
 generalize V%32768^j=l at*
 generalize 32768^j=P at*
 rw[Y9]at this⊢
 rw[Yk d,Yk x]
 omega
theorem Ny(V j x:Nat):J5 V j x+dig V j*32768^j=V+x*32768^j:=by
 have:=Uz V j
 rw[Ux]
 generalize dig V j=d at*
 generalize V/32768^(j+1)=h at*
 generalize V%32768^j=l at*
 generalize 32768^j=P at*
 rw[Y9]at this⊢
 rw[Yk d,Yk x]
 omega
theorem Nz{V j x:Nat}(hx:x<32768):J5 V j x/32768^(j+1)=V/32768^(j+1):=by
 have hl:=Kj V (Ke j)
 have e:∀Y:Nat,Y/32768^(j+1)=Y/32768^j/32768:=fun Y=>by rw[Jb,KY]
 rw[Ux,e (32768^j*(32768*(V/32768^(j+1))+x)+V%32768^j),Nat.mul_add_div (Ke j),Qu hl]
 generalize V/32768^(j+1)=h
 omega
theorem Mj{V j x:Nat}(hx:x<32768)(k:Nat):dig (J5 V j x) k=if k=j then x else dig V k:=by
 have hl:=Kj V (Ke j)
 rcases We k j with h|h|h
 ·rw[if_neg (by omega),<-VB h,<-VB (a:=V) h,Ux,Nat.mul_add_mod,Nat.mod_mod]
 ·subst h
  rw[if_pos rfl,Ux]
  unfold dig
  rw[Nat.mul_add_div (Ke k),Qu hl]
  omega
 ·rw[if_neg (by omega)]
  obtain⟨m,rfl⟩:∃m,k=(j+1)+m:=⟨k-(j+1),by omega⟩
  unfold dig
  have e:J5 V j x/32768^(j+1)=V/32768^(j+1):=by
   exact Nz hx
  rw[Yo,<-KY,<-KY,e]
theorem P6{V j x n:Nat}(hV:V<32768^n)(hx:x<32768)(hj:j<n):J5 V j x<32768^n:=by
 obtain⟨m,rfl⟩:∃m,n=m+(j+1):=⟨n-(j+1),by omega⟩
 rw[Yo,<-ZJ (Ke _)]at hV⊢
 rw[Nz hx]
 exact hV
theorem YaR{a b i k V c:Nat}(h:V+c*32768^(i+k)=(a%32768^i)*b+dig a i*(b%32768^k)*32768^i):
 J5 V (i+k) ((dig V (i+k)+dig a i*dig b k+c)%32768)+((dig V (i+k)+dig a i*dig b k+c)/32768)*32768^(i+(k+1))=(a%32768^i)*b+dig a i*(b%32768^(k+1))*32768^i:=by
 have e1:=Ny V (i+k) ((dig V (i+k)+dig a i*dig b k+c)%32768)
 have e2:=KO (dig V (i+k)+dig a i*dig b k+c) 32768
 rw[Xm,show i+(k+1)=(i+k)+1 by omega,Jb]
 rw[Yo]at*
 generalize J5 V (i+k) ((dig V (i+k)+dig a i*dig b k+c)%32768)=V' at*
 generalize(dig V (i+k)+dig a i*dig b k+c)%32768=r at*
 generalize(dig V (i+k)+dig a i*dig b k+c)/32768=q at*
 generalize dig V (i+k)=d at*
 generalize dig a i=x at*
 generalize dig b k=y at*
 generalize b%32768^k=bm at*
 generalize a%32768^i=am at*
 generalize 32768^i=P at*
 generalize 32768^k=R at*
 grind
theorem UW(a m k:Nat):dig (a/32768^m) k=dig a (m+k):=by
 unfold dig
 rw[Yo,KY]
theorem Pa(a b:Nat):∃n,a<32768^n/\b<32768^n:=
 ⟨nl a+nl b,Qf (QF a) (Kl (by decide) (by omega)),Qf (QF b) (Kl (by decide) (by omega))⟩
theorem Mh{a b:Nat}(h:∀i,dig a i=dig b i):a=b:=by
 obtain⟨n,h1,h2⟩:=Pa a b
 exact EV h1 h2 fun i _=>h i
theorem EW{a b m:Nat}(h:∀i,m<=i->dig a i=dig b i):a/32768^m=b/32768^m:=
 Mh fun i=>by rw[UW,UW];exact h _ (by omega)
theorem Mi{a b j:Nat}(h:∀i,j<i->dig a i=dig b i)(hd:dig a j<dig b j):a<b:=by
 have h1:=Uz a j
 have h2:=Uz b j
 rw[EW (m:=j+1) fun i hi=>h i hi]at h1
 have h3:=Kj a (Ke j)
 generalize b/32768^(j+1)=q at*
 generalize 32768^j=P at*
 generalize a%P=x at*
 generalize b%P=y at*
 generalize dig a j=d at*
 generalize dig b j=e at*
 have:P*(32768*q+d)+P<=P*(32768*q+e):=by
  rw[<-Nat.mul_succ];exact Yz _ (by omega)
 omega
def KS(a b:Nat):Int:=if a<b then -1 else if b<a then 1 else 0
def pre(r:Nat->Nat):Nat->Nat
 |0=>0
 |i+1=>pre r i+r i*32768^i
theorem YbL(r:Nat->Nat)(i:Nat):pre r (i+1)/32768^i=r i+pre r i/32768^i:=by
 show(pre r i+r i*32768^i)/32768^i=_
 rw[Nat.add_mul_div_right _ _ (Ke i),Nat.add_comm]
theorem YbJ(r:Nat->Nat)(i:Nat):(r i+pre r i/32768^i)/32768=pre r (i+1)/32768^(i+1):=by
 rw[<-YbL,KY,<-Jb]
theorem YbN(r:Nat->Nat):∀(i d:Nat),pre r (i+d)%32768^i=pre r i%32768^i
 |_,0=>rfl
 |i,d+1=>by
  rw[<-YbN r i d]
  show(pre r (i+d)+r (i+d)*32768^(i+d))%32768^i=_
  rw[Yo,Yk (32768^i),<-Yx,Nat.add_mul_mod_self_right]
theorem YbK(r:Nat->Nat){i n:Nat}(h:i<n):(r i+pre r i/32768^i)%32768=dig (pre r n) i:=by
 obtain⟨d,rfl⟩:∃d,n=i+1+d:=⟨n-i-1,by omega⟩
 rw[<-YbL,<-VB (Nat.lt_succ_self i),YbN,VB (Nat.lt_succ_self i)]
 rfl
theorem YbI(f g:Nat->Nat):∀n,pre (fun i=>f i+g i) n=pre f n+pre g n
 |0=>rfl
 |n+1=>by show pre (fun i=>f i+g i) n+(f n+g n)*32768^n=(pre f n+f n*32768^n)+(pre g n+g n*32768^n);rw[YbI f g n,YN];omega
theorem PB(a:Nat):∀n,pre (fun i=>dig a i) n=a%32768^n
 |0=>by simp [pre,Nat.mod_one]
 |n+1=>by show pre (fun i=>dig a i) n+dig a n*32768^n=_;rw[PB a n,Xm,Yk]
theorem YbO(r:Nat->Nat)(j x:Nat):∀n,j<n->pre (fun i=>if i=j then r i+x else r i) n=pre r n+x*32768^j
 |0,h=>absurd h (QC _)
 |n+1,h=>by
  show pre (fun i=>if i=j then r i+x else r i) n+(if n=j then r n+x else r n)*32768^n=(pre r n+r n*32768^n)+x*32768^j
  have same:∀m,m<=j->pre (fun i=>if i=j then r i+x else r i) m=pre r m:=by
   intro m
   induction m with
   |zero=>intro _;rfl
   |succ m ih=>
    intro hm
    show pre (fun i=>if i=j then r i+x else r i) m+(if m=j then r m+x else r m)*32768^m=pre r m+r m*32768^m
    rw[ih (by omega),if_neg (by omega)]
  rcases YV j n with h'|h'
  ·rw[YbO r j x n h',if_neg (by omega)];omega
  ·obtain rfl:n=j:=by omega
   rw[same n (Yr _),if_pos rfl,YN];omega
theorem PC(r:Nat->Nat)(q:Nat):∀n,(∀i,i<n->r i<=32767*q)->pre r n<=q*32768^n
 |0,_=>by simp [pre]
 |n+1,h=>by
  have h1:=PC r q n fun i hi=>h i (by omega)
  have h2:=Yu (32768^n) (h n (by omega))
  show pre r n+r n*32768^n<=_
  rw[Jb]
  have e:q*(32768^n*32768)=q*32768^n+32767*q*32768^n:=by
   generalize 32768^n=P;grind
  omega
theorem Ai(r:Nat->Nat)(q n:Nat)(h:∀i,i<n->r i<=32767*q):pre r n/32768^n<=q:=
 Yj (Nat.div_le_div_right (PC r q n h)) (by rw[Nat.mul_div_cancel _ (Ke n)];exact Yr _)
theorem YbM(r:Nat->Nat)(q n:Nat)(hq:q<32768^4)(h:∀i,i<n->r i<=32767*q):pre r n<32768^(n+4):=by
 refine Jn (PC r q n h) ?_
 rw[Yo,Yk]
 exact Nat.mul_lt_mul_of_pos_left hq (Ke n)
set_option maxRecDepth 100000
set_option maxHeartbeats 4000000
def v95:VF:=⟨41,[.tmp 4],(ZR [Zi 4 0] (.seq (ZR [Zm 6 0,Zl 7 6,Zm 8 1,Zl 9 8,Zr 10 .neq 7 9] (ZC 10 (.seq (ZR [Zm 11 0,Zl 12 11,Zm 13 1,Zl 14 13,Zr 15 .lss 12 14] (ZC 15 (ZR [Zi 4 (-1)] .ret) .skip)) (ZR [Zi 4 1] .ret)) .skip)) (.seq (ZR [Zm 16 0,Zl 17 16,u1 18 (.ari .sub) [.tm 17,.cn (.int .i64 1)],Zm 5 18] (.block 0 (.loop (.seq (ZR [Zm 19 5,Zq 20 .geq 19 0] (ZC 20 .skip (.exit 0))) (.seq (.block 1 (.seq (.seq (.draw [] [Zu 23 0,Zu 24 5,ZX 25 1 23 24,Zv 26 1 25,Zu 27 1,Zu 28 5,ZX 29 1 27 28,Zv 30 1 29,w1 31 (.cmp .lss) [.tm 26,.tm 30]]) (ZC 31 (ZR [Zi 4 (-1)] .ret) .skip)) (.seq (.draw [] [Zu 32 0,Zu 33 5,ZX 34 1 32 33,Zv 35 1 34,Zu 36 1,Zu 37 5,ZX 38 1 36 37,Zv 39 1 38,w1 40 (.cmp .gtr) [.tm 35,.tm 39]]) (ZC 40 (ZR [Zi 4 1] .ret) .skip)))) (.region [Zm 21 5,u1 22 (.ari .sub) [.tm 21,.cn (.int .i64 1)],Zm 5 22])))))) (ZR [Zi 4 0] .ret))))⟩
theorem YtK:Yn Yb Tryz.f95=some v95:=by kernel_rfl
def v93:VF:=⟨14,[.tmp 2],(ZR [u1 2 .mov [.cn .nil]] (ZR [u1 3 .mov [.cn .nil]] (.seq (.block 0 (.loop (.seq (ZR [Zm 4 0,Zq 5 .gtr 4 0] (ZC 5 .skip (.exit 0))) (.block 1 (ZR [Zm 6 3,Zm 7 0,u1 8 .rem [.tm 7,.cn (.int .i64 32768)],u1 9 (.buildSlice 1 1 [(.int .i64 0)] [(0,1)]) [.tm 8],u1 10 (.append 1 8 [(.int .i64 0)]) [.tm 6,.tm 9],Zm 3 10] (.region [Zm 11 0,u1 12 .quo [.tm 11,.cn (.int .i64 32768)],Zm 0 12])))))) (ZR [Zm 13 3,Zm 2 13] .ret))))⟩
theorem YtI:Yn Yb Tryz.f93=some v93:=by kernel_rfl
def K6(a n sz:Nat)(get:Nat->List SV):Prop:=sz=1/\n<=100000/\a<32768^n/\∀k,k<n->Qz (get k) [.int .i64 (dig a k)]
theorem Hb{a n:Nat}(hn:n<=100000)(ha:a<32768^n):K6 a n 1 (fun k=>[.int .i64 (dig a k)]):=⟨rfl,hn,ha,fun k _=>Y1 _⟩
theorem YJ{a:Nat}(hn:nl a<=100000):K6 a (nl a) 1 (fun k=>[.int .i64 (dig a k)]):=Hb hn (QF a)
def Ym(z:Bool)(a:Nat):SV:= .vs true z (nl a) 1 (fun k=>[.int .i64 (dig a k)])
theorem Pu{hp:List HO}{i n m:Nat}{z zz:Bool}{get:Nat->List SV}{a:Nat}(hn:n=nl a)(hz:z=zz)(hi:Yq hp i= .own z 1 m get)(hg:∀j,j<n->get j=[.int .i64 (dig a j)]):
 le 0 0 (QE hp (.own i 0 n 1)) (Ym zz a):=by
 have e:QE hp (.own i 0 n 1)= .vs true z n 1 (fun k=>viewN true hp 2 (get (Qx 0 k))):=by
  show Qr true hp (viewN true hp 2) (.own i 0 n 1)=_
  unfold Qr
  rw[hi];rfl
 rw[e]
 unfold Ym
 rw[LO]
 refine⟨id,hz,hn,rfl,fun j hj=>?_⟩
 show Qz (viewN true hp 2 (get j)) _
 rw[hg j hj]
 exact Y1 _
theorem Ww{k:SV->List HO->Prop}{al:Bool}{hp:List HO}{i n m:Nat}{z zz:Bool}{get:Nat->List SV}{a:Nat}(h:k (Ym zz a) [])(hn:n=nl a)(hz:z=zz)(hi:Yq hp i= .own z 1 m get)(hg:∀j,j<n->get j=[.int .i64 (dig a j)]):
 Jv al k (.own i 0 n 1) hp:=Ky h (Pu hn hz hi hg) (fun _=>by simp [Ym,Y0,Y4])
theorem UN{k:SV->List HO->Prop}{al:Bool}{hp:List HO}{t z:Bool}{a:Nat}(h:k (Ym z a) []):Jv al k (.vs true z (nl a) 1 (fun k=>[.int .i64 (dig a k)])) hp:=
 Ky h (Jq _ trivial) (fun _=>by simp [Ym,Y0,Y4])
theorem MO(x:Nat):((x:Int)).tmod 32768=((x%32768:Nat):Int):=Vm rfl rfl
theorem MN{x:Nat}(h:x<=9223372036854775807):IntKind.i64.wrap (((x:Int)).tdiv 32768)=((x/32768:Nat):Int):=by
 have e:((x:Int)).tdiv 32768=((x/32768:Nat):Int):=Wt (y:=32768) rfl rfl
 rw[e,Yg _ (by omega)]
def limbsC:Ctr:={ alias:=false,of:=fun l=>match l with
 | [.int .i64 n]=> .pre (0<=n/\n<=9223372036854775807) (.fin (Ym (decide (nl n.toNat=0)) n.toNat) [])
 |_=>noC}
def cmpC:Ctr:={ alias:=false,of:=fun l=>match l with
 | [.vs _ _ n sz get,.vs _ _ m sz' get']=> .ex Nat fun a=> .ex Nat fun b=> .pre (K6 a n sz get/\K6 b m sz' get'/\n=nl a/\m=nl b) (.fin (.int .i64 (KS a b)) [])
 |_=>noC}
def Q0:Env:={ ct:=fun _=>none,fn:=fun _=>none,meth:=fun _ _=>none}
theorem RX:YE Yb Q0:=by
 refine⟨fun f c h=>?_,fun f vf h=>?_,(fun _ _ _ h=>by cases h),by kernel_rfl,(fun _ h=>by cases h)⟩
 ·cases h
 ·cases h
theorem AA:limbsC.ok Yb 93:=by
 refine Yv Tryz.func93 YtI RX 200 limbsC fun args k h=>?_
 simp only[limbsC]at h
 split at h
 ·rename_i n
  obtain⟨⟨h0,h1⟩,h⟩:=h
  obtain⟨n,rfl⟩:=Vl h0
  rw[Yh]at h
  refine⟨[.int .i64 n],by simp [leL,le],?_⟩
  (try dsimp only[v93,go_sem,reduceIte,Ya])
  (try simp only[Yd,Ya,Ye,reduceCtorEq,Yc])
  have hn5:nl n<=5:=nl_le.2 (by omega)
  refine Loop.keep [0,2] Nat (fun i=>[(0,.int .i64 ((n/32768^i:Nat):Int)),(3,.own 0 0 i 1)]) (fun i=>[(0,.own (decide (i=0)) 1 i (fun k=>[.int .i64 (dig n k)]))]) [.gone] (fun i=>i<=nl n) (fun i=>nl n-i) ?_ ?_
  ·refine⟨0,by omega,?_⟩
   (try dsimp only[go_sem,reduceIte,Ya])
   simp only[Yf]
   simp
  ·rintro i hi
   (try dsimp only[Yh,go_sem,reduceIte,Ya])
   (try simp only[Yd,Ya,Ye,reduceCtorEq,Yc])
   have hle:n/32768^i<=n:=QP _ _
   refine⟨fun hlt=>?_,fun hge=>?_⟩
   ·have hin:i<nl n:=by
     rcases YV i (nl n)with h'|h'
     ·exact h'
     ·rw[Qu (nl_le.1 h')]at hlt;exact absurd hlt (by decide)
    rw[MO,MN (by omega),KY,<-Jb]
    (try dsimp only[go_sem,reduceIte,Ya])
    (try simp only[Yd,Ya,Ye,reduceCtorEq,Yc])
    refine⟨by decide,by decide,⟨by unfold Ka;omega,fun j hj=>?_⟩,by decide,i+1,by omega,by omega,?_⟩
    ·match j,hj with
     |0,_=>exact⟨rfl,trivial,trivial⟩
    ·simp only[Yf]
     refine⟨by simp,by simp,fun j hj=>?_⟩
     rcases YV j i with h'|h'
     ·rw[if_pos h'];simp only[leL,le,and_self]
     ·obtain rfl:j=i:=by omega
      rw[if_neg (XX _),Nat.sub_self]
      simp only[YZ,YR,YK,leL,JX,Z1,Ko,cond,le,dig,and_self]
   ·have hin:i=nl n:=by
     have:n<32768^i:=by
      rcases YV n (32768^i)with h'|h'
      ·exact h'
      ·have:=Nat.div_pos h' (Ke i);omega
     have:=nl_le.2 this;omega
    subst hin
    exact Ww h rfl rfl rfl fun j hj=>rfl
 ·exact h.1.elim
theorem Yb7:cmpC.ok Yb 95:=by
 refine Yv Tryz.func95 YtK RX 200 cmpC fun args k h=>?_
 simp only[cmpC]at h
 split at h
 ·rename_i t1 z1 n sz get t2 z2 m sz' get'
  obtain⟨a,b,⟨⟨rfl,hn,ha,hg⟩,⟨rfl,hm,hb,hg'⟩,rfl,rfl⟩,h⟩:=h
  refine⟨[.vs t1 z1 (nl a) 1 (fun k=>[.int .i64 (dig a k)]),.vs t2 z2 (nl b) 1 (fun k=>[.int .i64 (dig b k)])],⟨by simpa [le]using hg,by simpa [le]using hg',trivial⟩,?_⟩
  (try dsimp only[v95,go_sem,reduceIte,Ya])
  (try simp only[Yd,Ya,Ye,reduceCtorEq,Yc])
  refine⟨fun hne=>⟨fun hlt=>YX ?_,fun hge=>YX ?_⟩,fun heq=>?_⟩
  ·have:a<b:=by
    rcases YV a b with h'|h'
    ·exact h'
    ·have:=G9 h';omega
   rw[KS,if_pos this]at h;exact h
  ·have:b<a:=by
    rcases YV b a with h'|h'
    ·exact h'
    ·have:=G9 h';omega
   rw[KS,if_neg (by omega),if_pos this]at h;exact h
  ·refine Loop.keep [0,0,3] Nat (fun j=>[(5,.int .i64 ((j:Int)-1))]) (fun _=>[]) [] (fun j=>j<=nl a/\∀i,j<=i->dig a i=dig b i) (fun j=>j) ?_ ?_
   ·refine⟨nl a,⟨by omega,fun i hi=>by rw[X6 ha (by omega),X6 hb (by omega)]⟩,?_⟩
    (try dsimp only[go_sem,reduceIte,Ya])
    simp only[Yf]
    rw[Yg _ (by omega)]
   ·rintro j ⟨hj,haj⟩
    (try dsimp only[Yh,go_sem,reduceIte,Ya])
    (try simp only[Yd,Ya,Ye,reduceCtorEq,Yc])
    refine⟨fun hlt=>?_,fun hge=>?_⟩
    ·obtain⟨i,rfl⟩:∃i,j=i+1:=⟨j-1,by omega⟩
     have e:((i+1:Nat):Int)-1=i:=by omega
     have gt:∀t,i<t->dig a t=dig b t:=fun t ht=>haj t (by omega)
     rw[e]
     simp only[Yh]
     refine⟨⟨by omega,by omega⟩,⟨by omega,by omega⟩,fun hc=>YX ?_,fun hc=>⟨⟨by omega,by omega⟩,⟨by omega,by omega⟩,fun hd=>YX ?_,fun hd=>?_⟩⟩
     ·have:=Mi gt (by omega:dig a i<dig b i)
      rw[KS,if_pos this]at h;exact h
     ·have:=Mi (fun t ht=>(gt t ht).symm) (by omega:dig b i<dig a i)
      rw[KS,if_neg (by omega),if_pos this]at h;exact h
     ·refine⟨i,⟨by omega,fun t ht=>?_⟩,by omega,?_⟩
      ·rcases Nat.eq_or_lt_of_le ht with rfl|ht
       ·omega
       ·exact gt t ht
      ·simp only[Yf]
       rw[Yg _ (by omega)]
    ·obtain rfl:j=0:=by omega
     have:a=b:=Mh fun i=>haj i (JP _)
     subst this
     rw[KS,if_neg (XX _),if_neg (XX _)]at h
     exact YX h
 ·exact h.1.elim
def V2:VF:={ ntmps:=21,res:=[.tmp 2],body:=
 (ZR [u1 2 .mov [.cn .nil]]
 (.seq (.block 0 (.loop (.seq (ZR [Zm 3 0,
 Zl 4 3,
 Zq 5 .gtr 4 0,
 Zm 6 5,
 Zg 7 6 true 0,
 Zg 8 6 true 0,
 u2 9 6 true .len [.tm 8],
 u2 10 6 true (.ari .sub) [.tm 9,.cn (.int .i64 1)],
 u2 11 6 true (.idxAddr 1) [.tm 7,.tm 10],
 Zh 12 6 true 1 11,
 u2 13 6 true (.cmp .eql) [.tm 12,.cn (.int .i64 0)],
 u1 14 .and [.tm 6,.tm 13]]
 (ZC 14 .skip
  (.exit 0)))
 (.block 1 (.region [Zm 15 0,
 Zm 16 0,
 Zl 17 16,
 u1 18 (.ari .sub) [.tm 17,.cn (.int .i64 1)],
 u1 19 (.slice 1 false true) [.tm 15,.tm 18],
 Zm 0 19])))))
 (ZR [Zm 20 0,
 Zm 2 20]
 .ret)))}
theorem Yee:Yn Yb Tryz.f134=some V2:=by kernel_rfl
def NK:VF:={ ntmps:=35,res:=[.tmp 2],body:=
 (ZR [u1 2 .mov [.cn .nil]]
 (ZR [Zi 3 0]
 (.seq (ZR [Zi 4 0]
 (.block 0 (.loop (.seq (ZR [Zm 5 4,
 Zm 6 0,
 Zl 7 6,
 Zr 8 .lss 5 7]
 (ZC 8 .skip
  (.exit 0)))
 (.seq (.block 1 (ZR [Zm 11 3,
 Zm 12 0,
 Zm 13 4,
 Zx 14 1 12 13,
 Zf 15 1 14,
 Zo 16 .add 11 15,
 Zm 3 16]
 (ZR [Zm 17 0,
 Zm 18 4,
 Zm 19 3,
 u1 20 .rem [.tm 19,.cn (.int .i64 32768)],
 Zx 21 1 17 18,
 Zs 1 21 20]
 (.region [Zm 22 3,
 u1 23 .quo [.tm 22,.cn (.int .i64 32768)],
 Zm 3 23]))))
 (.region [Zm 9 4,
 Zp 10 9 1,
 Zm 4 10]))))))
 (.seq (.block 2 (.loop (.seq (ZR [Zm 24 3,
 Zq 25 .gtr 24 0]
 (ZC 25 .skip
  (.exit 2)))
 (.block 3 (ZR [Zm 26 0,
 Zm 27 3,
 u1 28 .rem [.tm 27,.cn (.int .i64 32768)],
 u1 29 (.buildSlice 1 1 [(.int .i64 0)] [(0,1)]) [.tm 28],
 u1 30 (.append 1 8 [(.int .i64 0)]) [.tm 26,.tm 29],
 Zm 0 30]
 (.region [Zm 31 3,
 u1 32 .quo [.tm 31,.cn (.int .i64 32768)],
 Zm 3 32]))))))
 (ZR [Zm 33 0,
 Zc 34 134 33,
 Zm 2 34]
 .ret)))))}
theorem YrW:Yn Yb Tryz.f122=some NK:=by kernel_rfl
def v86:VF:=⟨47,[.tmp 4],(ZR [u1 4 .mov [.cn .nil]] (ZR [Zm 8 0,Zl 9 8,Zm 10 1,Zl 11 10,u1 12 .max [.tm 9,.tm 11],u1 13 (.make 1 8 [(.int .i64 0)]) [.tm 12,.tm 12],Zm 5 13] (.seq (ZR [Zi 6 0] (.block 0 (.loop (.seq (ZR [Zm 14 6,Zm 15 0,Zl 16 15,Zr 17 .lss 14 16] (ZC 17 .skip (.exit 0))) (.seq (.block 1 (.region [Zm 20 5,Zm 21 6,Zm 22 0,Zm 23 6,Zx 24 1 22 23,Zf 25 1 24,Zx 26 1 20 21,Zs 1 26 25])) (.region [Zm 18 6,Zp 19 18 1,Zm 6 19])))))) (.seq (ZR [Zi 7 0] (.block 2 (.loop (.seq (ZR [Zm 27 7,Zm 28 1,Zl 29 28,Zr 30 .lss 27 29] (ZC 30 .skip (.exit 2))) (.seq (.block 3 (.draw [] [Zu 33 5,Zu 34 7,Zu 35 5,Zu 36 7,ZX 37 1 35 36,Zv 38 1 37,Zu 39 1,Zu 40 7,ZX 41 1 39 40,Zv 42 1 41,w1 43 (.ari .add) [.tm 38,.tm 42],ZX 44 1 33 34,ZS 1 44 43])) (.region [Zm 31 7,Zp 32 31 1,Zm 7 32])))))) (ZR [Zm 45 5,Zc 46 122 45,Zm 4 46] .ret)))))⟩
theorem YtB:Yn Yb Tryz.f86=some v86:=by kernel_rfl
def v94:VF:=⟨49,[.tmp 4],(ZR [u1 4 .mov [.cn .nil]] (ZR [Zm 8 0,Zl 9 8,Zm 10 1,Zl 11 10,Zo 12 .add 9 11,u1 13 (.make 1 8 [(.int .i64 0)]) [.tm 12,.tm 12],Zm 5 13] (.seq (ZR [Zi 6 0] (.block 0 (.loop (.seq (ZR [Zm 14 6,Zm 15 0,Zl 16 15,Zr 17 .lss 14 16] (ZC 17 .skip (.exit 0))) (.seq (.block 1 (ZR [Zi 7 0] (.block 2 (.loop (.seq (ZR [Zm 20 7,Zm 21 1,Zl 22 21,Zr 23 .lss 20 22] (ZC 23 .skip (.exit 2))) (.seq (.block 3 (.draw [] [Zu 26 5,Zu 27 6,Zu 28 7,w1 29 (.ari .add) [.tm 27,.tm 28],Zu 30 5,Zu 31 6,Zu 32 7,w1 33 (.ari .add) [.tm 31,.tm 32],ZX 34 1 30 33,Zv 35 1 34,Zu 36 0,Zu 37 6,ZX 38 1 36 37,Zv 39 1 38,Zu 40 1,Zu 41 7,ZX 42 1 40 41,Zv 43 1 42,w1 44 (.ari .mul) [.tm 39,.tm 43],w1 45 (.ari .add) [.tm 35,.tm 44],ZX 46 1 26 29,ZS 1 46 45])) (.region [Zm 24 7,Zp 25 24 1,Zm 7 25]))))))) (.region [Zm 18 6,Zp 19 18 1,Zm 6 19])))))) (ZR [Zm 47 5,Zc 48 122 47,Zm 4 48] .ret))))⟩
theorem YtJ:Yn Yb Tryz.f94=some v94:=by kernel_rfl
def addC:Ctr:={ alias:=false,of:=fun l=>match l with
 | [.vs _ _ n sz get,.vs _ _ m sz' get']=> .ex Nat fun a=> .ex Nat fun b=> .pre (K6 a n sz get/\K6 b m sz' get'/\n<=90000/\m<=90000) (.fin (Ym false (a+b)) [])
 |_=>noC}
def Q1:Env:={ ct:=fun _=>none,fn:=fun n=>match n with|134=>some V2|122=>some NK|_=>none,meth:=fun _ _=>none}
theorem RZ:Q1.ct 134=none:=rfl
theorem R3:Q1.fn 134=some V2:=rfl
theorem RY:Q1.ct 122=none:=rfl
theorem R2:Q1.fn 122=some NK:=rfl
theorem R4:YE Yb Q1:=by
 refine⟨fun f c h=>?_,fun f vf h=>?_,(fun _ _ _ h=>by cases h),by kernel_rfl,(fun _ h=>by cases h)⟩
 ·cases h
 ·simp only[Q1]at h
  split at h
  ·cases h;exact⟨_,Tryz.func134,Yee,_,Tryz.func134,rfl,rfl⟩
  ·cases h;exact⟨_,Tryz.func122,YrW,_,Tryz.func122,rfl,rfl⟩
  ·cases h
theorem Az:addC.ok Yb 86:=by
 refine Yv Tryz.func86 YtB R4 300 addC fun args k h=>?_
 simp only[addC]at h
 split at h
 ·rename_i t1 z1 n sz get t2 z2 m sz' get'
  obtain⟨a,b,⟨⟨rfl,hn,ha,hg⟩,⟨rfl,hm,hb,hg'⟩,hn9,hm9⟩,h⟩:=h
  refine⟨[.vs t1 z1 n 1 (fun k=>[.int .i64 (dig a k)]),.vs t2 z2 m 1 (fun k=>[.int .i64 (dig b k)])],⟨by simpa [le]using hg,by simpa [le]using hg',trivial⟩,?_⟩
  (try dsimp only[v86,go_sem,reduceIte,Ya])
  (try simp only[Yd,Ya,Ye,reduceCtorEq,Yc])
  have en:max (n:Int) (m:Int)=((max n m:Nat):Int):=by omega
  rw[en]
  simp only[Yh]
  refine⟨⟨by decide,by omega,by unfold Ka;omega⟩,?_⟩
  refine Loop.keep [0,0,3] Nat (fun i=>[(6,.int .i64 i)]) (fun i=>[(0,.own false 1 (max n m) (fun k=>[.int .i64 ((if k<i then dig a k else 0:Nat):Int)]))]) [] (fun i=>i<=n) (fun i=>n-i) ?_ ?_
  ·refine⟨0,by omega,?_⟩
   (try dsimp only[go_sem,reduceIte,Ya])
   simp only[Yf]
   simp [leL,le]
  ·rintro i hi
   (try dsimp only[Yh,go_sem,reduceIte,Ya])
   (try simp only[Yd,Ya,Ye,reduceCtorEq,Yc])
   refine⟨fun hlt=>?_,fun hge=>?_⟩
   ·refine⟨⟨by omega,by omega⟩,⟨by omega,by omega⟩,by omega,i+1,by omega,by omega,?_⟩
    rw[Yg ((i:Int)+1) (by omega)]
    simp only[Yf]
    refine⟨by simp,fun j hj=>?_⟩
    rcases We j i with h'|h'|h'
    ·rw[if_neg (by omega),if_pos h',if_pos (by omega)];simp only[leL,le,and_self]
    ·subst h';rw[if_pos rfl,if_pos (by omega)];simp only[leL,le,and_self]
    ·rw[if_neg (by omega),if_neg (by omega),if_neg (by omega)];simp only[leL,le,and_self]
   ·obtain rfl:i=n:=by omega
    refine Loop.keep [0,0,3] Nat (fun j=>[(7,.int .i64 j)]) (fun j=>[(0,.own false 1 (max i m) (fun k=>[.int .i64 ((dig a k+(if k<j then dig b k else 0):Nat):Int)]))]) [] (fun j=>j<=m) (fun j=>m-j) ?_ ?_
    ·refine⟨0,by omega,?_⟩
     (try dsimp only[go_sem,reduceIte,Ya])
     simp only[Yf]
     refine⟨by simp,fun j hj=>?_⟩
     rcases YV j i with h'|h'
     ·rw[if_pos h',if_neg (QC _),Kw];try simp only[leL,le,and_self]
     ·rw[if_neg (by omega),if_neg (QC _),X6 ha h',Kw];try simp only[leL,le,and_self]
    ·rintro j hj
     (try dsimp only[Yh,go_sem,reduceIte,Ya])
     (try simp only[Yd,Ya,Ye,reduceCtorEq,Yc])
     refine⟨fun hlt=>?_,fun hge=>?_⟩
     ·refine⟨⟨by omega,by omega⟩,by omega,⟨by omega,by omega⟩,⟨by omega,by omega⟩,by omega,j+1,by omega,by omega,?_⟩
      have h1:=Qk a j
      have h2:=Qk b j
      have e:IntKind.i64.wrap (((dig a j+if j<j then dig b j else 0:Nat):Int)+(dig b j:Int))=((dig a j+dig b j:Nat):Int):=by
       rw[if_neg (XX _),Yg _ (by omega)];omega
      rw[Yg ((j:Int)+1) (by omega),e]
      simp only[Yf]
      refine⟨by simp,fun q hq=>?_⟩
      rcases We q j with h'|h'|h'
      ·rw[if_neg (by omega),if_pos h',if_pos (by omega)];simp only[leL,le,and_self]
      ·subst h';rw[if_pos rfl,if_pos (by omega)];simp only[leL,le,and_self]
      ·rw[if_neg (by omega),if_neg (by omega),if_neg (by omega)];simp only[leL,le,and_self]
     ·obtain rfl:j=m:=by omega
      have eR:(fun k=>[SV.int .i64 ((dig a k+(if k<j then dig b k else 0):Nat):Int)])=fun k=>[SV.int .i64 (((fun i=>dig a i+dig b i) k:Nat):Int)]:=by
       funext k
       split
       ·rfl
       ·rename_i hk;show _=[SV.int .i64 ((dig a k+dig b k:Nat):Int)];rw[X6 hb (by omega)]
      rw[eR]
      have hX:pre (fun i=>dig a i+dig b i) (max i j)=a+b:=by
       rw[YbI,PB,PB,Qg (Qf ha (Kl (by decide) (by omega))),Qg (Qf hb (Kl (by decide) (by omega)))]
      have hQ:∀q,q<max i j->(fun i=>dig a i+dig b i) q<=32767*35184372088832:=fun q _=>by
       have h1:=Qk a q
       have h2:=Qk b q
       show dig a q+dig b q<=_
       omega
      have hN:max i j<=90000:=by omega
      generalize hR:(fun i=>dig a i+dig b i)=R at hX hQ⊢
      generalize max i j=N at hX hQ hN⊢
      generalize a+b=X at hX h
      have hXN:X<32768^(N+4):=hX▸YbM R 35184372088832 N (by decide) hQ
      (try dsimp only[RY,R2,NK,Yh,go_sem,reduceIte,Ya])
      (try simp only[Yd,Ya,Ye,reduceCtorEq,Yc])
      refine Loop.keep [0,2,0] Nat (fun i=>[(3,.int .i64 ((pre R i/32768^i:Nat):Int)),(4,.int .i64 i)]) (fun i=>[(0,.own false 1 N (fun k=>[.int .i64 ((if k<i then dig X k else R k:Nat):Int)]))]) [] (fun i=>i<=N) (fun i=>N-i) ?_ ?_
      ·refine⟨0,by omega,?_⟩
       (try dsimp only[go_sem,reduceIte,Ya])
       simp only[Yf]
       simp [pre]
      ·rintro i hi
       (try dsimp only[Yh,go_sem,reduceIte,Ya])
       (try simp only[Yd,Ya,Ye,reduceCtorEq,Yc])
       refine⟨fun hlt=>?_,fun hge=>?_⟩
       ·have hin:i<N:=by omega
        refine⟨⟨by omega,by omega⟩,hin,by decide,⟨by omega,by omega⟩,hin,by decide,i+1,by omega,by omega,?_⟩
        have hc:=Ai R 35184372088832 i fun q hq=>hQ q (by omega)
        have hr:=hQ i hin
        have e:IntKind.i64.wrap (((pre R i/32768^i:Nat):Int)+((if i<i then dig X i else R i:Nat):Int))=((R i+pre R i/32768^i:Nat):Int):=by
         rw[if_neg (XX _)]
         generalize pre R i/32768^i=c at hc
         generalize R i=r at hr
         rw[Yg _ (by omega)];omega
        have hx:R i+pre R i/32768^i<=9223372036854775807:=by
         generalize pre R i/32768^i=c at hc
         omega
        rw[e,Yg ((i:Int)+1) (by omega),MO,MN hx,YbK R hin,YbJ,hX]
        simp only[Yf]
        refine⟨⟨by omega,by simp⟩,⟨by omega,by omega⟩,fun q hq=>?_⟩
        rcases We q i with h'|h'|h'
        ·rw[if_neg (by omega),if_pos h',if_pos (by omega)];simp only[leL,le,and_self]
        ·subst h';rw[if_pos rfl,if_pos (by omega)];simp only[leL,le,and_self]
        ·rw[if_neg (by omega),if_neg (by omega),if_neg (by omega)];simp only[leL,le,and_self]
       ·obtain rfl:i=N:=by omega
        rw[hX]
        refine Loop.keepP 0 [0,2] Nat (fun t=>[(0,.own 0 0 (i+t) 1),(3,.int .i64 ((X/32768^(i+t):Nat):Int))]) (fun t=>[(0,.own false 1 (i+t) (fun k=>[.int .i64 (dig X k)]))]) [] (fun t=>t<=4) (fun t=>4-t) ?_ ?_
        ·refine⟨0,by omega,?_⟩
         (try dsimp only[go_sem,reduceIte,Ya])
         simp only[Yf]
         refine⟨⟨⟨by omega,by omega⟩,by simp⟩,by omega,fun q hq=>by rw[if_pos hq]⟩
        ·rintro t ht
         (try dsimp only[Yh,go_sem,reduceIte,Ya])
         (try simp only[Yd,Ya,Ye,reduceCtorEq,Yc])
         refine⟨fun hlt=>?_,fun hge=>?_⟩
         ·have ht4:t<4:=by
           rcases YV t 4 with h'|h'
           ·exact h'
           ·obtain rfl:t=4:=by omega
            rw[Qu hXN]at hlt;exact absurd hlt (by decide)
          have hc:=Ai R 35184372088832 i hQ
          rw[hX]at hc
          generalize hc0:X/32768^i=c0 at hc
          have hc2:X/32768^(i+t)<=c0:=by
           rw[<-hc0];rw[Yo,<-KY];exact QP _ _
          have hx:X/32768^(i+t)<=9223372036854775807:=Yj hc2 (by omega)
          rw[MO,MN hx,KY,<-Jb]
          (try dsimp only[go_sem,reduceIte,Ya])
          (try simp only[Yd,Ya,Ye,reduceCtorEq,Yc])
          refine⟨by decide,by decide,⟨by unfold Ka;omega,fun j hj=>?_⟩,by decide,t+1,by omega,by omega,?_⟩
          ·match j,hj with
           |0,_=>exact⟨rfl,trivial,trivial⟩
          ·simp only[Yf]
           refine⟨⟨⟨by omega,by omega⟩,by rw[XV]⟩,rfl,by omega,fun q hq=>?_⟩
           rcases YV q (i+t)with h'|h'
           ·rw[if_pos h'];simp only[leL,le,and_self]
           ·obtain rfl:q=i+t:=by omega
            rw[if_neg (XX _),Nat.sub_self]
            simp only[YZ,YR,YK,leL,JX,Z1,Ko,cond,le,dig,and_self]
         ·have hXT:X<32768^(i+t):=by
           rcases YV X (32768^(i+t))with h'|h'
           ·exact h'
           ·have:=Nat.div_pos h' (Ke (i+t))
            generalize X/32768^(i+t)=c at*
            omega
          have hT:i+t<=90004:=by omega
          generalize i+t=M at hXT hT⊢
          (try dsimp only[RZ,R3,V2,Yh,go_sem,reduceIte,Ya])
          (try simp only[Yd,Ya,Ye,reduceCtorEq,Yc])
          refine Loop.keep [0] Nat (fun j=>[(0,.own 0 0 j 1)]) (fun _=>[(0,.own false 1 M (fun k=>[.int .i64 (dig X k)]))]) [] (fun j=>j<=M/\X<32768^j) (fun j=>j) ?_ ?_
          ·refine⟨M,⟨Yr _,hXT⟩,?_⟩
           (try dsimp only[go_sem,reduceIte,Ya])
           simp only[Yf]
           exact⟨by omega,by omega,by omega⟩
          ·rintro j ⟨hj,haj⟩
           (try dsimp only[Yh,go_sem,reduceIte,Ya])
           (try simp only[Yd,Ya,Ye,reduceCtorEq,Yc])
           refine⟨fun hlt=>?_,fun hlt=>?_,fun hb=>?_,fun hb=>?_⟩
           ·rw[Y2 (by omega) (by omega)];omega
           ·rw[Y2 (by omega) (by omega)];omega
           ·rw[YS,decide_eq_true_eq,decide_eq_true_eq]at hb
            obtain⟨h1,h2⟩:=hb
            rw[Y2 (by omega) (by omega),Yh]at h2
            refine⟨by rw[Y2 (by omega) (by omega)];omega,j-1,⟨by omega,?_⟩,by omega,?_⟩
            ·obtain⟨m,rfl⟩:∃m,j=m+1:=⟨j-1,by omega⟩
             exact W9 haj (by simp at h2;exact_mod_cast h2)
            ·rw[Y2 (by omega) (by omega)]
             simp only[Yf] <;> simp [leL,le]
           ·have e:nl X=j:=by
             refine WJ haj ?_
             rw[Vk,decide_eq_false_iff_not,decide_eq_false_iff_not]at hb
             rcases KU j with h0|h0
             ·exact .inl h0
             ·refine .inr fun hh=>hb.elim (fun h=>h (by omega)) fun h=>h ?_
              rw[Y2 h0 (by omega),Yh,hh];rfl
            subst e
            exact Ww h rfl rfl rfl fun j hj=>rfl
 ·exact h.1.elim
def mulC:Ctr:={ alias:=false,of:=fun l=>match l with
 | [.vs _ _ n sz get,.vs _ _ m sz' get']=> .ex Nat fun a=> .ex Nat fun b=> .pre (K6 a n sz get/\K6 b m sz' get'/\n<=40000/\m<=40000) (.fin (Ym false (a*b)) [])
 |_=>noC}
theorem YmW{a b i k V:Nat}(h:V=(a%32768^i)*b+dig a i*(b%32768^k)*32768^i):
 V+dig a i*dig b k*32768^(i+k)=(a%32768^i)*b+dig a i*(b%32768^(k+1))*32768^i:=by
 rw[h,Xm b k,Yo]
 generalize 32768^i=P
 generalize 32768^k=Q
 grind
theorem YmX{a b i m:Nat}(hb:b<32768^m):(a%32768^i)*b+dig a i*(b%32768^m)*32768^i=(a%32768^(i+1))*b:=by
 rw[Xm a i,Qg hb]
 generalize 32768^i=P
 grind
theorem Yjg(a b:Nat):∃W,W<1073741824/\∀i k,dig a i*dig b k<=W:=by
 obtain⟨U,hU⟩:∃U,U=32767:=⟨_,rfl⟩
 refine⟨U*U,by subst hU;decide,fun i k=>YP ?_ ?_⟩
 ·have:=Qk a i;omega
 ·have:=Qk b k;omega
theorem Yb8:mulC.ok Yb 94:=by
 refine Yv Tryz.func94 YtJ R4 300 mulC fun args k h=>?_
 simp only[mulC]at h
 split at h
 ·rename_i t1 z1 n sz get t2 z2 m sz' get'
  obtain⟨a,b,⟨⟨rfl,hn,ha,hg⟩,⟨rfl,hm,hb,hg'⟩,hn9,hm9⟩,h⟩:=h
  refine⟨[.vs t1 z1 n 1 (fun k=>[.int .i64 (dig a k)]),.vs t2 z2 m 1 (fun k=>[.int .i64 (dig b k)])],⟨by simpa [le]using hg,by simpa [le]using hg',trivial⟩,?_⟩
  (try dsimp only[v94,go_sem,reduceIte,Ya])
  (try simp only[Yd,Ya,Ye,reduceCtorEq,Yc])
  obtain⟨W,hW,hWl⟩:=Yjg a b
  have en:IntKind.i64.wrap ((n:Int)+(m:Int))=((n+m:Nat):Int):=by rw[Yg _ (by omega)];omega
  rw[en]
  simp only[Yh]
  refine⟨⟨by decide,by omega,by unfold Ka;omega⟩,?_⟩
  refine Loop.keep [0,0,3] (Nat×(Nat->Nat)) (fun x=>[(6,.int .i64 x.1)]) (fun x=>[(0,.own false 1 (n+m) (fun k=>[.int .i64 (x.2 k)]))]) [] (fun x=>x.1<=n/\pre x.2 (n+m)=(a%32768^x.1)*b/\∀q,x.2 q<=x.1*W) (fun x=>n-x.1) ?_ ?_
  ·refine⟨(0,fun _=>0),⟨JP _,?_,fun q=>JP _⟩,?_⟩
   ·have:∀N,pre (fun _=>0) N=0:=fun N=>by
     induction N with
     |zero=>rfl
     |succ N ih=>show pre (fun _=>0) N+0*32768^N=0;rw[ih,JX]
    rw[this];simp [Nat.mod_one]
   ·(try dsimp only[go_sem,reduceIte,Ya])
    simp only[Yf]
    simp [leL,le]
  ·rintro⟨i,R⟩ ⟨hi,hR,hRb⟩
   dsimp only at hi hR hRb
   (try dsimp only[Yh,go_sem,reduceIte,Ya])
   (try simp only[Yd,Ya,Ye,reduceCtorEq,Yc])
   refine⟨fun hlt=>?_,fun hge=>?_⟩
   ·refine Loop.keep [0,0,3,0] (Nat×(Nat->Nat)) (fun x=>[(7,.int .i64 x.1)]) (fun x=>[(0,.own false 1 (n+m) (fun k=>[.int .i64 (x.2 k)]))]) [] (fun x=>x.1<=m/\pre x.2 (n+m)=(a%32768^i)*b+dig a i*(b%32768^x.1)*32768^i/\∀q,x.2 q<=(if q<i+x.1 then i+1 else i)*W) (fun x=>m-x.1) ?_ ?_
    ·refine⟨(0,R),⟨JP _,by simp [hR,Nat.mod_one],fun q=>?_⟩,?_⟩
     ·have:=hRb q
      dsimp only
      split
      ·exact Yj this (Yu _ (Nat.le_succ _))
      ·exact this
     ·(try dsimp only[go_sem,reduceIte,Ya])
      simp only[Yf]
      simp [leL,le]
    ·rintro⟨j,S⟩ ⟨hj,hS,hSb⟩
     dsimp only at hj hS hSb
     (try dsimp only[Yh,go_sem,reduceIte,Ya])
     (try simp only[Yd,Ya,Ye,reduceCtorEq,Yc])
     refine⟨fun hlt2=>?_,fun hge2=>?_⟩
     ·have w:IntKind.i64.wrap ((i:Int)+(j:Int))=((i+j:Nat):Int):=by rw[Yg _ (by omega)];omega
      have hp:=hWl i j
      have hiW:i*W<=40000*1073741824:=YP (by omega) (by omega)
      have hs:=hSb (i+j)
      rw[if_neg (XX _)]at hs
      have e:IntKind.i64.wrap ((S (i+j):Int)+IntKind.i64.wrap ((dig a i:Int)*(dig b j:Int)))=((S (i+j)+dig a i*dig b j:Nat):Int):=by
       rw[<-JV]
       generalize dig a i*dig b j=p at hp⊢
       generalize i*W=v at hs hiW
       rw[Yg (p:Int) (by omega),Yg _ (by omega)];omega
      rw[w]
      simp only[Yh]
      refine⟨⟨by omega,by omega⟩,by omega,⟨by omega,by omega⟩,⟨by omega,by omega⟩,⟨by omega,by omega⟩,by omega,(j+1,fun q=>if q=i+j then S q+dig a i*dig b j else S q),⟨by dsimp only;omega,?_,fun q=>?_⟩,by dsimp only;omega,?_⟩
      ·dsimp only
       rw[YbO S (i+j) (dig a i*dig b j) (n+m) (by omega)]
       exact YmW hS
      ·dsimp only
       have hq:=hSb q
       rcases We q (i+j)with h'|h'|h'
       ·rw[if_pos h']at hq
        rw[if_neg (by omega),if_pos (by omega)];exact hq
       ·subst h'
        rw[if_pos rfl,if_pos (by omega),XG]
        exact Nat.add_le_add hs hp
       ·rw[if_neg (by omega)]at hq
        rw[if_neg (by omega),if_neg (by omega)];exact hq
      ·rw[e,Yg ((j:Int)+1) (by omega)]
       simp only[Yf]
       refine⟨⟨by omega,by omega⟩,fun q hq=>?_⟩
       rcases We q (i+j)with h'|h'|h'
       ·rw[if_neg (by omega),if_neg (by omega)];simp only[leL,le,and_self]
       ·subst h';rw[if_pos rfl,if_pos rfl];simp only[leL,le,and_self]
       ·rw[if_neg (by omega),if_neg (by omega)];simp only[leL,le,and_self]
     ·obtain rfl:j=m:=by omega
      refine⟨(i+1,S),⟨by dsimp only;omega,?_,fun q=>?_⟩,by dsimp only;omega,?_⟩
      ·dsimp only
       rw[hS];exact YmX hb
      ·have:=hSb q
       dsimp only
       split at this
       ·exact this
       ·exact Yj this (Yu _ (Nat.le_succ _))
      ·rw[Yg ((i:Int)+1) (by omega)]
       simp only[Yf]
       exact⟨by omega,by omega⟩
   ·obtain rfl:i=n:=by omega
    have hX:pre R (i+m)=a*b:=by rw[hR,Qg ha]
    have hQ:∀q,q<i+m->R q<=32767*35184372088832:=fun q _=>by
     have:=hRb q
     have hiW:i*W<=40000*1073741824:=YP (by omega) (by omega)
     omega
    have hN:i+m<=90000:=by omega
    generalize i+m=N at hX hQ hN⊢
    generalize a*b=X at hX h
    have hXN:X<32768^(N+4):=hX▸YbM R 35184372088832 N (by decide) hQ
    (try dsimp only[RY,R2,NK,Yh,go_sem,reduceIte,Ya])
    (try simp only[Yd,Ya,Ye,reduceCtorEq,Yc])
    refine Loop.keep [0,2,0] Nat (fun i=>[(3,.int .i64 ((pre R i/32768^i:Nat):Int)),(4,.int .i64 i)]) (fun i=>[(0,.own false 1 N (fun k=>[.int .i64 ((if k<i then dig X k else R k:Nat):Int)]))]) [] (fun i=>i<=N) (fun i=>N-i) ?_ ?_
    ·refine⟨0,by omega,?_⟩
     (try dsimp only[go_sem,reduceIte,Ya])
     simp only[Yf]
     simp [pre]
    ·rintro i hi
     (try dsimp only[Yh,go_sem,reduceIte,Ya])
     (try simp only[Yd,Ya,Ye,reduceCtorEq,Yc])
     refine⟨fun hlt=>?_,fun hge=>?_⟩
     ·have hin:i<N:=by omega
      refine⟨⟨by omega,by omega⟩,hin,by decide,⟨by omega,by omega⟩,hin,by decide,i+1,by omega,by omega,?_⟩
      have hc:=Ai R 35184372088832 i fun q hq=>hQ q (by omega)
      have hr:=hQ i hin
      have e:IntKind.i64.wrap (((pre R i/32768^i:Nat):Int)+((if i<i then dig X i else R i:Nat):Int))=((R i+pre R i/32768^i:Nat):Int):=by
       rw[if_neg (XX _)]
       generalize pre R i/32768^i=c at hc
       generalize R i=r at hr
       rw[Yg _ (by omega)];omega
      have hx:R i+pre R i/32768^i<=9223372036854775807:=by
       generalize pre R i/32768^i=c at hc
       omega
      rw[e,Yg ((i:Int)+1) (by omega),MO,MN hx,YbK R hin,YbJ,hX]
      simp only[Yf]
      refine⟨⟨by omega,by simp⟩,⟨by omega,by omega⟩,fun q hq=>?_⟩
      rcases We q i with h'|h'|h'
      ·rw[if_neg (by omega),if_pos h',if_pos (by omega)];simp only[leL,le,and_self]
      ·subst h';rw[if_pos rfl,if_pos (by omega)];simp only[leL,le,and_self]
      ·rw[if_neg (by omega),if_neg (by omega),if_neg (by omega)];simp only[leL,le,and_self]
     ·obtain rfl:i=N:=by omega
      rw[hX]
      refine Loop.keepP 0 [0,2] Nat (fun t=>[(0,.own 0 0 (i+t) 1),(3,.int .i64 ((X/32768^(i+t):Nat):Int))]) (fun t=>[(0,.own false 1 (i+t) (fun k=>[.int .i64 (dig X k)]))]) [] (fun t=>t<=4) (fun t=>4-t) ?_ ?_
      ·refine⟨0,by omega,?_⟩
       (try dsimp only[go_sem,reduceIte,Ya])
       simp only[Yf]
       refine⟨⟨⟨by omega,by omega⟩,by simp⟩,by omega,fun q hq=>by rw[if_pos hq]⟩
      ·rintro t ht
       (try dsimp only[Yh,go_sem,reduceIte,Ya])
       (try simp only[Yd,Ya,Ye,reduceCtorEq,Yc])
       refine⟨fun hlt=>?_,fun hge=>?_⟩
       ·have ht4:t<4:=by
         rcases YV t 4 with h'|h'
         ·exact h'
         ·obtain rfl:t=4:=by omega
          rw[Qu hXN]at hlt;exact absurd hlt (by decide)
        have hc:=Ai R 35184372088832 i hQ
        rw[hX]at hc
        generalize hc0:X/32768^i=c0 at hc
        have hc2:X/32768^(i+t)<=c0:=by
         rw[<-hc0];rw[Yo,<-KY];exact QP _ _
        have hx:X/32768^(i+t)<=9223372036854775807:=Yj hc2 (by omega)
        rw[MO,MN hx,KY,<-Jb]
        (try dsimp only[go_sem,reduceIte,Ya])
        (try simp only[Yd,Ya,Ye,reduceCtorEq,Yc])
        refine⟨by decide,by decide,⟨by unfold Ka;omega,fun j hj=>?_⟩,by decide,t+1,by omega,by omega,?_⟩
        ·match j,hj with
         |0,_=>exact⟨rfl,trivial,trivial⟩
        ·simp only[Yf]
         refine⟨⟨⟨by omega,by omega⟩,by rw[XV]⟩,rfl,by omega,fun q hq=>?_⟩
         rcases YV q (i+t)with h'|h'
         ·rw[if_pos h'];simp only[leL,le,and_self]
         ·obtain rfl:q=i+t:=by omega
          rw[if_neg (XX _),Nat.sub_self]
          simp only[YZ,YR,YK,leL,JX,Z1,Ko,cond,le,dig,and_self]
       ·have hXT:X<32768^(i+t):=by
         rcases YV X (32768^(i+t))with h'|h'
         ·exact h'
         ·have:=Nat.div_pos h' (Ke (i+t))
          generalize X/32768^(i+t)=c at*
          omega
        have hT:i+t<=90004:=by omega
        generalize i+t=M at hXT hT⊢
        (try dsimp only[RZ,R3,V2,Yh,go_sem,reduceIte,Ya])
        (try simp only[Yd,Ya,Ye,reduceCtorEq,Yc])
        refine Loop.keep [0] Nat (fun j=>[(0,.own 0 0 j 1)]) (fun _=>[(0,.own false 1 M (fun k=>[.int .i64 (dig X k)]))]) [] (fun j=>j<=M/\X<32768^j) (fun j=>j) ?_ ?_
        ·refine⟨M,⟨Yr _,hXT⟩,?_⟩
         (try dsimp only[go_sem,reduceIte,Ya])
         simp only[Yf]
         exact⟨by omega,by omega,by omega⟩
        ·rintro j ⟨hj,haj⟩
         (try dsimp only[Yh,go_sem,reduceIte,Ya])
         (try simp only[Yd,Ya,Ye,reduceCtorEq,Yc])
         refine⟨fun hlt=>?_,fun hlt=>?_,fun hb=>?_,fun hb=>?_⟩
         ·rw[Y2 (by omega) (by omega)];omega
         ·rw[Y2 (by omega) (by omega)];omega
         ·rw[YS,decide_eq_true_eq,decide_eq_true_eq]at hb
          obtain⟨h1,h2⟩:=hb
          rw[Y2 (by omega) (by omega),Yh]at h2
          refine⟨by rw[Y2 (by omega) (by omega)];omega,j-1,⟨by omega,?_⟩,by omega,?_⟩
          ·obtain⟨m,rfl⟩:∃m,j=m+1:=⟨j-1,by omega⟩
           exact W9 haj (by simp at h2;exact_mod_cast h2)
          ·rw[Y2 (by omega) (by omega)]
           simp only[Yf] <;> simp [leL,le]
         ·have e:nl X=j:=by
           refine WJ haj ?_
           rw[Vk,decide_eq_false_iff_not,decide_eq_false_iff_not]at hb
           rcases KU j with h0|h0
           ·exact .inl h0
           ·refine .inr fun hh=>hb.elim (fun h=>h (by omega)) fun h=>h ?_
            rw[Y2 h0 (by omega),Yh,hh];rfl
          subst e
          exact Ww h rfl rfl rfl fun j hj=>rfl
 ·exact h.1.elim
def v96:VF:=⟨19,[.tmp 4],(ZR [u1 4 .mov [.cn .nil]] (ZR [Zm 6 1,u1 7 .quo [.tm 6,.cn (.int .i64 15)],u1 8 (.make 1 8 [(.int .i64 0)]) [.tm 7,.tm 7],Zm 5 8] (ZR [Zm 9 5,Zm 10 0,Zm 11 1,u1 12 .rem [.tm 11,.cn (.int .i64 15)],u1 13 (.conv .u64) [.tm 12],u1 14 .shl [.cn (.int .i64 1),.tm 13],Zc 15 93 14,Zd 16 94 10 15,u1 17 (.append 1 8 [(.int .i64 0)]) [.tm 9,.tm 16],Zc 18 134 17,Zm 4 18] .ret)))⟩
theorem YtL:Yn Yb Tryz.f96=some v96:=by kernel_rfl
def Yec:VF:={ ntmps:=40,res:=[.tmp 6],body:=
 (ZR [u1 6 .mov [.cn .nil]]
 (ZR [Zm 11 0,
 Zm 12 0,
 Zd 13 94 11 12,
 Zm 7 13]
 (ZR [Zm 14 1,
 u1 15 .quo [.tm 14,.cn (.int .i64 15)],
 Zm 16 7,
 Zl 17 16,
 u1 18 .min [.tm 15,.tm 17],
 Zm 8 18]
 (ZR [u1 19 (.buildSlice 1 0 [(.int .i64 0)] []) [],
 Zm 20 7,
 Zm 21 8,
 u1 22 (.slice 1 false true) [.tm 20,.tm 21],
 u1 23 (.append 1 8 [(.int .i64 0)]) [.tm 19,.tm 22],
 Zc 24 134 23,
 Zm 9 24]
 (ZR [u1 25 (.buildSlice 1 0 [(.int .i64 0)] []) [],
 Zm 26 7,
 Zm 27 8,
 u1 28 (.slice 1 true false) [.tm 26,.tm 27],
 u1 29 (.append 1 8 [(.int .i64 0)]) [.tm 25,.tm 28],
 Zm 10 29]
 (.seq (ZR [Zm 30 2,
 Zm 31 30,
 Zg 32 31 true 9,
 u2 33 31 true .len [.tm 32],
 u2 34 31 true (.cmp .gtr) [.tm 33,.cn (.int .i64 0)],
 u1 35 .and [.tm 31,.tm 34]]
 (ZC 35 (.region [Zm 36 10,
 u1 37 (.call 93) [.cn (.int .i64 1)],
 Zd 38 86 36 37,
 Zm 10 38])
  .skip))
 (ZR [Zm 39 10,
 Zm 6 39]
 .ret)))))))}
theorem Yr7:Yn Yb Tryz.f132=some Yec:=by kernel_rfl
def Yed:VF:={ ntmps:=38,res:=[.tmp 4],body:=
 (ZR [u1 4 .mov [.cn .nil]]
 (.seq (ZR [Zm 8 1]
 (ZC 8 (.region [Zm 9 0,
 u1 10 (.call 93) [.cn (.int .i64 1)],
 Zd 11 86 9 10,
 Zm 0 11])
  .skip))
 (ZR [Zm 12 0,
 Zl 13 12,
 u1 14 (.make 1 8 [(.int .i64 0)]) [.tm 13,.tm 13],
 Zm 5 14]
 (ZR [Zi 6 0]
 (.seq (ZR [Zm 15 0,
 Zl 16 15,
 u1 17 (.ari .sub) [.tm 16,.cn (.int .i64 1)],
 Zm 7 17]
 (.block 0 (.loop (.seq (ZR [Zm 18 7,
 Zq 19 .geq 18 0]
 (ZC 19 .skip
  (.exit 0)))
 (.seq (.block 1 (ZR [Zm 22 6,
 u1 23 (.ari .mul) [.cn (.int .i64 32768),.tm 22],
 Zm 24 0,
 Zm 25 7,
 Zx 26 1 24 25,
 Zf 27 1 26,
 Zo 28 .add 23 27,
 Zm 6 28]
 (ZR [Zm 29 5,
 Zm 30 7,
 Zm 31 6,
 u1 32 .quo [.tm 31,.cn (.int .i64 2)],
 Zx 33 1 29 30,
 Zs 1 33 32]
 (.region [Zm 34 6,
 u1 35 .rem [.tm 34,.cn (.int .i64 2)],
 Zm 6 35]))))
 (.region [Zm 20 7,
 u1 21 (.ari .sub) [.tm 20,.cn (.int .i64 1)],
 Zm 7 21]))))))
 (ZR [Zm 36 5,
 Zc 37 134 36,
 Zm 4 37]
 .ret))))))}
theorem Yr8:Yn Yb Tryz.f133=some Yed:=by kernel_rfl
theorem Yji(y s k:Nat):dig (y*32768^s) k=if k<s then 0 else dig y (k-s):=by
 unfold dig
 split
 ·rename_i h
  obtain⟨d,rfl⟩:∃d,s=k+(d+1):=⟨s-k-1,by omega⟩
  rw[Yo,<-Yx,WW,Nat.mul_div_cancel _ (Ke k),Jb,<-Yx,Nat.mul_mod_left]
 ·rename_i h
  obtain⟨d,rfl⟩:∃d,k=s+d:=⟨k-s,by omega⟩
  rw[Yo,<-KY,Nat.mul_div_cancel _ (Ke s),Nat.add_sub_cancel_left]
theorem Yc5(a n:Nat):a*2^(n%15)*32768^(n/15)=a*2^n:=by
 have:(32768:Nat)=2^15:=by decide
 rw[this,<-Yl,Yx,<-Yo,Nat.mod_add_div]
def shiftC:Ctr:={ alias:=false,of:=fun l=>match l with
 | [.vs _ _ n sz get,.int .i64 q]=> .ex Nat fun a=> .pre (K6 a n sz get/\n<=30000/\0<=q/\q<=300000) (.fin (Ym false (a*2^q.toNat)) [])
 |_=>noC}
def Q2:Env:={ ct:=fun n=>match n with|93=>some limbsC|94=>some mulC|86=>some addC|_=>none,fn:=fun n=>match n with|134=>some V2|_=>none,meth:=fun _ _=>none}
theorem NZ:Q2.ct 93=some limbsC:=rfl
theorem R5:Q2.ct 94=some mulC:=rfl
theorem CA:Q2.ct 86=some addC:=rfl
theorem Cz:Q2.ct 134=none:=rfl
theorem CB:Q2.fn 134=some V2:=rfl
theorem CC:YE Yb Q2:=by
 refine⟨fun f c h=>?_,fun f vf h=>?_,(fun _ _ _ h=>by cases h),by kernel_rfl,(fun _ h=>by cases h)⟩
 ·simp only[Q2]at h
  split at h
  ·cases h;exact⟨AA,_,Tryz.func93,rfl,rfl⟩
  ·cases h;exact⟨Yb8,_,Tryz.func94,rfl,rfl⟩
  ·cases h;exact⟨Az,_,Tryz.func86,rfl,rfl⟩
  ·cases h
 ·simp only[Q2]at h
  split at h
  ·cases h;exact⟨_,Tryz.func134,Yee,_,Tryz.func134,rfl,rfl⟩
  ·cases h
theorem Yca:shiftC.ok Yb 96:=by
 refine Yv Tryz.func96 YtL CC 300 shiftC fun args k h=>?_
 simp only[shiftC]at h
 split at h
 ·rename_i t1 z1 n sz get q
  obtain⟨a,⟨⟨rfl,hn,ha,hg⟩,hn9,h0,h1⟩,h⟩:=h
  obtain⟨q,rfl⟩:=Vl h0
  rw[Yh]at h
  refine⟨[.vs t1 z1 n 1 (fun k=>[.int .i64 (dig a k)]),.int .i64 q],⟨by simpa [le]using hg,⟨rfl,rfl⟩,trivial⟩,?_⟩
  (try dsimp only[v96,NZ,R5,limbsC,mulC,Ym,Yh,go_sem,reduceIte,Ya])
  (try simp only[Yd,Ya,Ye,reduceCtorEq,Yc])
  have w1:IntKind.i64.wrap ((q:Int).tdiv 15)=((q/15:Nat):Int):=by
   have:(q:Int).tdiv 15=((q/15:Nat):Int):=Wt (y:=15) rfl rfl
   rw[this,Yg _ (by omega)]
  have w2:IntKind.u64.wrap ((q:Int).tmod 15)=((q%15:Nat):Int):=by
   have:(q:Int).tmod 15=((q%15:Nat):Int):=Vm (y:=15) rfl rfl
   rw[this,Z8 _ (by omega)]
  have hp:2^(q%15)<32768:=Qf (Nat.pow_lt_pow_right (by decide) (Kj _ (by decide)):2^(q%15)<2^15) (by decide)
  have w3:IntKind.i64.wrap (1*2^min (q%15) 64)=((2^(q%15):Nat):Int):=by
   have e4:min (q%15) 64=q%15:=by omega
   have e5:(1:Int)*2^(q%15)=((2^(q%15):Nat):Int):=by simp
   rw[e4,e5]
   generalize 2^(q%15)=P at hp⊢
   exact Yg _ (by omega)
  have hp2:(0:Int)<=((2^(q%15):Nat):Int)/\((2^(q%15):Nat):Int)<=9223372036854775807:=by
   generalize 2^(q%15)=P at hp⊢
   omega
  rw[w1,w2]
  simp only[Yh]
  simp only[w3,Yh]
  have hl1:nl (2^(q%15))<=1:=nl_le.2 (by simpa using hp)
  have hX:a*2^(q%15)<32768^(n+1):=by
   rw[Jb];exact Nat.mul_lt_mul'' ha hp
  have hl2:=nl_le.2 hX
  refine⟨by decide,⟨by decide,by omega,by omega,by unfold Ka;omega⟩,by decide,by omega,hp2,a,2^(q%15),⟨Hb hn ha,YJ (by omega),by omega,by omega⟩,by unfold Ka;omega,?_⟩
  have eR:(fun k=>if k<q/15 then [SV.int .i64 0]else [SV.int .i64 ((dig (a*2^(q%15)) (k-q/15):Nat):Int)])=fun k=>[SV.int .i64 ((dig (a*2^q) k:Nat):Int)]:=by
   funext k
   rw[<-Yc5 a q,Yji]
   split
   ·rfl
   ·rfl
  rw[eR,Bool.false_and]
  have hT:q/15+nl (a*2^(q%15))<=90004:=by omega
  have hXT:a*2^q<32768^(q/15+nl (a*2^(q%15))):=by
   rw[<-Yc5 a q,Nat.add_comm,Yo]
   exact ZL (QF _) (Ke _)
  generalize q/15+nl (a*2^(q%15))=M at hXT hT⊢
  generalize a*2^q=X at hXT h⊢
  (try dsimp only[Cz,CB,V2,Yh,go_sem,reduceIte,Ya])
  (try simp only[Yd,Ya,Ye,reduceCtorEq,Yc])
  refine Loop.keep [0] Nat (fun j=>[(0,.own 0 0 j 1)]) (fun _=>[(0,.own false 1 M (fun k=>[.int .i64 (dig X k)]))]) [] (fun j=>j<=M/\X<32768^j) (fun j=>j) ?_ ?_
  ·refine⟨M,⟨Yr _,hXT⟩,?_⟩
   (try dsimp only[go_sem,reduceIte,Ya])
   simp only[Yf]
   omega
  ·rintro j ⟨hj,haj⟩
   (try dsimp only[Yh,go_sem,reduceIte,Ya])
   (try simp only[Yd,Ya,Ye,reduceCtorEq,Yc])
   refine⟨fun hlt=>?_,fun hlt=>?_,fun hb=>?_,fun hb=>?_⟩
   ·rw[Y2 (by omega) (by omega)];omega
   ·rw[Y2 (by omega) (by omega)];omega
   ·rw[YS,decide_eq_true_eq,decide_eq_true_eq]at hb
    obtain⟨h1,h2⟩:=hb
    rw[Y2 (by omega) (by omega),Yh]at h2
    refine⟨by rw[Y2 (by omega) (by omega)];omega,j-1,⟨by omega,?_⟩,by omega,?_⟩
    ·obtain⟨m,rfl⟩:∃m,j=m+1:=⟨j-1,by omega⟩
     exact W9 haj (by simp at h2;exact_mod_cast h2)
    ·rw[Y2 (by omega) (by omega)]
     simp only[Yf] <;> simp [leL,le]
   ·have e:nl X=j:=by
     refine WJ haj ?_
     rw[Vk,decide_eq_false_iff_not,decide_eq_false_iff_not]at hb
     rcases KU j with h0|h0
     ·exact .inl h0
     ·refine .inr fun hh=>hb.elim (fun h=>h (by omega)) fun h=>h ?_
      rw[Y2 h0 (by omega),Yh,hh];rfl
    subst e
    exact Ww h rfl rfl rfl fun j hj=>rfl
 ·exact h.1.elim
def halveC:Ctr:={ alias:=false,of:=fun l=>match l with
 | [.vs _ _ n sz get,.bool up]=> .ex Nat fun a=> .pre (K6 a n sz get/\n<=40000) (.fin (Ym false ((a+(if up then 1 else 0))/2)) [])
 |_=>noC}
theorem Yky(a i:Nat):(32768*(a/32768^(i+1)%2)+dig a i)%2=a/32768^i%2:=by
 unfold dig;rw[Jb,<-KY]
 generalize a/32768^i=y
 omega
theorem Ykz(a i:Nat):(32768*(a/32768^(i+1)%2)+dig a i)/2=dig (a/2) i:=by
 unfold dig;rw[Jb,<-KY,KY a 2,Yk 2,<-KY a]
 generalize a/32768^i=y
 omega
theorem YoF:halveC.ok Yb 133:=by
 refine Yv Tryz.func133 Yr8 CC 300 halveC fun args k h=>?_
 simp only[halveC]at h
 split at h
 ·rename_i t1 z1 n sz get up
  obtain⟨a,⟨⟨rfl,hn,ha,hg⟩,hn9⟩,h⟩:=h
  refine⟨[.vs t1 z1 n 1 (fun k=>[.int .i64 (dig a k)]),.bool up],⟨by simpa [le]using hg,rfl,trivial⟩,?_⟩
  (try dsimp only[Yed,NZ,CA,limbsC,addC,Ym,Yh,go_sem,reduceIte,Ya])
  (try simp only[Yd,Ya,Ye,reduceCtorEq,Yc])
  refine⟨fun hup=>⟨⟨by decide,by decide⟩,a,1,⟨Hb hn ha,YJ (by decide),by omega,by decide⟩,?_⟩,fun hup=>⟨?_,?_⟩⟩
  all_goals subst hup
  all_goals first
   |exact⟨by decide,by omega,by omega,by unfold Ka;omega⟩
   | (have hl:nl (a+1)<=n+1:=nl_le.2 (by rw[Jb];omega)
      refine⟨⟨by decide,by omega,by omega,by unfold Ka;omega⟩,?_⟩
      have hY:=QF (a+1)
      have hL:nl (a+1)<=40001:=by omega
      have h:CSat (CRes.fin (Ym false ((a+1)/2)) []) k:=h
      generalize nl (a+1)=L at hY hL⊢
      generalize a+1=Y at hY h⊢)
   | (have hY:=ha
      have hL:n<=40001:=by omega
      have h:CSat (CRes.fin (Ym false (a/2)) []) k:=h
      generalize n=L at hY hL⊢
      generalize a=Y at hY h⊢)
  all_goals
   refine Loop.keep [0,4] Nat (fun j=>[(6,.int .i64 ((Y/32768^j%2:Nat):Int)),(7,.int .i64 ((j:Int)-1))]) (fun j=>[(0,.own false 1 L (fun k=>[.int .i64 ((if j<=k then dig (Y/2) k else 0:Nat):Int)]))]) [] (fun j=>j<=L) (fun j=>j) ?_ ?_
   ·refine⟨L,Yr _,?_⟩
    (try dsimp only[go_sem,reduceIte,Ya])
    simp only[Yf]
    rw[Qu hY,Yg _ (by omega)]
    refine⟨⟨by omega,by simp,rfl⟩,fun q hq=>?_⟩
    rw[if_neg (by omega)];rfl
   ·rintro j hj
    (try dsimp only[Yh,go_sem,reduceIte,Ya])
    (try simp only[Yd,Ya,Ye,reduceCtorEq,Yc])
    refine⟨fun hlt=>?_,fun hge=>?_⟩
    ·obtain⟨i,rfl⟩:∃i,j=i+1:=⟨j-1,by omega⟩
     have e0:((i+1:Nat):Int)-1=i:=by omega
     rw[e0]
     simp only[Yh]
     refine⟨⟨by omega,by omega⟩,by decide,⟨by omega,by omega⟩,by omega,by decide,i,by omega,by omega,?_⟩
     have h1:=Yky Y i
     have h2:=Ykz Y i
     have h3:=Qk Y i
     have h4:Y/32768^(i+1)%2<2:=Kj _ (by decide)
     generalize Y/32768^(i+1)%2=c at h1 h2 h4⊢
     have e1:IntKind.i64.wrap (IntKind.i64.wrap (32768*(c:Int))+((dig Y i:Nat):Int))=((32768*c+dig Y i:Nat):Int):=by
      rw[Yg (32768*(c:Int)) (by omega),Yg _ (by omega)];omega
     have e2:((32768*c+dig Y i:Nat):Int).tmod 2=((Y/32768^i%2:Nat):Int):=by
      rw[<-h1];exact Vm (y:=2) rfl rfl
     have e3:IntKind.i64.wrap (((32768*c+dig Y i:Nat):Int).tdiv 2)=((dig (Y/2) i:Nat):Int):=by
      rw[<-h2]
      have:((32768*c+dig Y i:Nat):Int).tdiv 2=(((32768*c+dig Y i)/2:Nat):Int):=Wt (y:=2) rfl rfl
      rw[this,Yg _ (by omega)]
     rw[e1,e2,e3,Yg ((i:Int)-1) (by omega)]
     simp only[Yf]
     refine⟨by omega,fun q hq=>?_⟩
     rcases We q i with h'|h'|h'
     ·rw[if_neg (by omega),if_neg (by omega),if_neg (by omega)];simp only[leL,le,and_self]
     ·subst h';rw[if_pos rfl,if_pos (by omega)];simp only[leL,le,and_self]
     ·rw[if_neg (by omega),if_pos (by omega),if_pos (by omega)];simp only[leL,le,and_self]
    ·obtain rfl:j=0:=by omega
     have eR:(fun k=>[SV.int .i64 ((if 0<=k then dig (Y/2) k else 0:Nat):Int)])=fun k=>[SV.int .i64 ((dig (Y/2) k:Nat):Int)]:=by
      funext k;rw[if_pos (JP _)]
     rw[eR]
     have hXT:Y/2<32768^L:=Jn (QP _ _) hY
     have hT:L<=90004:=by omega
     generalize Y/2=X at hXT h⊢
     generalize L=M at hXT hT⊢
     (try dsimp only[Cz,CB,V2,Yh,go_sem,reduceIte,Ya])
     (try simp only[Yd,Ya,Ye,reduceCtorEq,Yc])
     refine Loop.keep [0] Nat (fun j=>[(0,.own 0 0 j 1)]) (fun _=>[(0,.own false 1 M (fun k=>[.int .i64 (dig X k)]))]) [] (fun j=>j<=M/\X<32768^j) (fun j=>j) ?_ ?_
     ·refine⟨M,⟨Yr _,hXT⟩,?_⟩
      (try dsimp only[go_sem,reduceIte,Ya])
      simp only[Yf]
      omega
     ·rintro j ⟨hj,haj⟩
      (try dsimp only[Yh,go_sem,reduceIte,Ya])
      (try simp only[Yd,Ya,Ye,reduceCtorEq,Yc])
      refine⟨fun hlt=>?_,fun hlt=>?_,fun hb=>?_,fun hb=>?_⟩
      ·rw[Y2 (by omega) (by omega)];omega
      ·rw[Y2 (by omega) (by omega)];omega
      ·rw[YS,decide_eq_true_eq,decide_eq_true_eq]at hb
       obtain⟨h1,h2⟩:=hb
       rw[Y2 (by omega) (by omega),Yh]at h2
       refine⟨by rw[Y2 (by omega) (by omega)];omega,j-1,⟨by omega,?_⟩,by omega,?_⟩
       ·obtain⟨m,rfl⟩:∃m,j=m+1:=⟨j-1,by omega⟩
        exact W9 haj (by simp at h2;exact_mod_cast h2)
       ·rw[Y2 (by omega) (by omega)]
        simp only[Yf] <;> simp [leL,le]
      ·have e:nl X=j:=by
        refine WJ haj ?_
        rw[Vk,decide_eq_false_iff_not,decide_eq_false_iff_not]at hb
        rcases KU j with h0|h0
        ·exact .inl h0
        ·refine .inr fun hh=>hb.elim (fun h=>h (by omega)) fun h=>h ?_
         rw[Y2 h0 (by omega),Yh,hh];rfl
       subst e
       exact Ww h rfl rfl rfl fun j hj=>rfl
 ·exact h.1.elim
def sqN(a s:Nat)(up:Bool):Nat:=if up/\a*a%32768^s≠0 then a*a/32768^s+1 else a*a/32768^s
def squareC:Ctr:={ alias:=false,of:=fun l=>match l with
 | [.vs _ _ n sz get,.int .i64 q,.bool up]=> .ex Nat fun a=> .pre (K6 a n sz get/\n<=20000/\0<=q/\q<=300000) (.all Bool fun z=> .fin (Ym z (sqN a (q.toNat/15) up)) [])
 |_=>noC}
theorem Yq3{x s M:Nat}(hM:min s (nl x)=M):x/32768^s=x/32768^M/\x%32768^s=x%32768^M/\nl (x/32768^M)=nl x-M:=by
 have hnl:nl (x/32768^M)=nl x-M:=by
  rcases KU x with h0|h0
  ·subst h0;rw[Nat.zero_div,XL,Nat.zero_sub]
  ·have hMl:M<=nl x:=by omega
   have h1:x/32768^M<32768^(nl x-M):=by
    rw[ZJ (Ke M),<-Yo,Nat.sub_add_cancel hMl];exact QF x
   refine WJ h1 ?_
   rcases Nat.eq_or_lt_of_le hMl with h|h
   ·exact .inl (by omega)
   ·refine .inr ?_
    rw[UW,show M+(nl x-M-1)=nl x-1 by omega]
    exact Pc (by omega)
 rcases YV s (nl x)with h|h
 ·obtain rfl:M=s:=by omega
  exact⟨rfl,rfl,hnl⟩
 ·obtain rfl:M=nl x:=by omega
  have h1:=QF x
  have h2:=nl_le.1 h
  exact⟨by rw[Qu h1,Qu h2],by rw[Qg h1,Qg h2],hnl⟩
theorem YoK:squareC.ok Yb 132:=by
 refine Yv Tryz.func132 Yr7 CC 300 squareC fun args k h=>?_
 simp only[squareC]at h
 split at h
 ·rename_i t1 z1 n sz get q up
  obtain⟨a,⟨⟨rfl,hn,ha,hg⟩,hn9,h0,h1⟩,h⟩:=h
  obtain⟨q,rfl⟩:=Vl h0
  rw[Yh]at h
  refine⟨[.vs t1 z1 n 1 (fun k=>[.int .i64 (dig a k)]),.int .i64 q,.bool up],⟨by simpa [le]using hg,⟨rfl,rfl⟩,rfl,trivial⟩,?_⟩
  (try dsimp only[Yec,NZ,R5,CA,addC,limbsC,mulC,Ym,Yh,go_sem,reduceIte,Ya])
  (try simp only[Yd,Ya,Ye,reduceCtorEq,Yc])
  have w1:IntKind.i64.wrap ((q:Int).tdiv 15)=((q/15:Nat):Int):=by
   have:(q:Int).tdiv 15=((q/15:Nat):Int):=Wt (y:=15) rfl rfl
   rw[this,Yg _ (by omega)]
  have hX:a*a<32768^(n+n):=by rw[Yo];exact Nat.mul_lt_mul'' ha ha
  have hl:=nl_le.2 hX
  rw[w1]
  refine⟨a,a,⟨Hb hn ha,Hb hn ha,by omega⟩,by decide,by decide,?_⟩
  have e1:min ((q/15:Nat):Int) ((nl (a*a):Nat):Int)=((min (q/15) (nl (a*a)):Nat):Int):=by omega
  simp only[e1,Yh,KL]
  refine⟨⟨by omega,by omega⟩,by unfold Ka;omega,?_⟩
  generalize hM:min (q/15) (nl (a*a))=M
  generalize hXX:a*a%32768^M=X
  have hXT:X<32768^M:=hXX▸Kj _ (Ke M)
  have hT:M<=90004:=by omega
  (try dsimp only[Cz,CB,V2,Yh,go_sem,reduceIte,Ya])
  (try simp only[Yd,Ya,Ye,reduceCtorEq,Yc])
  refine Loop.keep [0] Nat (fun j=>[(0,.own 0 0 j 1)]) (fun _=>[(0,.own false 1 M (fun k=>[.int .i64 (dig X k)]))]) [] (fun j=>j<=M/\X<32768^j) (fun j=>j) ?_ ?_
  ·refine⟨M,⟨Yr _,hXT⟩,?_⟩
   (try dsimp only[go_sem,reduceIte,Ya])
   simp only[Yf]
   refine⟨by omega,by omega,by simp,fun k' hk=>?_⟩
   rw[if_neg (QC _),<-hXX,VB hk]
   simp only[leL,le,Nat.sub_zero,and_self]
  ·rintro j ⟨hj,haj⟩
   (try dsimp only[Yh,go_sem,reduceIte,Ya])
   (try simp only[Yd,Ya,Ye,reduceCtorEq,Yc])
   refine⟨fun hlt=>?_,fun hlt=>?_,fun hb=>?_,fun hb=>?_⟩
   ·rw[Y2 (by omega) (by omega)];omega
   ·rw[Y2 (by omega) (by omega)];omega
   ·rw[YS,decide_eq_true_eq,decide_eq_true_eq]at hb
    obtain⟨h1,h2⟩:=hb
    rw[Y2 (by omega) (by omega),Yh]at h2
    refine⟨by rw[Y2 (by omega) (by omega)];omega,j-1,⟨by omega,?_⟩,by omega,?_⟩
    ·obtain⟨m,rfl⟩:∃m,j=m+1:=⟨j-1,by omega⟩
     exact W9 haj (by simp at h2;exact_mod_cast h2)
    ·rw[Y2 (by omega) (by omega)]
     simp only[Yf] <;> simp [leL,le]
   ·have e:nl X=j:=by
     refine WJ haj ?_
     rw[Vk,decide_eq_false_iff_not,decide_eq_false_iff_not]at hb
     rcases KU j with h0|h0
     ·exact .inl h0
     ·refine .inr fun hh=>hb.elim (fun h=>h (by omega)) fun h=>h ?_
      rw[Y2 h0 (by omega),Yh,hh];rfl
    subst e
    (try dsimp only[go_sem,reduceIte,Ya])
    (try simp only[Yd,Ya,Ye,reduceCtorEq,Yc])
    obtain⟨c1,c2,c3⟩:=Yq3 hM
    have hle:Vi (nl (a*a)) M=nl (a*a)-M:=by unfold Vi;split <;> omega
    have hadd:∀k,Qx M k=M+k:=fun k=>by unfold Qx;split <;> omega
    refine⟨by decide,⟨by omega,by omega⟩,by unfold Ka;rw[hle];omega,fun hup=>?_,fun hup=>?_⟩
    ·(try dsimp only[NZ,CA,limbsC,addC,Ym,Yh,go_sem,reduceIte,Ya])
     (try simp only[Yd,Ya,Ye,reduceCtorEq,Yc])
     rw[YS,decide_eq_true_eq]at hup
     obtain⟨rfl,hup⟩:=hup
     have hX0:X≠0:=fun h0=>by subst h0;rw[XL]at hup;omega
     have e:sqN a (q/15) true=a*a/32768^M+1:=by
      unfold sqN;rw[c2,hXX,c1,if_pos ⟨rfl,hX0⟩]
     rw[e]at h
     refine⟨⟨by decide,by decide⟩,a*a/32768^M,1,⟨⟨rfl,by rw[hle];omega,?_,fun k' hk=>?_⟩,YJ (by decide),by rw[hle];omega,by decide⟩,UN (t:=true) (h false)⟩
     ·rw[hle,KL,<-c3];exact QF _
     ·dsimp only
      rw[if_neg (QC _),UW,hadd,Nat.sub_zero]
      exact Y1 _
    ·have hX0:¬(up=true/\a*a%32768^(q/15)≠0):=fun hh=>by
      rw[c2,hXX]at hh
      have:=nl_pos.2 (Nat.pos_of_ne_zero hh.2)
      rw[hh.1,Bool.true_and,decide_eq_false_iff_not]at hup
      omega
     have e:sqN a (q/15) up=a*a/32768^M:=by
      unfold sqN;rw[if_neg hX0,c1]
     rw[e]at h
     refine Ww (h false) (by rw[hle,c3,KL]) (Bool.false_and _) rfl fun k' hk=>?_
     rw[if_neg (QC _),UW,hadd,Nat.sub_zero]
 ·exact h.1.elim
theorem Yq2(a s:Nat):sqN a s false=a*a/32768^s:=by
 unfold sqN;rw[if_neg (fun h=>by cases h.1)]
theorem Yq1(a s:Nat):sqN a s true=YT (a*a) (32768^s):=by
 unfold sqN YT
 have h1:=KO (a*a) (32768^s)
 rw[Yk]at h1
 generalize a*a/32768^s*32768^s=p at*
 rcases KU (a*a%32768^s)with h0|h0
 ·rw[if_neg (fun h=>h.2 h0),if_neg (by omega)]
 ·rw[if_pos ⟨rfl,by omega⟩,if_pos (by omega)]
theorem YkA(a:Nat):(a+1)/2=YT a 2:=by
 unfold YT;split <;> omega
def lgR(n many:Nat):Nat×Nat:=if n=2^lgK n then(lgK n*2^many,lgK n*2^many)
 else gl (2^(2*many+60)) false many (n*2^(2*many+60-lgK n)) (n*2^(2*many+60-lgK n)) (lgK n)
def v92:VF:=⟨95,[.tmp 4,.tmp 5],(ZR [u1 4 .mov [.cn .nil],u1 5 .mov [.cn .nil]] (ZR [Zi 6 0] (.seq (.block 0 (.loop (.seq (ZR [Zm 13 0,Zm 14 6,Zp 15 14 1,u1 16 (.conv .u64) [.tm 15],u1 17 .shr [.tm 13,.tm 16],Zq 18 .gtr 17 0] (ZC 18 .skip (.exit 0))) (.block 1 (.region [Zm 19 6,Zp 20 19 1,Zm 6 20]))))) (ZR [Zm 21 6,Zc 22 93 21,Zm 7 22] (.seq (ZR [Zm 23 0,Zm 24 6,u1 25 (.conv .u64) [.tm 24],u1 26 .shl [.cn (.int .i64 1),.tm 25],Zr 27 .eql 23 26] (ZC 27 (ZR [Zm 28 7,Zm 29 1,Zd 30 96 28 29,Zm 31 7,Zm 32 1,Zd 33 96 31 32,Zm 4 30,Zm 5 33] .ret) .skip)) (ZR [Zm 34 1,u1 35 (.ari .mul) [.cn (.int .i64 2),.tm 34],Zp 36 35 60,Zm 8 36] (ZR [Zm 37 0,Zc 38 93 37,Zm 39 8,Zm 40 6,Zo 41 .sub 39 40,Zd 42 96 38 41,Zm 9 42] (ZR [Zm 43 9,Zm 10 43] (ZR [u1 44 (.call 93) [.cn (.int .i64 1)],Zm 45 8,Zp 46 45 1,Zd 47 96 44 46,Zm 11 47] (.seq (ZR [Zi 12 0] (.block 2 (.loop (.seq (ZR [Zm 48 12,Zm 49 1,Zr 50 .lss 48 49] (ZC 50 .skip (.exit 2))) (.seq (.block 3 (ZR [Zm 53 9,Zm 54 8,u1 55 (.call 132) [.tm 53,.tm 54,.cn (.bool false)],Zm 9 55] (ZR [Zm 56 10,Zm 57 8,u1 58 (.call 132) [.tm 56,.tm 57,.cn (.bool true)],Zm 10 58] (ZR [Zm 59 9,Zm 60 11,Zd 61 95 59 60,Zq 62 .geq 61 0] (ZC 62 (ZR [Zm 63 9,u1 64 (.call 133) [.tm 63,.cn (.bool false)],Zm 9 64] (ZR [Zm 65 10,u1 66 (.call 133) [.tm 65,.cn (.bool true)],Zm 10 66] (.region [Zm 67 7,Zm 68 7,Zd 69 86 67 68,u1 70 (.call 93) [.cn (.int .i64 1)],Zd 71 86 69 70,Zm 7 71]))) (ZR [Zm 72 10,Zm 73 11,Zd 74 95 72 73,Zq 75 .lss 74 0] (ZC 75 (.region [Zm 76 7,Zm 77 7,Zd 78 86 76 77,Zm 7 78]) (ZR [Zm 79 7,Zm 80 1,Zm 81 12,Zo 82 .sub 80 81,Zd 83 96 79 82,Zm 84 7,u1 85 (.call 93) [.cn (.int .i64 1)],Zd 86 86 84 85,Zm 87 1,Zm 88 12,Zo 89 .sub 87 88,Zd 90 96 86 89,Zm 4 83,Zm 5 90] .ret)))))))) (.region [Zm 51 12,Zp 52 51 1,Zm 12 52])))))) (ZR [Zm 91 7,Zm 92 7,u1 93 (.call 93) [.cn (.int .i64 1)],Zd 94 86 92 93,Zm 4 91,Zm 5 94] .ret)))))))))))⟩
theorem YtH:Yn Yb Tryz.f92=some v92:=by kernel_rfl
def logC:Ctr:={ alias:=false,of:=fun l=>match l with
 | [.int .i64 n,.int .i64 q]=> .pre ((1<=n/\n<=1000000000001)/\0<=q/\q<=3840/\q%15=0) (.all Bool fun z=> .all Bool fun z'=> .fin (.tup [Ym z (lgR n.toNat q.toNat).1,Ym z' (lgR n.toNat q.toNat).2]) [])
 |_=>noC}
def Q3:Env:={ ct:=fun n=>match n with|93=>some limbsC|95=>some cmpC|86=>some addC|96=>some shiftC|132=>some squareC|133=>some halveC|_=>none,fn:=fun _=>none,meth:=fun _ _=>none}
theorem R6:Q3.ct 93=some limbsC:=rfl
theorem Yfj:Q3.ct 95=some cmpC:=rfl
theorem Yfi:Q3.ct 86=some addC:=rfl
theorem R7:Q3.ct 96=some shiftC:=rfl
theorem Yfg:Q3.ct 132=some squareC:=rfl
theorem Yfh:Q3.ct 133=some halveC:=rfl
theorem Yfk:YE Yb Q3:=by
 refine⟨fun f c h=>?_,fun f vf h=>?_,(fun _ _ _ h=>by cases h),by kernel_rfl,(fun _ h=>by cases h)⟩
 ·simp only[Q3]at h
  split at h
  ·cases h;exact⟨AA,_,Tryz.func93,rfl,rfl⟩
  ·cases h;exact⟨Yb7,_,Tryz.func95,rfl,rfl⟩
  ·cases h;exact⟨Az,_,Tryz.func86,rfl,rfl⟩
  ·cases h;exact⟨Yca,_,Tryz.func96,rfl,rfl⟩
  ·cases h;exact⟨YoK,_,Tryz.func132,rfl,rfl⟩
  ·cases h;exact⟨YoF,_,Tryz.func133,rfl,rfl⟩
  ·cases h
 ·cases h
theorem ord_ge{a b:Nat}:0<=KS a b↔b<=a:=by
 unfold KS;split
 ·omega
 ·split <;> omega
theorem ord_lt{a b:Nat}:KS a b<0↔a<b:=by
 unfold KS;split
 ·omega
 ·split <;> omega
theorem pw15{e m:Nat}(h:e<15*m):2^e<32768^m:=by
 rw[show(32768:Nat)=2^15 by decide,<-Yl]
 exact Nat.pow_lt_pow_right (by decide) h
theorem VP{x e m:Nat}(h:x<2^e)(he:e<15*m):nl x<=m:=nl_le.2 (Nat.lt_trans h (pw15 he))
theorem nsz{x q:Nat}(hq:q<=3840)(h:x<=16*2^(2*q+60)):nl x<=1000:=by
 have e:16*2^(2*q+60)=2^(2*q+64):=by rw[show 2*q+64=4+(2*q+60)by omega,Yo 2 4]
 rw[e]at h
 have h2:2^(2*q+64)<2^(2*q+65):=Nat.pow_lt_pow_right (by decide) (by omega)
 exact VP (Jn h h2) (by omega)
theorem Ydk{A M:Nat}(hM:0<M)(h:A<=2*M):A*A/M<=4*M/\YT (A*A) M<=4*M:=by
 have:A*A<=4*M*M:=Yj (YP h h) (by grind)
 exact⟨Nat.div_le_of_le_mul (by rw[Yk M];exact this),X3 this⟩
theorem Yi1{x M:Nat}(h:x<=4*M):YT x 2<=2*M:=X3 (by omega)
theorem YoG:logC.ok Yb 92:=by
 refine Yv Tryz.func92 YtH Yfk 400 logC fun args k h=>?_
 simp only[logC]at h
 split at h
 ·rename_i n q
  obtain⟨⟨⟨hn1,hn2⟩,h0,h1,hq⟩,h⟩:=h
  obtain⟨n,rfl⟩:=Vl (show 0<=n by omega)
  obtain⟨q,rfl⟩:=Vl h0
  rw[Yh,Yh]at h
  refine⟨[.int .i64 n,.int .i64 q],by simp [leL,le],?_⟩
  (try dsimp only[v92,go_sem,reduceIte,Ya])
  (try simp only[Yd,Ya,Ye,reduceCtorEq,Yc])
  obtain⟨b1,b2⟩:=BZ (n:=n) (by omega)
  have hk40:lgK n<40:=by
   rcases YV (lgK n) 40 with h'|h'
   ·exact h'
   ·have:=Yj (Kl (by decide) h':2^40<=2^lgK n) b1
    omega
  refine Loop.keep [0,0] Nat (fun i=>[(6,.int .i64 i)]) (fun _=>[]) [] (fun i=>i<=lgK n) (fun i=>lgK n-i) ?_ ?_
  ·refine⟨0,JP _,?_⟩
   (try dsimp only[go_sem,reduceIte,Ya])
   simp only[Yf]
   rfl
  ·rintro i hi
   (try dsimp only[Yh,go_sem,reduceIte,Ya])
   (try simp only[Yd,Ya,Ye,reduceCtorEq,Yc])
   have w1:IntKind.i64.wrap ((i:Int)+1)=((i+1:Nat):Int):=by rw[Yg _ (by omega)];omega
   have w2:IntKind.u64.wrap ((i+1:Nat):Int)=((i+1:Nat):Int):=Z8 _ (by omega)
   have w3:(n:Int).fdiv (2^min (i+1) 64)=((n/2^(i+1):Nat):Int):=Fu (by omega)
   simp only[w1,w2,Yh,w3]
   refine⟨by omega,fun hlt=>?_,fun hge=>?_⟩
   ·have hlt:i<lgK n:=by
     rcases YV i (lgK n)with h'|h'
     ·exact h'
     ·obtain rfl:i=lgK n:=by omega
      rw[Qu b2]at hlt;exact absurd hlt (by decide)
    refine⟨i+1,by omega,by omega,?_⟩
    simp only[Yf]
   ·have hik:i=lgK n:=by
     rcases YV i (lgK n)with h'|h'
     ·have h2:2^(i+1)<=n:=Yj (Kl (by decide) h') b1
      have:=Nat.div_pos h2 (YD (by decide))
      generalize n/2^(i+1)=c at*
      omega
     ·omega
    (try dsimp only[R6,R7,limbsC,shiftC,Ym,Yh,go_sem,reduceIte,Ya])
    (try simp only[Yd,Ya,Ye,reduceCtorEq,Yc])
    have v1:IntKind.u64.wrap (i:Int)=(i:Int):=Z8 _ (by omega)
    have v2:IntKind.i64.wrap (1*2^min i 64)=((2^i:Nat):Int):=by
     have e4:min i 64=i:=by omega
     have e5:(1:Int)*2^i=((2^i:Nat):Int):=by simp
     have e6:2^i<=n:=by rw[hik];exact b1
     rw[e4,e5]
     generalize 2^i=P at e6⊢
     exact Yg _ (by omega)
    have v3:IntKind.i64.wrap (IntKind.i64.wrap (2*(q:Int))+60)=((2*q+60:Nat):Int):=by
     rw[Yg (2*(q:Int)) (by omega),Yg _ (by omega)];omega
    have v4:IntKind.i64.wrap (((2*q+60:Nat):Int)-(i:Int))=((2*q+60-i:Nat):Int):=by
     rw[Yg _ (by omega)];omega
    have v5:IntKind.i64.wrap (((2*q+60:Nat):Int)+1)=((2*q+61:Nat):Int):=by
     rw[Yg _ (by omega)];omega
    have n1:nl i<=1:=nl_le.2 (by omega)
    have n2:nl n<=3:=nl_le.2 (by omega)
    simp only[v1,Yh,v2,v3,v4,v5]
    refine⟨⟨by omega,by omega⟩,by omega,fun he=>⟨i,⟨YJ (by omega),by omega,by omega,by omega⟩,i,⟨YJ (by omega),by omega,by omega,by omega⟩,?_⟩,fun hne=>⟨⟨by omega,by omega⟩,n,⟨YJ (by omega),by omega,by omega,by omega⟩,⟨by decide,by decide⟩,1,⟨YJ (by decide),by decide,by omega,by omega⟩,?_⟩⟩
    ·have hp:n=2^lgK n:=by rw[<-hik];exact_mod_cast he
     have e:lgR n q=(i*2^q,i*2^q):=by unfold lgR;rw[if_pos hp,hik]
     rw[e]at h
     exact Ky (show k _ []from h false false) (Jq _ ⟨trivial,trivial,trivial⟩) (fun _=>by simp [Ym,Y0,Y4])
    ·have hnp:n≠2^lgK n:=fun hh=>hne (by rw[hik];exact_mod_cast hh)
     have hlg:lgR n q=gl (2^(2*q+60)) false q (n*2^(2*q+60-i)) (n*2^(2*q+60-i)) i:=by
      unfold lgR;rw[if_neg hnp,hik]
     obtain⟨m1,m2,_⟩:=Gg (n:=n) (D:=2*q+60) (by omega) (by omega)
     rw[<-hik]at m1 m2
     have hs:(32768:Nat)^((2*q+60)/15)=2^(2*q+60):=by
      rw[show(32768:Nat)=2^15 by decide,<-Yl];congr 1;omega
     refine Loop.keep [0,0,6,2] (Nat×Nat×Nat×Nat×Bool×Bool×Bool) (fun x=>[(7,.vs true x.2.2.2.2.1 (nl x.2.2.2.1) 1 (fun k=>[.int .i64 (dig x.2.2.2.1 k)])),(9,.vs true x.2.2.2.2.2.1 (nl x.2.1) 1 (fun k=>[.int .i64 (dig x.2.1 k)])),(10,.vs true x.2.2.2.2.2.2 (nl x.2.2.1) 1 (fun k=>[.int .i64 (dig x.2.2.1 k)])),(12,.int .i64 x.1)]) (fun _=>[]) [] (fun x=>x.1<=q/\lgR n q=gl (2^(2*q+60)) false (q-x.1) x.2.1 x.2.2.1 x.2.2.2.1/\x.2.1<=2*2^(2*q+60)/\x.2.2.1<=2*2^(2*q+60)/\x.2.2.2.1<2^(x.1+40)) (fun x=>q-x.1) ?_ ?_
     ·refine⟨(0,n*2^(2*q+60-i),n*2^(2*q+60-i),i,decide (nl i=0),false,false),⟨JP _,hlg,JN m2,JN m2,by dsimp only;omega⟩,?_⟩
      (try dsimp only[go_sem,reduceIte,Ya])
      simp only[Yf]
      rfl
     ·rintro⟨j,A,B,S,z1,z2,z3⟩ ⟨hj,hl,hA,hB,hS⟩
      dsimp only at hj hl hA hB hS
      (try dsimp only[R6,R7,Yfg,Yfh,Yfi,Yfj,limbsC,shiftC,squareC,halveC,addC,cmpC,Ym,Yh,go_sem,reduceIte,Ya])
      (try simp only[Yd,Ya,Ye,reduceCtorEq,Yc])
      have h2M:1*2^(2*q+61)=2*2^(2*q+60):=by rw[Kc,show 2*q+61=1+(2*q+60)by omega,Yo 2 1]
      have hq1:q<=3840:=by omega
      have hM:0<2^(2*q+60):=YD (by decide)
      have fz:∀x,x<=16*2^(2*q+60)->nl x<=1000:=fun x hx=>nsz hq1 hx
      have hSz:∀x,x<2^(j+42)->nl x<=1000:=fun x hx=>by
       exact VP hx (by omega)
      have hS2:2^(j+42)=4*2^(j+40):=by rw[show j+42=2+(j+40)by omega,Yo 2 2]
      have hS1:2^(j+1+40)=2*2^(j+40):=by rw[show j+1+40=1+(j+40)by omega,Yo 2 1]
      obtain⟨a4,_⟩:=Ydk hM hA
      obtain⟨_,b4⟩:=Ydk hM hB
      have eA:sqN A ((2*q+60)/15) false=A*A/2^(2*q+60):=by rw[Yq2,hs]
      have eB:sqN B ((2*q+60)/15) true=YT (B*B) (2^(2*q+60)):=by rw[Yq1,hs]
      refine⟨fun hlt=>⟨A,⟨YJ (Yj (fz A (by omega)) (by decide)),Yj (fz A (by omega)) (by decide),by omega,by omega⟩,fun y1=>⟨B,⟨YJ (Yj (fz B (by omega)) (by decide)),Yj (fz B (by omega)) (by decide),by omega,by omega⟩,fun y2=>?_⟩⟩,fun hge=>?_⟩
      ·rw[eA,eB,h2M]
       obtain⟨g,hg⟩:∃g,q-j=g+1:=⟨q-j-1,by omega⟩
       have eq1:q-(j+1)=g:=by omega
       have ej:IntKind.i64.wrap ((j:Int)+1)=((j+1:Nat):Int):=by rw[Yg _ (by omega)];omega
       have eqj:IntKind.i64.wrap ((q:Int)-(j:Int))=((q-j:Nat):Int):=by rw[Yg _ (by omega)];omega
       rw[hg,gl]at hl
       rw[ej,eqj]
       simp only[Yh]
       rw[hg]
       clear eA eB h2M
       generalize A*A/2^(2*q+60)=X at*
       generalize YT (B*B) (2^(2*q+60))=Y at*
       generalize 2^(2*q+60)=M at*
       have fX:=fz X (by omega)
       have fY:=fz Y (by omega)
       have f2:=fz (2*M) (by omega)
       have f1:nl 1<=1:=by decide
       have fS:=hSz S (by omega)
       have fSS:=hSz (S+S) (by omega)
       refine⟨X,2*M,⟨YJ (by omega),YJ (by omega),rfl,rfl⟩,fun hc=>?_,fun hc=>?_⟩
       ·have hc:=ord_ge.1 hc
        rw[if_neg (by omega),if_neg (by simp),Nat.two_mul]at hl
        refine⟨X,⟨YJ (by omega),by omega⟩,Y,⟨YJ (by omega),by omega⟩,S,S,⟨YJ (by omega),YJ (by omega),by omega⟩,⟨by decide,by decide⟩,S+S,1,⟨YJ (by omega),YJ (by decide),by omega,by decide⟩,(j+1,X/2,YT Y 2,S+S+1,false,false,false),⟨by dsimp only;omega,by dsimp only;rw[eq1];exact hl,by dsimp only;omega,Yi1 b4,by dsimp only;omega⟩,by dsimp only;omega,?_⟩
        simp only[if_true,if_false,Kw,YkA]
        simp only[Yf]
       ·have hc:¬2*M<=X:=fun hh=>hc (ord_ge.2 hh)
        rw[if_pos (by omega)]at hl
        refine⟨Y,2*M,⟨YJ (by omega),YJ (by omega),rfl,rfl⟩,fun hd=>?_,fun hd=>?_⟩
        ·have hd:=ord_lt.1 hd
         rw[if_pos hd,Nat.two_mul]at hl
         refine⟨S,S,⟨YJ (by omega),YJ (by omega),by omega⟩,(j+1,X,Y,S+S,false,y1,y2),⟨by dsimp only;omega,by dsimp only;rw[eq1];exact hl,by dsimp only;omega,by dsimp only;omega,by dsimp only;omega⟩,by dsimp only;omega,?_⟩
         simp only[Yf]
        ·rw[if_neg fun hh=>hd (ord_lt.2 hh)]at hl
         have fS1:=hSz (S+1) (by omega)
         refine⟨S,⟨YJ (by omega),by omega,by omega,by omega⟩,⟨by decide,by decide⟩,S,1,⟨YJ (by omega),YJ (by decide),by omega,by decide⟩,S+1,⟨YJ (by omega),by omega,by omega,by omega⟩,?_⟩
         rw[hl]at h
         exact Ky (show k _ []from h false false) (Jq _ ⟨trivial,trivial,trivial⟩) (fun _=>by simp [Ym,Y0,Y4])
      ·have fS:=hSz S (by omega)
       have e0:q-j=0:=by omega
       rw[e0,gl]at hl
       refine⟨⟨by decide,by decide⟩,S,1,⟨YJ (by omega),YJ (by decide),by omega,by decide⟩,?_⟩
       rw[hl]at h
       exact Ky (show k _ []from h z1 false) (Jq _ ⟨trivial,trivial,trivial⟩) (fun _=>by simp [Ym,Y0,Y4])
 ·exact h.1.elim
def itL(out:List Nat)(i k g n:Nat):Nat:=if n=i\/n=k then out.getD n 0/g else out.getD n 0
def Ks(out:List Nat)(i k g:Nat):Nat->List Nat
 |0=>[]
 |n+1=>if 1<itL out i k g n then Ks out i k g n++[itL out i k g n]else Ks out i k g n
theorem Ya7(out:List Nat)(i k g:Nat):∀n,(Ks out i k g n).length<=n
 |0=>Yr _
 |n+1=>by
  have:=Ya7 out i k g n
  rw[Ks]
  split
  ·rw[JI,List.length_singleton];omega
  ·omega
theorem nxt_mem{out:List Nat}{i k g x:Nat}:∀{n:Nat},x∈Ks out i k g n↔∃j,j<n/\x=itL out i k g j/\1<x
 |0=>by simp [Ks]
 |n+1=>by
  have ih:=nxt_mem (out:=out) (i:=i) (k:=k) (g:=g) (x:=x) (n:=n)
  rw[Ks]
  split
  ·rename_i h
   rw[KE,JD,ih]
   constructor
   ·rintro(⟨j,h1,h2⟩ |h1)
    ·exact⟨j,by omega,h2⟩
    ·exact⟨n,by omega,h1,by omega⟩
   ·rintro⟨j,h1,h2,h3⟩
    rcases YV j n with h'|h'
    ·exact Jo ⟨j,h',h2,h3⟩
    ·obtain rfl:j=n:=by omega
     exact KV h2
  ·rename_i h
   rw[ih]
   constructor
   ·rintro⟨j,h1,h2⟩
    exact⟨j,by omega,h2⟩
   ·rintro⟨j,h1,h2,h3⟩
    rcases YV j n with h'|h'
    ·exact⟨j,h',h2,h3⟩
    ·obtain rfl:j=n:=by omega
     omega
theorem Ya8{out:List Nat}{i k g:Nat}(hik:k<i)(hi:i<out.length)(hg:0<g)(h1:g∣out.getD i 0)(h2:g∣out.getD k 0)(hp:∀x,x∈out->1<=x):∀n,n<=out.length->YI (Ks out i k g n)*((if i<n then g else 1)*(if k<n then g else 1))=YI (out.take n)
 |0,_=>by simp [Ks,YI]
 |n+1,hn=>by
  have ih:=Ya8 hik hi hg h1 h2 hp n (by omega)
  have e:out.take (n+1)=out.take n++[out.getD n 0]:=Hk (by omega)
  have hx:1<=out.getD n 0:=hp _ (KK (l:=out) (i:=n) (by omega))
  rw[e,VS,<-ih]
  have e1:YI [out.getD n 0]=out.getD n 0:=by simp [YI]
  have e2:YI (Ks out i k g (n+1))=YI (Ks out i k g n)*itL out i k g n:=by
   rw[Ks]
   split
   ·rw[VS];simp [YI]
   ·rename_i h
    have:itL out i k g n≠0:=by
     unfold itL
     split
     ·rename_i hh
      have hd:g∣out.getD n 0:=by rcases hh with rfl|rfl <;> assumption
      exact Nat.ne_of_gt (Nat.div_pos (Nat.le_of_dvd hx hd) hg)
     ·omega
    rw[show itL out i k g n=1 by omega,Kb]
  rw[e1,e2]
  by_cases c1:n=i
  ·subst c1
   rw[itL,if_pos (Jo rfl),if_pos (Nat.lt_succ_self _),if_neg (XX _),if_pos (by omega),if_pos (by omega)]
   obtain⟨c,hc⟩:=h1
   rw[hc,Nat.mul_div_cancel_left _ hg]
   simp only[Yx,Jd,Yk,Kc]
  ·by_cases c2:n=k
   ·subst c2
    rw[itL,if_pos (KV rfl),if_neg (show¬i<n+1 by omega),if_neg (show¬i<n by omega),if_pos (Nat.lt_succ_self _),if_neg (XX _)]
    obtain⟨c,hc⟩:=h2
    rw[hc,Nat.mul_div_cancel_left _ hg]
    simp only[Yx,Jd,Yk,Kc]
   ·have a1:(i<n+1)=(i<n):=by rw[eq_iff_iff];omega
    have a2:(k<n+1)=(k<n):=by rw[eq_iff_iff];omega
    rw[itL,if_neg (by omega)]
    simp only[a1,a2]
    simp only[Yx,Jd,Yk]
theorem YdH:∀{out:List Nat},(∀x,x∈out->2<=x)->2^out.length<=YI out
 | [],_=>by simp [YI]
 |x::out,h=>by
  have:=YdH (out:=out) fun y hy=>h y (KH _ hy)
  have hx:=h x (KF ..)
  rw[YI,Xr,YF,Yk]
  exact YP hx this
structure BOk (l:List (Int×Int)) (out:List Nat):Prop where
 rng:∀x,x∈out->2<=x/\x<=1000000000001
 spn:∀x,x∈l->Spn out x.1.toNat
 prd:Yw (YI out)<=801
theorem BOk.len{l:List (Int×Int)}{out:List Nat}(h:BOk l out):out.length<=800:=by
 have h1:=YdH fun x hx=>(h.rng x hx).1
 refine ZK fun hh=>?_
 have h2:=US (YI out)
 have h3:2^Yw (YI out)<=2^out.length:=Kl (by decide) (by have:=h.prd;omega)
 omega
theorem BOk.pos{l:List (Int×Int)}{out:List Nat}(h:BOk l out):1<=YI out:=Am fun x hx=>by have:=h.rng x hx;omega
theorem BOk.next{l:List (Int×Int)}{out:List Nat}{i k g:Nat}(h:BOk l out)(hik:k<i)(hi:i<out.length)(hg:g=YG (out.getD i 0) (out.getD k 0))(h1:1<g):
 BOk l (Ks out i k g out.length++[g])/\YI (Ks out i k g out.length++[g])*2<=YI out:=by
 have d1:g∣out.getD i 0:=hg▸Wv _ _
 have d2:g∣out.getD k 0:=hg▸Nat.gcd_dvd_right _ _
 have ri:=h.rng _ (KK (l:=out) (i:=i) hi)
 have rk:=h.rng _ (KK (l:=out) (i:=k) (by omega))
 have ri:2<=out.getD i 0/\out.getD i 0<=1000000000001:=ri
 have rk:2<=out.getD k 0/\out.getD k 0<=1000000000001:=rk
 have hgl:g<=out.getD i 0:=Nat.le_of_dvd (by omega) d1
 have hpr:=Ya8 hik hi (by omega) d1 d2 (fun x hx=>by have:=h.rng x hx;omega) out.length (Yr _)
 rw[QB,if_pos hi,if_pos (by omega)]at hpr
 have hpe:YI (Ks out i k g out.length++[g])*g=YI out:=by
  rw[VS,<-hpr];simp [YI,Yx]
 have hle:YI (Ks out i k g out.length++[g])*2<=YI out:=by
  rw[<-hpe];exact Yz _ h1
 refine⟨⟨fun x hx=>?_,fun x hx=>(h.spn x hx).sub fun y hy=>?_,?_⟩,hle⟩
 ·rw[KE,JD,nxt_mem]at hx
  rcases hx with⟨j,hj,hxe,h2⟩ |rfl
  ·refine⟨h2,?_⟩
   have hr:=h.rng _ (KK (l:=out) (i:=j) hj)
   have hr:2<=out.getD j 0/\out.getD j 0<=1000000000001:=hr
   rw[hxe];unfold itL
   split
   ·exact Yj (QP _ _) hr.2
   ·exact hr.2
  ·omega
 ·obtain⟨j,hj,hje⟩:=YaJ hy
  have hje:out.getD j 0=y:=hje
  have mg:g∈Ks out i k g out.length++[g]:=List.mem_append_right _ (JD.2 rfl)
  have part:Spn (Ks out i k g out.length++[g]) (itL out i k g j):=by
   rcases YV 1 (itL out i k g j)with h'|h'
   ·exact .mem (List.mem_append_left _ (nxt_mem.2 ⟨j,hj,rfl,h'⟩))
   ·have:itL out i k g j≠0:=by
     have hr:=h.rng _ hy
     unfold itL
     split
     ·rename_i hh
      have hd:g∣out.getD j 0:=by rcases hh with rfl|rfl <;> assumption
      exact Nat.ne_of_gt (Nat.div_pos (Nat.le_of_dvd (by omega) hd) (by omega))
     ·omega
    rw[show itL out i k g j=1 by omega];exact .one
  by_cases c:j=i\/j=k
  ·have hd:g∣out.getD j 0:=by rcases c with rfl|rfl <;> assumption
   rw[itL,if_pos c]at part
   rw[<-hje,<-Nat.mul_div_cancel' hd]
   exact .mul mg part
  ·rw[itL,if_neg c]at part
   rw[<-hje];exact part
 ·exact Yj (TO (by omega)) h.prd
def stF(out:List Nat)(x:Int×Int):List Nat:=if 1<x.1 then out++[x.1.toNat]else out
theorem Yq5{l:List (Int×Int)}(hl:∀x,x∈l->okU x)(hn:l.length<=20):BOk l (l.foldl stF []):=by
 have key:∀i,i<=l.length->(∀x,x∈(l.take i).foldl stF []->2<=x/\x<=1000000000001)/\(∀x,x∈l.take i->Spn ((l.take i).foldl stF []) x.1.toNat)/\Yw (YI ((l.take i).foldl stF []))<=40*i+1:=fun i=>by
  induction i with
  |zero=>exact fun _=>⟨fun x hx=>absurd hx (by simp),fun x hx=>absurd hx (by simp),by simp [YI];decide⟩
  |succ i ih=>
   intro hi
   obtain⟨h1,h2,h3⟩:=ih (by omega)
   obtain⟨q0,q1,q2,q3⟩:=hl _ (KK (by omega:i<l.length))
   rw[W5 (by omega),Hk (by omega)]
   generalize(l.take i).foldl stF []=out at*
   generalize l.getD i default=y at*
   unfold stF
   by_cases c:1<y.1
   ·rw[if_pos c]
    refine⟨fun x hx=>?_,fun x hx=>?_,?_⟩
    ·rcases KE.1 hx with hx|hx
     ·exact h1 x hx
     ·rw[JD]at hx;omega
    ·rcases KE.1 hx with hx|hx
     ·exact(h2 x hx).sub fun z hz=> .mem (List.mem_append_left _ hz)
     ·rw[JD]at hx;rw[hx];exact .mem (List.mem_append_right _ (JD.2 rfl))
    ·rw[VS]
     have e:YI [y.1.toNat]=y.1.toNat:=by simp [YI]
     have:=TP (YI out) (YI [y.1.toNat])
     have:Yw (YI [y.1.toNat])<=40:=by rw[e];exact bitsN_le.2 (by omega)
     omega
   ·rw[if_neg c]
    refine⟨h1,fun x hx=>?_,by omega⟩
    rcases KE.1 hx with hx|hx
    ·exact h2 x hx
    ·rw[JD]at hx;rw[hx,show y.1.toNat=1 by omega];exact .one
 obtain⟨k1,k2,k3⟩:=key l.length (Yr _)
 rw[QB]at k1 k2 k3
 exact⟨k1,k2,by omega⟩
theorem Yq4(l:List (Int×Int)):∀i,((l.take i).foldl stF []).length<=i:=fun i=>by
 induction i with
 |zero=>simp
 |succ i ih=>
  rcases YV i l.length with h|h
  ·rw[W5 h]
   unfold stF at ih⊢
   split
   ·rw[JI,List.length_singleton];omega
   ·omega
  ·rw[List.take_of_length_le (by omega)]
   rw[List.take_of_length_le h]at ih
   omega
theorem Yje{out:List Nat}(h:∀a,a<out.length->∀c,c<a->YG (out.getD a 0) (out.getD c 0)=1):Cop out:=by
 refine List.pairwise_iff_getElem.2 fun i j hi hj hij=>?_
 have:=h j hj i hij
 rw[Kp,Kp,Wu hj,Wu hi]at this
 rw[Nat.gcd_comm];exact this
theorem EP{b:Nat}{e:Nat->Nat}:∀{r:List Nat},(∀x,x∈r->YG b x=1)->YG b (PV e r)=1
 | [],_=>by simp [PV]
 |x::r,h=>by
  rw[PV]
  exact Nat.Coprime.mul_right (Nat.Coprime.pow_right _ (h x (KF ..))) (EP fun y hy=>h y (KH _ hy))
theorem FN{e:Nat->Nat}:∀{r:List Nat},(∀x,x∈r->2<=x)->1<=PV e r
 | [],_=>Yr _
 |x::r,h=>by
  have hx:=h x (KF ..)
  rw[PV]
  exact Y3 (YD (by omega)) (FN fun y hy=>h y (KH _ hy))
theorem Ng{b x y P Q:Nat}(hb:2<=b)(hP:YG b P=1)(h:b^x*P=b^y*Q):y<=x:=by
 refine ZK fun hh=>?_
 obtain⟨d,rfl⟩:∃d,y=x+(d+1):=⟨y-x-1,by omega⟩
 rw[Yo,Yx]at h
 have h2:=Nat.eq_of_mul_eq_mul_left (YD (by omega)) h
 have hd:b∣P:=by rw[h2,YF,Yk _ b,Yx];exact Nat.dvd_mul_right _ _
 have:=Nat.gcd_eq_left hd
 omega
theorem FM{e e':Nat->Nat}:∀{r:List Nat},Cop r->(∀x,x∈r->2<=x)->PV e r=PV e' r->∀b,b∈r->e b=e' b
 | [],_,_,_,b,hb=>absurd hb (by simp)
 |c::r,hc,h2,h,b,hb=>by
  obtain⟨g1,g2⟩:=List.pairwise_cons.1 hc
  have hc2:=h2 c (KF ..)
  rw[PV,PV]at h
  have a1:=Ng hc2 (EP (e:=e) g1) h
  have a2:=Ng hc2 (EP (e:=e') g1) h.symm
  have he:e c=e' c:=by omega
  rcases K4.1 hb with rfl|hb
  ·exact he
  ·rw[he]at h
   exact FM g2 (fun x hx=>h2 x (KH _ hx)) (Nat.eq_of_mul_eq_mul_left (YD (by omega)) h) b hb
theorem YnE{l:List (Int×Int)}{r:List Nat}(hl:∀x,x∈l->okU x)(hn:l.length<=20)(hr:BOk l r)(hc:Cop r):(r.all fun b=>decide (XT l b=0))=decide (upP l=dnP l):=by
 obtain⟨e1,e2⟩:=NX hc (fun x hx=>(hr.rng x hx).1) l fun x hx=>⟨hl x hx,hr.spn x hx⟩
 have hs:∀b,b∈r->(XT l b=0↔upS (vl 64 b) l=dnS (vl 64 b) l):=fun b hb=>by
  have hb2:=hr.rng b hb
  unfold XT
  rw[Rg hb2.1 (by omega) l 0 hl (by omega) (by omega) (by omega)]
  omega
 rw[Bool.eq_iff_iff,Vn,decide_eq_true_eq]
 constructor
 ·intro h
  rw[e1,e2]
  exact Vs fun b hb=>(hs b hb).1 (of_decide_eq_true (h b hb))
 ·intro h b hb
  rw[e1,e2]at h
  exact decide_eq_true ((hs b hb).2 (FM hc (fun x hx=>(hr.rng x hx).1) h b hb))
def YdO:VF:={ ntmps:=12,res:=[.tmp 4],body:=
 (ZR [Zi 4 0]
 (.seq (.block 0 (.loop (.seq (ZR [Zm 5 1,
 Zq 6 .neq 5 0]
 (ZC 6 .skip
  (.exit 0)))
 (.block 1 (.draw [] [Zu 7 1,
 Zu 8 0,
 Zu 9 1,
 w1 10 .rem [.tm 8,.tm 9],
 Zu 0 7,
 Zu 1 10])))))
 (ZR [Zm 11 0,
 Zm 4 11]
 .ret)))}
theorem YrC:Yn Yb Tryz.f102=some YdO:=by kernel_rfl
def Yet:VF:={ ntmps:=85,res:=[.tmp 2],body:=
 (ZR [u1 2 .mov [.cn .nil]]
 (ZR [u1 3 .mov [.cn .nil]]
 (.seq (ZR [Zi 4 0]
 (.block 0 (.loop (.seq (ZR [Zm 11 4,
 Zm 12 0,
 Zl 13 12,
 Zr 14 .lss 11 13]
 (ZC 14 .skip
  (.exit 0)))
 (.seq (.block 1 (ZR [Zm 17 0,
 Zm 18 4,
 Zx 19 2 17 18,
 Za 20 0 19,
 Zf 21 1 20,
 Zq 22 .gtr 21 1]
 (ZC 22 (.region [Zm 23 3,
 Zm 24 0,
 Zm 25 4,
 Zx 26 2 24 25,
 Za 27 0 26,
 Zf 28 1 27,
 u1 29 (.buildSlice 1 1 [(.int .i64 0)] [(0,1)]) [.tm 28],
 u1 30 (.append 1 8 [(.int .i64 0)]) [.tm 23,.tm 29],
 Zm 3 30])
  .skip)))
 (.region [Zm 15 4,
 Zp 16 15 1,
 Zm 4 16]))))))
 (.seq (ZR [Zi 5 0]
 (.block 2 (.loop (.seq (ZR [Zm 31 5,
 Zm 32 3,
 Zl 33 32,
 Zr 34 .lss 31 33]
 (ZC 34 .skip
  (.exit 2)))
 (.seq (.block 3 (ZR [Zi 6 0]
 (.block 4 (.loop (.seq (ZR [Zm 37 6,
 Zm 38 5,
 Zr 39 .lss 37 38]
 (ZC 39 .skip
  (.exit 4)))
 (.seq (.block 5 (.seq (.draw [] [Zu 42 3,
 Zu 43 5,
 ZX 44 1 42 43,
 Zv 45 1 44,
 Zu 46 3,
 Zu 47 6,
 ZX 48 1 46 47,
 Zv 49 1 48,
 Zz 50 102 45 49,
 Zu 7 50])
 (.seq (ZR [Zm 51 7,
 Zq 52 .eql 51 1]
 (ZC 52 (.exit 5)
  .skip))
 (ZR [u1 8 .mov [.cn .nil]]
 (.seq (ZR [Zi 9 0]
 (.block 6 (.loop (.seq (ZR [Zm 53 9,
 Zm 54 3,
 Zl 55 54,
 Zr 56 .lss 53 55]
 (ZC 56 .skip
  (.exit 6)))
 (.seq (.block 7 (ZR [Zm 59 3,
 Zm 60 9,
 Zx 61 1 59 60,
 Zf 62 1 61,
 Zm 10 62]
 (.seq (ZR [Zm 63 9,
 Zm 64 5,
 Zr 65 .eql 63 64,
 Zm 66 65,
 Zg 67 66 false 9,
 Zg 68 66 false 6,
 u2 69 66 false (.cmp .eql) [.tm 67,.tm 68],
 u1 70 .or [.tm 66,.tm 69]]
 (ZC 70 (.region [Zm 71 10,
 Zm 72 7,
 u1 73 .quo [.tm 71,.tm 72],
 Zm 10 73])
  .skip))
 (ZR [Zm 74 10,
 Zq 75 .gtr 74 1]
 (ZC 75 (.region [Zm 76 8,
 Zm 77 10,
 u1 78 (.buildSlice 1 1 [(.int .i64 0)] [(0,1)]) [.tm 77],
 u1 79 (.append 1 8 [(.int .i64 0)]) [.tm 76,.tm 78],
 Zm 8 79])
  .skip)))))
 (.region [Zm 57 9,
 Zp 58 57 1,
 Zm 9 58]))))))
 (ZR [Zm 80 8,
 Zm 81 7,
 u1 82 (.buildSlice 1 1 [(.int .i64 0)] [(0,1)]) [.tm 81],
 u1 83 (.append 1 8 [(.int .i64 0)]) [.tm 80,.tm 82],
 Zm 3 83]
 (ZR [Zi 5 (-1),
 Zi 6 0]
 (.exit 4))))))))
 (.region [Zm 40 6,
 Zp 41 40 1,
 Zm 6 41])))))))
 (.region [Zm 35 5,
 Zp 36 35 1,
 Zm 5 36]))))))
 (ZR [Zm 84 3,
 Zm 2 84]
 .ret)))))}
theorem Ysq:Yn Yb Tryz.f153=some Yet:=by kernel_rfl
def Q4:Env:={ ct:=fun _=>none,fn:=fun _=>none,meth:=fun _ _=>none}
theorem Yfl:YE Yb Q4:=by
 refine⟨fun f c h=>?_,fun f vf h=>?_,(fun _ _ _ h=>by cases h),by kernel_rfl,(fun _ h=>by cases h)⟩
 ·cases h
 ·cases h
theorem gcd_c:gcdC.ok Yb 102:=by
 refine Yv Tryz.func102 YrC Yfl 100 gcdC fun args k h=>?_
 simp only[gcdC]at h
 split at h
 ·rename_i a b
  obtain⟨x,y,⟨rfl,rfl,hx,hy⟩,h⟩:=h
  refine⟨[.int .i64 x,.int .i64 y],by simp [leL,le],?_⟩
  (try dsimp only[YdO,go_sem,reduceIte,Ya])
  (try simp only[Yd,Ya,Ye,reduceCtorEq,Yc])
  refine Loop.keep [] (Nat×Nat) (fun s=>[(0,.int .i64 s.1),(1,.int .i64 s.2)]) (fun _=>[]) [] (fun s=>YG s.1 s.2=YG x y/\s.1<=9223372036854775807/\s.2<=9223372036854775807) (fun s=>s.2) ?_ ?_
  ·refine⟨(x,y),⟨rfl,hx,hy⟩,?_⟩
   (try dsimp only[go_sem,reduceIte,Ya])
   simp only[Yf]
  ·rintro⟨p,q⟩ ⟨he,hp,hq⟩
   dsimp only at he hp hq
   (try dsimp only[go_sem,reduceIte,Ya])
   (try simp only[Yd,Ya,Ye,reduceCtorEq,Yc])
   refine⟨fun hc=>⟨hc,(q,p%q),⟨?_,by simp only;omega,?_⟩,?_,?_⟩,fun hc=>YX ?_⟩
   ·rw[<-he,Nat.gcd_comm p q]
    show YG q (p%q)=YG q p
    rw[Nat.gcd_comm q (p%q),<-Nat.gcd_rec]
   ·have:=Kj p (by omega:0<q)
    simp only;omega
   ·exact Kj p (by omega:0<q)
   ·have e:(p:Int).tmod q=((p%q:Nat):Int):=Vm rfl rfl
    rw[e]
    simp only[Yf]
   ·obtain rfl:q=0:=by omega
    rw[Nat.gcd_zero_right]at he
    rw[he];exact h
 ·exact h.1.elim
def baseC:Ctr:={ alias:=false,of:=fun l=>match l with
 | [.vs _ _ n sz get]=> .ex (List (Int×Int)) fun l=> .pre (lsP 2 YA n sz get l/\(∀x,x∈l->okU x)/\n<=20) (.all (List Nat) fun r=> .imp (BOk l r/\Cop r) (.all Bool fun y=> .fin (.vs true y r.length 1 (fun k=>JJ (r.getD k 0))) []))
 |_=>noC}
def Q5:Env:={ ct:=fun n=>match n with|102=>some gcdC|_=>none,fn:=fun _=>none,meth:=fun _ _=>none}
theorem Yfm:Q5.ct 102=some gcdC:=rfl
theorem Yfn:YE Yb Q5:=by
 refine⟨fun f c h=>?_,fun f vf h=>?_,(fun _ _ _ h=>by cases h),by kernel_rfl,(fun _ h=>by cases h)⟩
 ·simp only[Q5]at h
  split at h
  ·cases h;exact⟨gcd_c,_,Tryz.func102,rfl,rfl⟩
  ·cases h
 ·cases h
theorem YoD:baseC.ok Yb 153:=by
 refine Yv Tryz.func153 Ysq Yfn 800 baseC fun args k h=>?_
 simp only[baseC]at h
 split at h
 ·rename_i tt z n sz get
  obtain⟨l,⟨⟨rfl,rfl,hg⟩,hl,hn⟩,h⟩:=h
  refine⟨[.vs tt z l.length 2 (fun k=>YA (l.getD k default))],⟨⟨id,rfl,rfl,rfl,hg⟩,trivial⟩,?_⟩
  (try dsimp only[Yet,YA,go_sem,reduceIte,Ya])
  (try simp only[Yd,Ya,Ye,reduceCtorEq,Yc])
  refine Loop.keep [0] (Nat×Bool) (fun s=>[(3,.own 0 0 ((l.take s.1).foldl stF []).length 1),(4,.int .i64 s.1)]) (fun s=>[(0,.own s.2 1 ((l.take s.1).foldl stF []).length (fun k=>JJ (((l.take s.1).foldl stF []).getD k 0)))]) [.gone] (fun s=>s.1<=l.length/\(s.2=true->((l.take s.1).foldl stF []).length=0)) (fun s=>l.length-s.1) ?_ ?_
  ·refine⟨(0,true),⟨by simp only;omega,fun _=>rfl⟩,?_⟩
   (try dsimp only[List.take_zero,List.foldl_nil,ZI,go_sem,reduceIte,Ya])
   simp only[Yf]
   simp
  ·rintro⟨i,yo⟩ ⟨hi,hyo⟩
   dsimp only at hi hyo
   (try dsimp only[YA,JJ,Yh,go_sem,reduceIte,Ya])
   (try simp only[Yd,Ya,Ye,reduceCtorEq,Yc])
   have hsl:=Yq4 l i
   refine⟨fun hlt=>?_,fun hge=>?_⟩
   ·obtain⟨q0,q1,q2,q3⟩:=hl _ (KK (by omega:i<l.length))
    have hstep:(l.take (i+1)).foldl stF []=stF ((l.take i).foldl stF []) (l.getD i default):=W5 (by omega)
    have ei:IntKind.i64.wrap ((i:Int)+1)=((i+1:Nat):Int):=by rw[Yg _ (by omega)];omega
    rw[ei]
    generalize(l.take i).foldl stF []=out at*
    generalize l.getD i default=x at*
    have hst1:stF out x=if 1<x.1 then out++[x.1.toNat]else out:=rfl
    rw[hst1]at hstep
    refine⟨⟨by omega,by omega⟩,fun hc=>?_,fun hc=>?_⟩
    ·rw[if_pos hc]at hstep
     refine⟨⟨by omega,by omega⟩,by decide,⟨by unfold Ka;omega,fun j hj=>?_⟩,(i+1,yo&&decide False),⟨by simp only;omega,by simp⟩,by simp only;omega,?_⟩
     ·match j,hj with
      |0,_=>exact⟨rfl,trivial,trivial⟩
     ·have hol:(out++[x.1.toNat]).length=out.length+1:=by rw[JI];rfl
      simp only[hstep,hol]
      simp only[Yf]
      refine⟨by decide,fun k hk=>?_⟩
      by_cases hkt:k<out.length
      ·rw[if_pos hkt,Kp (l:=_++_),XE hkt,<-Kp]
       exact⟨⟨rfl,rfl⟩,trivial⟩
      ·obtain rfl:k=out.length:=by omega
       rw[if_neg hkt,Kp (l:=_++_),WU (Yr _),Nat.sub_self]
       exact⟨⟨rfl,by simp;omega⟩,trivial⟩
    ·rw[if_neg hc]at hstep
     refine⟨(i+1,yo),⟨by simp only;omega,by simp only[hstep];exact hyo⟩,by simp only;omega,?_⟩
     simp only[hstep]
     simp only[Yf]
     decide
   ·obtain rfl:i=l.length:=by omega
    have hst:=Yq5 hl hn
    rw[QB]at*
    generalize l.foldl stF []=out0 at*
    refine Loop.keepF [0] (Nat×List Nat×Bool) (fun s=>[(3,.vs true s.2.2 s.2.1.length 1 (fun k=>JJ (s.2.1.getD k 0))),(5,.int .i64 s.1)]) (fun _=>[(0,.gone)]) [] (fun s=>BOk l s.2.1/\s.1<=s.2.1.length/\(∀a,a<s.1->∀c,c<a->YG (s.2.1.getD a 0) (s.2.1.getD c 0)=1)) (fun s=>YI s.2.1*2000+(s.2.1.length-s.1)) ?_ ?_
    ·refine⟨(0,out0,yo),⟨hst,JP _,fun a ha=>absurd ha (QC _)⟩,[0],?_,?_⟩
     ·(try dsimp only[go_sem,reduceIte,Ya])
      exact⟨fun p hp=>rfl,trivial⟩
     ·(try dsimp only[JJ,go_sem,reduceIte,Ya])
      simp only[Yf]
      rfl
    ·rintro⟨i,out,yo⟩ ⟨hok,hi,hcp⟩
     dsimp only at hok hi hcp
     (try dsimp only[JJ,Yh,go_sem,reduceIte,Ya])
     (try simp only[Yd,Ya,Ye,reduceCtorEq,Yc])
     have hlen:=hok.len
     refine⟨fun hlt=>?_,fun hge2=>?_⟩
     ·refine Loop.keep [0,2,1] Nat (fun j=>[(6,.int .i64 j)]) (fun _=>[]) [] (fun j=>j<=i/\∀c,c<j->YG (out.getD i 0) (out.getD c 0)=1) (fun j=>i-j) ?_ ?_
      ·refine⟨0,⟨JP _,fun c hc=>absurd hc (QC _)⟩,?_⟩
       (try dsimp only[go_sem,reduceIte,Ya])
       simp only[Yf]
       rfl
      ·rintro j ⟨hj,hgj⟩
       (try dsimp only[Yfm,gcdC,JJ,Yh,go_sem,reduceIte,Ya])
       (try simp only[Yd,Ya,Ye,reduceCtorEq,Yc])
       refine⟨fun hlt2=>?_,fun hge3=>?_⟩
       ·have ri:2<=out.getD i 0/\out.getD i 0<=1000000000001:=hok.rng _ (KK (l:=out) (i:=i) (by omega))
        have rj:2<=out.getD j 0/\out.getD j 0<=1000000000001:=hok.rng _ (KK (l:=out) (i:=j) (by omega))
        refine⟨⟨by omega,by omega⟩,⟨by omega,by omega⟩,out.getD i 0,out.getD j 0,⟨rfl,rfl,by omega,by omega⟩,fun hg1=>⟨j+1,⟨by omega,fun c hc=>?_⟩,by omega,?_⟩,fun hg1=>?_⟩
        ·rcases YV c j with h'|h'
         ·exact hgj c h'
         ·obtain rfl:c=j:=by omega
          omega
        ·rw[Yg ((j:Int)+1) (by omega)]
         simp only[Yf]
         simp
        ·obtain⟨g,hg⟩:∃g,g=YG (out.getD i 0) (out.getD j 0):=⟨_,rfl⟩
         rw[<-hg]at hg1⊢
         have hg0:0<g:=hg▸Nat.gcd_pos_of_pos_left _ (by omega)
         have hgi:g<=out.getD i 0:=hg▸Nat.le_of_dvd (by omega) (Wv _ _)
         have hg1':1<g:=by omega
         obtain⟨n1,n2⟩:=hok.next (i:=i) (k:=j) (by omega) (by omega) hg hg1'
         refine Loop.keep [0,2,1,0,0] (Nat×Bool) (fun s=>[(8,.own 1 0 (Ks out i j g s.1).length 1),(9,.int .i64 s.1)]) (fun s=>[(1,.own s.2 1 (Ks out i j g s.1).length (fun k=>JJ ((Ks out i j g s.1).getD k 0)))]) [.gone] (fun s=>s.1<=out.length/\(s.2=true->(Ks out i j g s.1).length=0)) (fun s=>out.length-s.1) ?_ ?_
         ·refine⟨(0,true),⟨JP _,fun _=>rfl⟩,?_⟩
          (try dsimp only[Ks,ZI,go_sem,reduceIte,Ya])
          simp only[Yf]
          simp
         ·rintro⟨n,yn⟩ ⟨hn',hyn⟩
          dsimp only at hn' hyn
          (try dsimp only[JJ,Yh,go_sem,reduceIte,Ya])
          (try simp only[Yd,Ya,Ye,reduceCtorEq,Yc])
          have hnl:=Ya7 out i j g n
          refine⟨fun hlt3=>?_,fun hge4=>?_⟩
          ·have rn:2<=out.getD n 0/\out.getD n 0<=1000000000001:=hok.rng _ (KK (l:=out) (i:=n) (by omega))
           have en:IntKind.i64.wrap ((n:Int)+1)=((n+1:Nat):Int):=by rw[Yg _ (by omega)];omega
           have hb:(decide ((n:Int)=(i:Int)) || decide ((n:Int)=(j:Int)))=decide (n=i\/n=j):=by
            rw[Bool.eq_iff_iff,Qt,decide_eq_true_eq,decide_eq_true_eq,decide_eq_true_eq];omega
           have hq:IntKind.i64.wrap (((out.getD n 0:Nat):Int).tdiv (g:Int))=((out.getD n 0/g:Nat):Int):=by
            have e1:((out.getD n 0:Nat):Int).tdiv (g:Int)=((out.getD n 0/g:Nat):Int):=Wt rfl rfl
            have h2:out.getD n 0/g<=out.getD n 0:=QP _ _
            rw[e1]
            generalize out.getD n 0/g=q at h2⊢
            exact Yg _ (by omega)
           rw[en,hb,hq,decide_eq_true_eq,decide_eq_false_iff_not]
           have hnx:Ks out i j g (n+1)=if 1<itL out i j g n then Ks out i j g n++[itL out i j g n]else Ks out i j g n:=rfl
           refine⟨⟨by omega,by omega⟩,fun hc=>⟨by omega,?_⟩,fun hc=>?_⟩
           ·rw[show itL out i j g n=out.getD n 0/g from if_pos hc]at hnx
            generalize out.getD n 0/g=v at hnx⊢
            refine⟨fun hv=>⟨by decide,⟨by unfold Ka;omega,fun p hp=>?_⟩,(n+1,yn&&decide False),⟨by simp only;omega,by simp⟩,by simp only;omega,?_⟩,fun hv=>⟨(n+1,yn),⟨by simp only;omega,?_⟩,by simp only;omega,?_⟩⟩
            ·match p,hp with
             |0,_=>exact⟨rfl,trivial,trivial⟩
            ·rw[if_pos (by omega)]at hnx
             have hol:(Ks out i j g n++[v]).length=(Ks out i j g n).length+1:=by rw[JI];rfl
             simp only[hnx,hol]
             simp only[Yf]
             refine⟨by decide,fun p hp=>?_⟩
             by_cases hpt:p<(Ks out i j g n).length
             ·rw[if_pos hpt,Kp (l:=_++_),XE hpt,<-Kp]
              exact⟨⟨rfl,rfl⟩,trivial⟩
             ·rw[if_neg hpt,show p-(Ks out i j g n).length=0 by omega,Kp (l:=_++_),WU (by omega),show p-(Ks out i j g n).length=0 by omega]
              exact⟨⟨rfl,rfl⟩,trivial⟩
            ·rw[if_neg (by omega)]at hnx
             simp only[hnx];exact hyn
            ·rw[if_neg (by omega)]at hnx
             simp only[hnx]
             simp only[Yf]
             decide
           ·rw[show itL out i j g n=out.getD n 0 from if_neg hc]at hnx
            generalize out.getD n 0=v at hnx⊢
            refine⟨fun hv=>⟨by decide,⟨by unfold Ka;omega,fun p hp=>?_⟩,(n+1,yn&&decide False),⟨by simp only;omega,by simp⟩,by simp only;omega,?_⟩,fun hv=>⟨(n+1,yn),⟨by simp only;omega,?_⟩,by simp only;omega,?_⟩⟩
            ·match p,hp with
             |0,_=>exact⟨rfl,trivial,trivial⟩
            ·rw[if_pos (by omega)]at hnx
             have hol:(Ks out i j g n++[v]).length=(Ks out i j g n).length+1:=by rw[JI];rfl
             simp only[hnx,hol]
             simp only[Yf]
             refine⟨by decide,fun p hp=>?_⟩
             by_cases hpt:p<(Ks out i j g n).length
             ·rw[if_pos hpt,Kp (l:=_++_),XE hpt,<-Kp]
              exact⟨⟨rfl,rfl⟩,trivial⟩
             ·rw[if_neg hpt,show p-(Ks out i j g n).length=0 by omega,Kp (l:=_++_),WU (by omega),show p-(Ks out i j g n).length=0 by omega]
              exact⟨⟨rfl,rfl⟩,trivial⟩
            ·rw[if_neg (by omega)]at hnx
             simp only[hnx];exact hyn
            ·rw[if_neg (by omega)]at hnx
             simp only[hnx]
             simp only[Yf]
             decide
          ·obtain rfl:n=out.length:=by omega
           have hol:(Ks out i j g out.length++[g]).length=(Ks out i j g out.length).length+1:=by rw[JI];rfl
           have hp:=n1.pos
           have hl2:=n1.len
           refine⟨by decide,⟨by unfold Ka;omega,fun p hp=>?_⟩,(0,Ks out i j g out.length++[g],yn&&decide False),⟨n1,JP _,fun a ha=>absurd ha (QC _)⟩,by simp only;omega,[1],?_,?_⟩
           ·match p,hp with
            |0,_=>exact⟨rfl,trivial,trivial⟩
           ·(try dsimp only[go_sem,reduceIte,Ya])
            refine⟨fun p hp=>?_,trivial⟩
            by_cases hpt:p<(Ks out i j g out.length).length
            ·rw[if_pos hpt];rfl
            ·rw[if_neg hpt,show p-(Ks out i j g out.length).length=0 by omega];rfl
           ·(try dsimp only[go_sem,reduceIte,Ya])
            simp only[hol]
            simp only[Yf]
            refine⟨fun p hp=>?_,by decide⟩
            by_cases hpt:p<(Ks out i j g out.length).length
            ·rw[if_pos hpt,Kp (l:=_++_),XE hpt,<-Kp]
             exact Y1 _
            ·rw[if_neg hpt,show p-(Ks out i j g out.length).length=0 by omega,Kp (l:=_++_),WU (by omega),show p-(Ks out i j g out.length).length=0 by omega]
             exact Y1 _
       ·obtain rfl:j=i:=by omega
        refine⟨(j+1,out,yo),⟨hok,by simp only;omega,fun a ha c hc=>?_⟩,by simp only;omega,[],trivial,?_⟩
        ·rcases YV a j with h'|h'
         ·exact hcp a h' c hc
         ·obtain rfl:a=j:=by simp only at ha;omega
          exact hgj c hc
        ·(try dsimp only[go_sem,reduceIte,Ya])
         rw[Yg ((j:Int)+1) (by omega)]
         simp only[Yf]
         simp
     ·obtain rfl:i=out.length:=by omega
      exact Ky (show k (.vs true yo out.length 1 (fun k=>JJ (out.getD k 0))) []from h out ⟨hok,Yje hcp⟩ yo) (Jq _ trivial) (fun _=>by simp [Y0,JJ,Y4])
 ·exact h.1.elim
end Go.Proofs.YtlhmikjnholpnaaGreatDoor.Q
namespace Go.Proofs.YtlhmikjnholpnaaGreatDoor
open Go Go.Vx
set_option maxRecDepth 100000
set_option maxHeartbeats 4000000
def YdP:VF:={ ntmps:=45,res:=[.tmp 2],body:=
 (ZR [u1 1 .box [.tm 0],
 Zi 2 0]
 (.seq (ZR [Za 5 6 1,
 Zf 6 1 5,
 Zq 7 .lss 6 1,
 Zm 8 7,
 Zj 9 8 false 6 1,
 Zh 10 8 false 1 9,
 u2 11 8 false (.cmp .gtr) [.tm 10,.cn (.int .i64 1000)],
 u1 12 .or [.tm 8,.tm 11]]
 (ZC 12 (ZR [Zi 2 2]
 .ret)
  .skip))
 (ZR [Za 13 6 1,
 Zf 14 1 13,
 Zm 3 14]
 (.seq (ZR [Zi 4 0]
 (.block 0 (.loop (.seq (ZR [Zm 15 4,
 Zq 16 .lss 15 6]
 (ZC 16 .skip
  (.exit 0)))
 (.seq (.block 1 (.seq (ZR [Zm 19 4,
 Za 20 0 1,
 u1 21 (.idxArr 6 1) [.tm 20,.tm 19],
 Zf 22 1 21,
 Zq 23 .lss 22 (-100000),
 Zm 24 23,
 Zg 25 24 false 4,
 Zj 26 24 false 0 1,
 u2 27 24 false (.idxArr 6 1) [.tm 26,.tm 25],
 Zh 28 24 false 1 27,
 u2 29 24 false (.cmp .gtr) [.tm 28,.cn (.int .i64 100000)],
 u1 30 .or [.tm 24,.tm 29]]
 (ZC 30 (ZR [Zi 2 2]
 .ret)
  .skip))
 (.draw [] [Zu 31 3,
 Zu 32 4,
 Zy 33 0 1,
 w1 34 (.idxArr 6 1) [.tm 33,.tm 32],
 Zv 35 1 34,
 Zu 36 4,
 Zy 37 0 1,
 w1 38 (.idxArr 6 1) [.tm 37,.tm 36],
 Zv 39 1 38,
 w1 40 .neg [.tm 39],
 w1 41 .max [.tm 35,.tm 40],
 Zz 42 102 31 41,
 Zu 3 42])))
 (.region [Zm 17 4,
 Zp 18 17 1,
 Zm 4 18]))))))
 (.seq (ZR [Zm 43 3,
 Zq 44 .neq 43 1]
 (ZC 44 (ZR [Zi 2 6]
 .ret)
  .skip))
 (ZR [Zi 2 0]
 .ret))))))}
theorem YrE:Yn Yb Tryz.f104=some YdP:=by kernel_rfl
def YdQ:VF:={ ntmps:=56,res:=[.cell 4 true 7,.tmp 5],body:=
 (ZR [u1 2 .box [.tm 0],
 u1 4 (.alloc [(.int .i64 0),(.int .i64 0),(.int .i64 0),(.int .i64 0),(.int .i64 0),(.int .i64 0),(.int .i64 0)]) [],
 Zi 5 0]
 (ZR [Zm 11 1,
 Zm 6 11]
 (.seq (ZR [Zi 7 0]
 (.block 0 (.loop (.seq (ZR [Zm 12 7,
 Zq 13 .lss 12 6]
 (ZC 13 .skip
  (.exit 0)))
 (.seq (.block 1 (.draw [] [Zu 16 6,
 Zu 17 7,
 w1 18 (.idxArr 6 1) [.tm 2,.tm 17],
 Zv 19 1 18,
 Zu 20 7,
 w1 21 (.idxArr 6 1) [.tm 2,.tm 20],
 Zv 22 1 21,
 w1 23 .neg [.tm 22],
 w1 24 .max [.tm 19,.tm 23],
 Zz 25 102 16 24,
 Zu 6 25]))
 (.region [Zm 14 7,
 Zp 15 14 1,
 Zm 7 15]))))))
 (ZR [u1 8 (.alloc [(.int .i64 0),(.int .i64 0),(.int .i64 0),(.int .i64 0),(.int .i64 0),(.int .i64 0),(.int .i64 0)]) []]
 (.seq (ZR [Zm 26 1,
 Zm 27 6,
 u1 28 .quo [.tm 26,.tm 27],
 Zq 29 .gtr 28 1000]
 (ZC 29 (ZR [Zt 30 7 8,
 Zs 7 4 30,
 Zi 5 7]
 .ret)
  .skip))
 (.seq (ZR [Zi 9 0]
 (.block 2 (.loop (.seq (ZR [Zm 31 9,
 Zq 32 .lss 31 6]
 (ZC 32 .skip
  (.exit 2)))
 (.seq (.block 3 (ZR [Zm 35 9,
 u1 36 (.idxArr 6 1) [.tm 2,.tm 35],
 Zf 37 1 36,
 Zm 38 6,
 u1 39 .quo [.tm 37,.tm 38],
 Zm 10 39]
 (.seq (ZR [Zm 40 10,
 Zq 41 .lss 40 (-100000),
 Zm 42 41,
 Zg 43 42 false 10,
 u2 44 42 false (.cmp .gtr) [.tm 43,.cn (.int .i64 100000)],
 u1 45 .or [.tm 42,.tm 44]]
 (ZC 45 (ZR [u1 46 (.build [(.int .i64 0),(.int .i64 0),(.int .i64 0),(.int .i64 0),(.int .i64 0),(.int .i64 0),(.int .i64 0)] []) [],
 Zs 7 4 46,
 Zi 5 7]
 .ret)
  .skip))
 (.region [Zm 47 9,
 Zm 48 10,
 Za 49 0 8,
 u1 50 (.idxArr 6 1) [.tm 49,.tm 47],
 Zs 1 50 48]))))
 (.region [Zm 33 9,
 Zp 34 33 1,
 Zm 9 34]))))))
 (ZR [Zm 51 1,
 Zm 52 6,
 u1 53 .quo [.tm 51,.tm 52],
 Za 54 6 8,
 Zs 1 54 53]
 (ZR [Zt 55 7 8,
 Zs 7 4 55,
 Zi 5 0]
 .ret))))))))}
theorem YrF:Yn Yb Tryz.f105=some YdQ:=by kernel_rfl
def UR1:Env:={ ct:=fun n=>match n with|102=>some gcdC|_=>none,fn:=fun _=>none,meth:=fun _ _=>none}
theorem Dg:UR1.ct 102=some gcdC:=rfl
theorem SW:YE Yb UR1:=by
 refine⟨fun f c h=>?_,fun f vf h=>?_,(fun _ _ _ h=>by cases h),by kernel_rfl,(fun _ h=>by cases h)⟩
 ·simp only[UR1]at h
  split at h
  ·cases h;exact⟨Q.gcd_c,_,Tryz.func102,rfl,rfl⟩
  ·cases h
 ·cases h
theorem YcJ:chkRC.ok Yb 104:=by
 refine Yv Tryz.func104 YrE SW 300 chkRC fun args k h=>?_
 simp only[chkRC]at h
 split at h
 ·rename_i a b c d e f n
  refine⟨[.agg [.int .i64 a,.int .i64 b,.int .i64 c,.int .i64 d,.int .i64 e,.int .i64 f,.int .i64 n]],by simp [leL,le],?_⟩
  obtain⟨r,hr⟩:∃r:Rt,r=⟨a,b,c,d,e,f,n⟩:=⟨_,rfl⟩
  rw[<-hr]at h
  have h:k (.int .i64 (YY r)) []:=h
  rw[show a=r.a by rw[hr],show b=r.b by rw[hr],show c=r.c by rw[hr],show d=r.d by rw[hr],show e=r.e by rw[hr],show f=r.f by rw[hr],show n=r.n by rw[hr]]
  clear hr
  rw[EK]at h
  dsimp only[YdP,go_sem,reduceIte,Ya]
  simp only[Yd,Ya,Ye,reduceCtorEq,Yc]
  refine⟨fun hc=>?_,fun hc=>?_⟩
  ·rw[if_pos (by simpa using hc)]at h;exact YX h
  have hn:1<=r.n/\r.n<=1000:=by simp only[JH,decide_eq_false_iff_not]at hc;omega
  rw[if_neg (by omega)]at h
  refine Loop.keep [1] Nat (fun i=>[(3,.int .i64 (gP r i:Nat)),(4,.int .i64 i)]) (fun _=>[]) [] (fun i=>i<=6/\∀j,j<i->KW (r.num j)=false) (fun i=>6-i) ?_ ?_
  ·refine⟨0,⟨by omega,fun j hj=>by omega⟩,?_⟩
   dsimp only[go_sem,reduceIte,Ya]
   simp only[Yf]
   repeat' apply Yy
   all_goals first|exact trivial|decide|rfl|omega|exact(K3 (by omega)).symm|exact YU _ (QR _ _ _ _) |simp
  ·rintro i ⟨hi,hall⟩
   dsimp only[Dg,gcdC,Yh,go_sem,reduceIte,Ya]
   simp only[Yd,Ya,Ye,reduceCtorEq,Yc]
   refine⟨fun hlt=>?_,fun hge=>?_⟩
   ·have hi6:i<6:=by omega
    have d1:=Ug r hi6
    simp only[Uh r hi6,Dg,gcdC,Yh,go_sem,reduceIte,Ya]
    simp only[Yd,Ya,Ye,reduceCtorEq,Yc]
    refine⟨⟨by omega,by omega⟩,d1,fun _=>⟨by omega,by omega⟩,fun _=>d1,fun hb=>?_,fun hb=>⟨⟨by omega,by omega⟩,d1,⟨by omega,by omega⟩,d1,gP r i,(r.num i).natAbs,⟨rfl,?_,?_,?_⟩,i+1,⟨by omega,fun j hj=>?_⟩,by omega,?_⟩⟩
    ·rw[if_pos (Et hi6 (show KW (r.num i)=true from hb))]at h;exact YX h
    ·have:=QQ (show KW (r.num i)=false from hb);exact M1 _ (by omega)
    ·rcases MA r i with h1|h1 <;> omega
    ·have:=QQ (show KW (r.num i)=false from hb);omega
    ·rcases YV j i with h1|h1
     ·exact hall j h1
     ·obtain rfl:j=i:=by omega
      exact hb
    ·rw[Yg ((i:Int)+1) (by omega)]
     simp only[Yf]
     repeat' apply Yy
     all_goals first|exact trivial|decide|rfl|omega|exact(K3 (by omega)).symm|exact YU _ (QR _ _ _ _) |simp
   ·obtain rfl:i=6:=by omega
    rw[if_neg (by rw[Es hall];decide),<-Um]at h
    have hg:=HU hn.1 6
    refine⟨fun hc=>?_,fun hc=>?_⟩
    ·rw[if_pos (by omega)]at h;exact YX h
    ·rw[if_neg (by omega)]at h;exact YX h
 ·exact h.1.elim
theorem Lg(r:Rt):∀i,i<=6->gP r 6∣gP r i:=by
 have st:∀i,gP r (i+1)∣gP r i:=fun i=>Wv ..
 intro i hi
 rcases(show i=6\/i=5\/i=4\/i=3\/i=2\/i=1\/i=0 by omega)with rfl|rfl|rfl|rfl|rfl|rfl|rfl
 ·exact Nat.dvd_refl _
 ·exact st 5
 ·exact JM (st 5) (st 4)
 ·exact JM (st 5) (JM (st 4) (st 3))
 ·exact JM (st 5) (JM (st 4) (JM (st 3) (st 2)))
 ·exact JM (st 5) (JM (st 4) (JM (st 3) (JM (st 2) (st 1))))
 ·exact JM (st 5) (JM (st 4) (JM (st 3) (JM (st 2) (JM (st 1) (st 0)))))
theorem OC{r:Rt}(hn:1<=r.n){g:Nat}(hg:g=gP r 6):∀i,i<=6->gP (QD r g) i=gP r i/g
 |0,_=>by
  show(r.n.tdiv g).toNat=r.n.toNat/g
  rw[ZG (by omega)]
  obtain⟨m,hm⟩:∃m:Nat,r.n=m:=⟨r.n.toNat,by omega⟩
  rw[hm]
  rfl
 |i+1,hi=>by
  have ih:=OC hn hg i (by omega)
  have e:((QD r g).num i).natAbs=(r.num i).natAbs/g:=by
   rcases six (show i<6 by omega)with rfl|rfl|rfl|rfl|rfl|rfl <;> (show Int.natAbs (Int.tdiv _ (g:Int))=_;rw[Int.natAbs_tdiv];rfl)
  have d1:g∣gP r i:=by rw[hg];exact Lg r i (by omega)
  have d2:g∣(r.num i).natAbs:=by
   have h1:gP r 6∣gP r (i+1):=Lg r (i+1) (by omega)
   rw[hg]
   exact JM h1 (Nat.gcd_dvd_right ..)
  rw[gP,gP,ih,e]
  exact Nat.gcd_div d1 d2
theorem YmD{r:Rt}(hn:1<=r.n):YY (QD r (JR r))=0↔(QD r (JR r)).n<=1000/\GQ (QD r (JR r))=false:=by
 have hg0:=HU hn 6
 have h6:=OC hn (g:=gP r 6) rfl 6 (Yr _)
 rw[Nat.div_self hg0,Um,Um]at h6
 have hn1:1<=(QD r (JR r)).n:=by
  show 1<=r.n.tdiv (JR r:Nat)
  rw[ZG (by omega)]
  have hd:gP r 6∣r.n.toNat:=Lg r 0 (by omega)
  have hle:=Nat.le_of_dvd (by omega) hd
  obtain⟨m,hm⟩:∃m:Nat,r.n=m:=⟨r.n.toNat,by omega⟩
  rw[hm]at hle⊢
  rw[Um,Yh]at hle
  rw[Um]at hg0
  have:=Nat.div_pos hle hg0
  have e:(m:Int)/(JR r:Nat)=((m/JR r:Nat):Int):=rfl
  rw[e];omega
 rw[EK,h6]
 by_cases c1:(QD r (JR r)).n<=1000
 ·rw[if_neg (by omega)]
  cases hb:GQ (QD r (JR r))with
  |true=>simp
  |false=>simp [c1]
 ·rw[if_pos (by omega)]
  simp [c1]
theorem IL(r:Rt){i:Nat}(h:i<6):YR 1 (YK (Kq (i:Int) 1) [.int .i64 r.a,.int .i64 r.b,.int .i64 r.c,.int .i64 r.d,.int .i64 r.e,.int .i64 r.f])=[.int .i64 (r.num i)]:=by
 rcases six h with rfl|rfl|rfl|rfl|rfl|rfl <;> rfl
theorem IJ(r:Rt){i:Nat}(h:i<6):1<=YH (YK (Kq (i:Int) 1) [.int .i64 r.a,.int .i64 r.b,.int .i64 r.c,.int .i64 r.d,.int .i64 r.e,.int .i64 r.f]):=by
 rcases six h with rfl|rfl|rfl|rfl|rfl|rfl <;> exact KI rfl
theorem YcD:madeC.ok Yb 105:=by
 refine Yv Tryz.func105 YrF SW 300 madeC fun args k h=>?_
 simp only[madeC]at h
 split at h
 ·rename_i a b c d e f n
  refine⟨[.agg [.int .i64 a,.int .i64 b,.int .i64 c,.int .i64 d,.int .i64 e,.int .i64 f],.int .i64 n],by simp [leL,le],?_⟩
  obtain⟨r,hr⟩:∃r:Rt,r=⟨a,b,c,d,e,f,n⟩:=⟨_,rfl⟩
  rw[<-hr]at h
  rw[show a=r.a by rw[hr],show b=r.b by rw[hr],show c=r.c by rw[hr],show d=r.d by rw[hr],show e=r.e by rw[hr],show f=r.f by rw[hr]]
  rw[show n=r.n by rw[hr]]at h⊢
  clear hr
  obtain⟨⟨hn,hn2,hb⟩,h⟩:=h
  have h:k (.tup [.agg (Yp (Jr r).1),.int .i64 (Jr r).2]) []:=h
  dsimp only[YdQ,go_sem,reduceIte,Ya]
  simp only[Yd,Ya,Ye,reduceCtorEq,Yc]
  refine Loop.keep [1,0,1,0] Nat (fun i=>[(6,.int .i64 (gP r i:Nat)),(7,.int .i64 i)]) (fun _=>[]) [] (fun i=>i<=6) (fun i=>6-i) ?_ ?_
  ·refine⟨0,by omega,?_⟩
   dsimp only[go_sem,reduceIte,Ya]
   simp only[Yf]
   repeat' apply Yy
   all_goals first|exact trivial|decide|rfl|omega|exact(K3 (by omega)).symm|exact YU _ (QR _ _ _ _) |simp
  ·rintro i hi
   dsimp only[Dg,gcdC,Yh,go_sem,reduceIte,Ya]
   simp only[Yd,Ya,Ye,reduceCtorEq,Yc]
   have hgl:gP r i<=9000000000000000000:=by rcases MA r i with h1|h1 <;> omega
   have hg0:=HU hn i
   refine⟨fun hlt=>?_,fun hge=>?_⟩
   ·have hi6:i<6:=by omega
    simp only[IL r hi6,Dg,gcdC,Yh,go_sem,reduceIte,Ya]
    simp only[Yd,Ya,Ye,reduceCtorEq,Yc]
    have d1:1<=YH (YK (Kq (i:Int) 1) [SV.int .i64 r.a,SV.int .i64 r.b,SV.int .i64 r.c,SV.int .i64 r.d,SV.int .i64 r.e,SV.int .i64 r.f]):=IJ r hi6
    have hbi:=hb i hi6
    refine⟨⟨by omega,by omega⟩,d1,⟨by omega,by omega⟩,d1,gP r i,(r.num i).natAbs,⟨rfl,M1 _ (by omega),by omega,by omega⟩,i+1,by omega,by omega,?_⟩
    rw[Yg ((i:Int)+1) (by omega)]
    simp only[Yf]
    repeat' apply Yy
    all_goals first|exact trivial|decide|rfl|omega|exact(K3 (by omega)).symm|exact YU _ (QR _ _ _ _) |simp
   ·obtain rfl:i=6:=by omega
    rw[Um]at hgl hg0⊢
    have hmc:=YmD hn
    obtain⟨g,hg⟩:∃g,g=JR r:=⟨_,rfl⟩
    rw[Jr,<-hg]at h
    rw[<-hg]at hgl hg0 hmc⊢
    have hdn:=A8 r.n g (by omega)
    have hDn:(QD r g).n=r.n.tdiv g:=rfl
    have hnum:∀i,i<6->(QD r g).num i=(r.num i).tdiv g:=fun i hi=>by rcases six hi with rfl|rfl|rfl|rfl|rfl|rfl <;> rfl
    rw[Yg (r.n.tdiv (g:Int)) (by omega)]
    refine⟨by omega,fun hc=>?_,fun hc=>?_⟩
    ·rw[if_neg (fun hh=>by have:=(hmc.1 hh).1;omega)]at h
     exact JF (r:=KT) (e:=7) h
    refine Loop.keep [1,0,1,1,1] Nat (fun i=>[(9,.int .i64 i)]) (fun i=>[(2,.box (ZQ (fun j=>(r.num j).tdiv g) 0 i))]) [] (fun i=>i<=6/\∀j,j<i->KW ((r.num j).tdiv g)=false) (fun i=>6-i) ?_ ?_
    ·refine⟨0,⟨by omega,fun j hj=>by omega⟩,?_⟩
     dsimp only[ZQ,go_sem,reduceIte,Ya]
     simp only[Yf]
     repeat' apply Yy
     all_goals first|exact trivial|decide|rfl|omega|exact(K3 (by omega)).symm|exact YU _ (QR _ _ _ _) |simp
    ·rintro i ⟨hi,hall⟩
     dsimp only[Yh,go_sem,reduceIte,Ya]
     simp only[Yd,Ya,Ye,reduceCtorEq,Yc]
     refine⟨fun hlt=>?_,fun hge=>?_⟩
     ·have hi6:i<6:=by omega
      simp only[IL r hi6,Yh,go_sem,reduceIte,Ya]
      simp only[Yd,Ya,Ye,reduceCtorEq,Yc]
      have hw:=A8 (r.num i) g (hb i hi6)
      have e:JT (ZQ (fun j=>(r.num j).tdiv g) 0 i) (Kq (i:Int) 1) [.int .i64 ((r.num i).tdiv g)]=ZQ (fun j=>(r.num j).tdiv g) 0 (i+1):=TY (fun j=>(r.num j).tdiv g) 0 hi6
      have d1:1<=YH (YK (Kq (i:Int) 1) [SV.int .i64 r.a,SV.int .i64 r.b,SV.int .i64 r.c,SV.int .i64 r.d,SV.int .i64 r.e,SV.int .i64 r.f]):=IJ r hi6
      rw[Yg ((r.num i).tdiv g) (by omega),Yg ((i:Int)+1) (by omega)]
      refine⟨⟨by omega,by omega⟩,d1,by omega,fun hx=>?_,fun hx=>⟨⟨by omega,by omega⟩,by rw[U6,TX];omega,i+1,⟨by omega,fun j hj=>?_⟩,by omega,?_⟩⟩
      ·have hx2:KW ((QD r g).num i)=true:=by rw[hnum i hi6];exact hx
       rw[if_neg (fun hh=>by have:=(hmc.1 hh).2;rw[Et hi6 hx2]at this;cases this)]at h
       exact JF (r:=KT) (e:=7) h
      ·rcases YV j i with h1|h1
       ·exact hall j h1
       ·obtain rfl:j=i:=by omega
        exact hx
      ·rw[e]
       simp only[Yf]
       repeat' apply Yy
       all_goals first|exact trivial|decide|rfl|omega|exact(K3 (by omega)).symm|exact YU _ (QR _ _ _ _) |simp
     ·obtain rfl:i=6:=by omega
      simp only[TW]
      dsimp only[Rt.num,go_sem,reduceIte,Ya]
      simp only[Yd,Ya,Ye,reduceCtorEq,Yc]
      rw[Yg (r.n.tdiv (g:Int)) (by omega)]
      rw[if_pos (hmc.2 ⟨by omega,Es fun j hj=>by rw[hnum j hj];exact hall j hj⟩)]at h
      exact⟨by omega,JF (r:=QD r g) (e:=0) h⟩
 ·exact h.1.elim
def YdN:VF:={ ntmps:=56,res:=[.cell 6 true 7,.tmp 7],body:=
 (ZR [u1 3 .box [.tm 0],
 u1 4 .box [.tm 1],
 u1 6 (.alloc [(.int .i64 0),(.int .i64 0),(.int .i64 0),(.int .i64 0),(.int .i64 0),(.int .i64 0),(.int .i64 0)]) [],
 Zi 7 0]
 (.seq (.draw [] [Zw 12 7 3,
 Zw 14 7 4,
 w1 13 (.call 104) [.tm 12],
 w1 15 (.call 104) [.tm 14],
 Zu 8 13,
 Zu 9 15])
 (.seq (ZR [Zm 16 8,
 Zq 17 .neq 16 0]
 (ZC 17 (ZR [u1 18 (.build [(.int .i64 0),(.int .i64 0),(.int .i64 0),(.int .i64 0),(.int .i64 0),(.int .i64 0),(.int .i64 0)] []) [],
 Zm 19 8,
 Zs 7 6 18,
 Zm 7 19]
 .ret)
  .skip))
 (.seq (ZR [Zm 20 9,
 Zq 21 .neq 20 0]
 (ZC 21 (ZR [u1 22 (.build [(.int .i64 0),(.int .i64 0),(.int .i64 0),(.int .i64 0),(.int .i64 0),(.int .i64 0),(.int .i64 0)] []) [],
 Zm 23 9,
 Zs 7 6 22,
 Zm 7 23]
 .ret)
  .skip))
 (ZR [u1 10 (.allocArr 6 1 [(.int .i64 0),(.int .i64 0),(.int .i64 0),(.int .i64 0),(.int .i64 0),(.int .i64 0)]) []]
 (.seq (ZR [Zi 11 0]
 (.block 0 (.loop (.seq (ZR [Zm 24 11,
 Zq 25 .lss 24 6]
 (ZC 25 .skip
  (.exit 0)))
 (.seq (.block 1 (.draw [] [Zu 28 11,
 Zu 29 11,
 Zy 30 0 3,
 w1 31 (.idxArr 6 1) [.tm 30,.tm 29],
 Zv 32 1 31,
 Zy 33 6 4,
 Zv 34 1 33,
 w1 35 (.ari .mul) [.tm 32,.tm 34],
 Zu 36 2,
 Zu 37 11,
 Zy 38 0 4,
 w1 39 (.idxArr 6 1) [.tm 38,.tm 37],
 Zv 40 1 39,
 w1 41 (.ari .mul) [.tm 36,.tm 40],
 Zy 42 6 3,
 Zv 43 1 42,
 w1 44 (.ari .mul) [.tm 41,.tm 43],
 w1 45 (.ari .add) [.tm 35,.tm 44],
 w1 46 (.idxArr 6 1) [.tm 10,.tm 28],
 ZS 1 46 45]))
 (.region [Zm 26 11,
 Zp 27 26 1,
 Zm 11 27]))))))
 (ZR [Zt 47 6 10,
 Za 48 6 3,
 Zf 49 1 48,
 Za 50 6 4,
 Zf 51 1 50,
 Zo 52 .mul 49 51,
 Zd 53 105 47 52,
 Ze 54 0 53,
 Ze 55 1 53,
 Zs 7 6 54,
 Zm 7 55]
 .ret)))))))}
theorem YrB:Yn Yb Tryz.f101=some YdN:=by kernel_rfl
def v70:VF:=⟨11,[.cell 4 true 7,.tmp 5],(ZR [u1 2 .box [.tm 0],u1 3 .box [.tm 1],u1 4 (.alloc [(.int .i64 0),(.int .i64 0),(.int .i64 0),(.int .i64 0),(.int .i64 0),(.int .i64 0),(.int .i64 0)]) [],Zi 5 0] (ZR [Zt 6 7 2,Zt 7 7 3,u1 8 (.call 101) [.tm 6,.tm 7,.cn (.int .i64 1)],Ze 9 0 8,Ze 10 1 8,Zs 7 4 9,Zm 5 10] .ret))⟩
theorem Ytm:Yn Yb Tryz.f70=some v70:=by kernel_rfl
def v67:VF:=⟨11,[.cell 4 true 7,.tmp 5],(ZR [u1 2 .box [.tm 0],u1 3 .box [.tm 1],u1 4 (.alloc [(.int .i64 0),(.int .i64 0),(.int .i64 0),(.int .i64 0),(.int .i64 0),(.int .i64 0),(.int .i64 0)]) [],Zi 5 0] (ZR [Zt 6 7 2,Zt 7 7 3,u1 8 (.call 101) [.tm 6,.tm 7,.cn (.int .i64 (-1))],Ze 9 0 8,Ze 10 1 8,Zs 7 4 9,Zm 5 10] .ret))⟩
theorem Ytj:Yn Yb Tryz.f67=some v67:=by kernel_rfl
def v69:VF:=⟨62,[.cell 6 true 7,.tmp 7],(ZR [u1 3 .box [.tm 0],u1 6 (.alloc [(.int .i64 0),(.int .i64 0),(.int .i64 0),(.int .i64 0),(.int .i64 0),(.int .i64 0),(.int .i64 0)]) [],Zi 7 0] (ZR [Zt 11 7 3,Zc 12 104 11,Zm 8 12] (.seq (ZR [Zm 13 8,Zq 14 .neq 13 0] (ZC 14 (ZR [u1 15 (.build [(.int .i64 0),(.int .i64 0),(.int .i64 0),(.int .i64 0),(.int .i64 0),(.int .i64 0),(.int .i64 0)] []) [],Zm 16 8,Zs 7 6 15,Zm 7 16] .ret) .skip)) (.seq (ZR [Zm 17 1,Zq 18 .lss 17 (-1000),Zm 19 18,Zg 20 19 false 1,u2 21 19 false (.cmp .gtr) [.tm 20,.cn (.int .i64 1000)],u1 22 .or [.tm 19,.tm 21],Zm 23 22,Zg 24 23 false 2,u2 25 23 false (.cmp .lss) [.tm 24,.cn (.int .i64 (-1000))],u1 26 .or [.tm 23,.tm 25],Zm 27 26,Zg 28 27 false 2,u2 29 27 false (.cmp .gtr) [.tm 28,.cn (.int .i64 1000)],u1 30 .or [.tm 27,.tm 29],Zm 31 30,Zg 32 31 false 2,u2 33 31 false (.cmp .eql) [.tm 32,.cn (.int .i64 0)],u1 34 .or [.tm 31,.tm 33]] (ZC 34 (ZR [u1 35 (.build [(.int .i64 0),(.int .i64 0),(.int .i64 0),(.int .i64 0),(.int .i64 0),(.int .i64 0),(.int .i64 0)] []) [],Zs 7 6 35,Zi 7 2] .ret) .skip)) (.seq (ZR [Zm 36 2,Zq 37 .lss 36 0] (ZC 37 (.region [Zm 38 1,u1 39 .neg [.tm 38],Zm 40 2,u1 41 .neg [.tm 40],Zm 1 39,Zm 2 41]) .skip)) (ZR [u1 9 (.allocArr 6 1 [(.int .i64 0),(.int .i64 0),(.int .i64 0),(.int .i64 0),(.int .i64 0),(.int .i64 0)]) []] (.seq (ZR [Zi 10 0] (.block 0 (.loop (.seq (ZR [Zm 42 10,Zq 43 .lss 42 6] (ZC 43 .skip (.exit 0))) (.seq (.block 1 (.region [Zm 46 10,Zm 47 10,Za 48 0 3,u1 49 (.idxArr 6 1) [.tm 48,.tm 47],Zf 50 1 49,Zm 51 1,Zo 52 .mul 50 51,u1 53 (.idxArr 6 1) [.tm 9,.tm 46],Zs 1 53 52])) (.region [Zm 44 10,Zp 45 44 1,Zm 10 45])))))) (ZR [Zt 54 6 9,Za 55 6 3,Zf 56 1 55,Zm 57 2,Zo 58 .mul 56 57,Zd 59 105 54 58,Ze 60 0 59,Ze 61 1 59,Zs 7 6 60,Zm 7 61] .ret))))))))⟩
theorem Ytl:Yn Yb Tryz.f69=some v69:=by kernel_rfl
def UR2:Env:={ ct:=fun n=>match n with|104=>some chkRC|105=>some madeC|_=>none,fn:=fun _=>none,meth:=fun _ _=>none}
theorem SX:UR2.ct 104=some chkRC:=rfl
theorem V9:UR2.ct 105=some madeC:=rfl
theorem SY:YE Yb UR2:=by
 refine⟨fun f c h=>?_,fun f vf h=>?_,(fun _ _ _ h=>by cases h),by kernel_rfl,(fun _ h=>by cases h)⟩
 ·simp only[UR2]at h
  split at h
  ·cases h;exact⟨YcJ,_,Tryz.func104,rfl,rfl⟩
  ·cases h;exact⟨YcD,_,Tryz.func105,rfl,rfl⟩
  ·cases h
 ·cases h
theorem Z3(x:Rt):Rt.mk x.a x.b x.c x.d x.e x.f x.n=x:=rfl
theorem YpX:joinC.ok Yb 101:=by
 refine Yv Tryz.func101 YrB SY 400 joinC fun args k h=>?_
 simp only[joinC]at h
 split at h
 ·rename_i a b c d e f n a' b' c' d' e' f' n' s
  refine⟨[.agg [.int .i64 a,.int .i64 b,.int .i64 c,.int .i64 d,.int .i64 e,.int .i64 f,.int .i64 n],.agg [.int .i64 a',.int .i64 b',.int .i64 c',.int .i64 d',.int .i64 e',.int .i64 f',.int .i64 n'],.int .i64 s],by simp [leL,le],?_⟩
  obtain⟨x,hx⟩:∃r:Rt,r=⟨a,b,c,d,e,f,n⟩:=⟨_,rfl⟩
  obtain⟨y,hy⟩:∃r:Rt,r=⟨a',b',c',d',e',f',n'⟩:=⟨_,rfl⟩
  rw[<-hx,<-hy]at h
  rw[show a=x.a by rw[hx],show b=x.b by rw[hx],show c=x.c by rw[hx],show d=x.d by rw[hx],show e=x.e by rw[hx],show f=x.f by rw[hx],show n=x.n by rw[hx]]
  rw[show a'=y.a by rw[hy],show b'=y.b by rw[hy],show c'=y.c by rw[hy],show d'=y.d by rw[hy],show e'=y.e by rw[hy],show f'=y.f by rw[hy],show n'=y.n by rw[hy]]
  clear hx hy
  obtain⟨hs,h⟩:=h
  have h:k (.tup [.agg (Yp (KG x y s).1),.int .i64 (KG x y s).2]) []:=h
  dsimp only[YdN,SX,chkRC,go_sem,reduceIte,Ya]
  simp only[Yd,Ya,Ye,reduceCtorEq,Yc]
  rw[Z3,Z3]
  rw[LF]at h
  refine⟨fun hc=>?_,fun hcx=>⟨fun hc=>?_,fun hcy=>?_⟩⟩
  ·rw[if_pos hc]at h
   exact JF (r:=KT) h
  ·rw[if_neg (by rw[hcx];decide),if_pos hc]at h
   exact JF (r:=KT) h
  rw[if_neg (by rw[hcx];decide),if_neg (by rw[hcy];decide)]at h
  refine Loop.keep [2,0,0,1,3] Nat (fun i=>[(11,.int .i64 i)]) (fun i=>[(3,.own false 1 6 (fun k=>[.int .i64 (ZZ (J0 x y s) i k)]))]) [] (fun i=>i<=6) (fun i=>6-i) ?_ ?_
  ·refine⟨0,by omega,?_⟩
   dsimp only[go_sem,reduceIte,Ya]
   simp only[Yf]
   refine⟨by decide,fun k hk=>?_⟩
   rw[NT hk]
   exact⟨⟨rfl,rfl⟩,trivial⟩
  ·rintro i hi
   dsimp only[V9,madeC,Yh,go_sem,reduceIte,Ya]
   simp only[Yd,Ya,Ye,reduceCtorEq,Yc]
   refine⟨fun hlt=>?_,fun hge=>?_⟩
   ·have hi6:i<6:=by omega
    have d1:=Ug x hi6
    have d2:=Ug y hi6
    obtain⟨j1,j2,j3,j4,_⟩:=BM hcx hcy hs hi6
    simp only[Uh x hi6,Uh y hi6,V9,madeC,Yh,go_sem,reduceIte,Ya]
    simp only[Yd,Ya,Ye,reduceCtorEq,Yc]
    rw[j1,j2,j3,j4,Yg ((i:Int)+1) (by omega)]
    refine⟨⟨by omega,by omega⟩,d1,⟨by omega,by omega⟩,d2,⟨by omega,by omega⟩,hi6,i+1,by omega,by omega,?_⟩
    simp only[Yf]
    refine⟨by simp,?_⟩
    intro k hk
    rw[<-M6]
    split
    ·exact⟨⟨rfl,rfl⟩,trivial⟩
    ·exact⟨⟨rfl,rfl⟩,trivial⟩
   ·obtain rfl:i=6:=by omega
    have a3:=ZU hcx
    have a4:=ZU hcy
    have hm:=Js (x:=x.n) (y:=y.n) (X:=1000) (Y:=1000) (by omega) (by omega)
    have hm1:1<=x.n*y.n:=Int.mul_pos (by omega) (by omega)
    rw[Yg (x.n*y.n) (by omega)]
    simp only[M7,M8,M9,Na,Nb,Nc]
    dsimp only[V9,madeC,Yp,go_sem,reduceIte,Ya]
    simp only[Yd,Ya,Ye,reduceCtorEq,Yc]
    refine⟨⟨hm1,by omega,fun i hi=>?_⟩,?_⟩
    ·have:=(BM hcx hcy hs hi).2.2.2.2
     rcases six hi with rfl|rfl|rfl|rfl|rfl|rfl <;> (simp only[Rt.num];omega)
    ·exact⟨by decide,by decide,JF (r:=(Jr ⟨J0 x y s 0,J0 x y s 1,J0 x y s 2,J0 x y s 3,J0 x y s 4,J0 x y s 5,x.n*y.n⟩).1) h⟩
 ·exact h.1.elim
def UR3:Env:={ ct:=fun n=>match n with|101=>some joinC|_=>none,fn:=fun _=>none,meth:=fun _ _=>none}
theorem SZ:UR3.ct 101=some joinC:=rfl
theorem S0:YE Yb UR3:=by
 refine⟨fun f c h=>?_,fun f vf h=>?_,(fun _ _ _ h=>by cases h),by kernel_rfl,(fun _ h=>by cases h)⟩
 ·simp only[UR3]at h
  split at h
  ·cases h;exact⟨YpX,_,Tryz.func101,rfl,rfl⟩
  ·cases h
 ·cases h
theorem Ycd:(Ji 1).ok Yb 70:=by
 refine Yv Tryz.func70 Ytm S0 300 (Ji 1) fun args k h=>?_
 simp only[Ji]at h
 split at h
 ·rename_i a b c d e f n a' b' c' d' e' f' n'
  refine⟨[.agg [.int .i64 a,.int .i64 b,.int .i64 c,.int .i64 d,.int .i64 e,.int .i64 f,.int .i64 n],.agg [.int .i64 a',.int .i64 b',.int .i64 c',.int .i64 d',.int .i64 e',.int .i64 f',.int .i64 n']],by simp [leL,le],?_⟩
  dsimp only[v70,SZ,joinC,Yp,go_sem,reduceIte,Ya]
  simp only[Yd,Ya,Ye,reduceCtorEq,Yc]
  exact⟨by decide,by decide,by decide,JF (r:=(KG ⟨a,b,c,d,e,f,n⟩ ⟨a',b',c',d',e',f',n'⟩ 1).1) h⟩
 ·exact h.1.elim
theorem Ycc:(Ji (-1)).ok Yb 67:=by
 refine Yv Tryz.func67 Ytj S0 300 (Ji (-1)) fun args k h=>?_
 simp only[Ji]at h
 split at h
 ·rename_i a b c d e f n a' b' c' d' e' f' n'
  refine⟨[.agg [.int .i64 a,.int .i64 b,.int .i64 c,.int .i64 d,.int .i64 e,.int .i64 f,.int .i64 n],.agg [.int .i64 a',.int .i64 b',.int .i64 c',.int .i64 d',.int .i64 e',.int .i64 f',.int .i64 n']],by simp [leL,le],?_⟩
  dsimp only[v67,SZ,joinC,Yp,go_sem,reduceIte,Ya]
  simp only[Yd,Ya,Ye,reduceCtorEq,Yc]
  exact⟨by decide,by decide,by decide,JF (r:=(KG ⟨a,b,c,d,e,f,n⟩ ⟨a',b',c',d',e',f',n'⟩ (-1)).1) h⟩
 ·exact h.1.elim
theorem Yce:powRC.ok Yb 69:=by
 refine Yv Tryz.func69 Ytl SY 400 powRC fun args k h=>?_
 simp only[powRC]at h
 split at h
 ·rename_i a b c d e f n p q
  refine⟨[.agg [.int .i64 a,.int .i64 b,.int .i64 c,.int .i64 d,.int .i64 e,.int .i64 f,.int .i64 n],.int .i64 p,.int .i64 q],by simp [leL,le],?_⟩
  obtain⟨r,hr⟩:∃r:Rt,r=⟨a,b,c,d,e,f,n⟩:=⟨_,rfl⟩
  rw[<-hr]at h
  rw[show a=r.a by rw[hr],show b=r.b by rw[hr],show c=r.c by rw[hr],show d=r.d by rw[hr],show e=r.e by rw[hr],show f=r.f by rw[hr],show n=r.n by rw[hr]]
  clear hr
  have h:k (.tup [.agg (Yp (Xc r p q).1),.int .i64 (Xc r p q).2]) []:=h
  dsimp only[v69,SX,chkRC,go_sem,reduceIte,Ya]
  simp only[Yd,Ya,Ye,reduceCtorEq,Yc]
  refine⟨fun hc=>?_,fun hc=>⟨fun hb=>?_,fun hb=>?_⟩⟩
  ·rw[Xc,if_pos hc]at h
   exact JF (r:=KT) h
  all_goals
   have hc:YY r=0:=hc
   rw[Xc,if_neg (by rw[hc];decide)]at h
  ·rw[if_pos (show Uc p q=true from hb)]at h
   exact JF (r:=KT) h
  ·have hb:Uc p q=false:=hb
   rw[if_neg (by rw[hb];decide)]at h
   obtain⟨hp,hq,hq0⟩:=TD hb
   refine⟨fun hneg=>?_,fun hpos=>?_⟩
   ·rw[if_pos hneg]at h
    rw[Yg (0-p) (by omega),Yg (0-q) (by omega),Int.zero_sub,Int.zero_sub]
    obtain⟨P,hP⟩:∃P,P= -p:=⟨_,rfl⟩
    obtain⟨Q,hQ⟩:∃Q,Q= -q:=⟨_,rfl⟩
    rw[<-hP,<-hQ]at h⊢
    have hPb: -1000<=P/\P<=1000:=by omega
    have hQb:1<=Q/\Q<=1000:=by omega
    clear hp hq hP hQ
    refine Loop.keep [1,0,0,2,2] Nat (fun i=>[(10,.int .i64 i)]) (fun i=>[(2,.own false 1 6 (fun k=>[.int .i64 (ZZ (fun j=>r.num j*P) i k)]))]) [] (fun i=>i<=6) (fun i=>6-i) ?_ ?_
    ·refine⟨0,by omega,?_⟩
     dsimp only[go_sem,reduceIte,Ya]
     simp only[Yf]
     refine⟨by decide,fun k hk=>?_⟩
     rw[NT hk]
     exact⟨⟨rfl,rfl⟩,trivial⟩
    ·rintro i hi
     dsimp only[V9,madeC,Yh,go_sem,reduceIte,Ya]
     simp only[Yd,Ya,Ye,reduceCtorEq,Yc]
     refine⟨fun hlt=>?_,fun hge=>?_⟩
     ·have hi6:i<6:=by omega
      have d1:=Ug r hi6
      have h1:=Z2 hc hi6
      have hm:=Js (x:=r.num i) (y:=P) (X:=100000) (Y:=1000) h1 (by omega)
      simp only[Uh r hi6,V9,madeC,Yh,go_sem,reduceIte,Ya]
      simp only[Yd,Ya,Ye,reduceCtorEq,Yc]
      rw[Yg (r.num i*P) (by omega),Yg ((i:Int)+1) (by omega)]
      refine⟨⟨by omega,by omega⟩,d1,⟨by omega,by omega⟩,hi6,i+1,by omega,by omega,?_⟩
      simp only[Yf]
      refine⟨by simp,?_⟩
      intro k hk
      rw[<-M6]
      split
      ·exact⟨⟨rfl,rfl⟩,trivial⟩
      ·exact⟨⟨rfl,rfl⟩,trivial⟩
     ·obtain rfl:i=6:=by omega
      have hn:=ZU hc
      have hm:=Js (x:=r.n) (y:=Q) (X:=1000) (Y:=1000) (by omega) (by omega)
      have hm1:1<=r.n*Q:=Int.mul_pos (by omega) (by omega)
      rw[Yg (r.n*Q) (by omega)]
      simp only[M7,M8,M9,Na,Nb,Nc]
      dsimp only[V9,madeC,Yp,go_sem,reduceIte,Ya]
      simp only[Yd,Ya,Ye,reduceCtorEq,Yc]
      refine⟨⟨hm1,by omega,fun i hi=>?_⟩,?_⟩
      ·have h1:=Z2 hc hi
       have hm:=Js (x:=r.num i) (y:=P) (X:=100000) (Y:=1000) h1 (by omega)
       rcases six hi with rfl|rfl|rfl|rfl|rfl|rfl <;> (simp only[Rt.num]at hm⊢;omega)
      ·exact⟨by decide,by decide,JF (r:=(Gp r P Q).1) h⟩
   ·rw[if_neg hpos]at h
    obtain⟨P,hP⟩:∃P,P=p:=⟨_,rfl⟩
    obtain⟨Q,hQ⟩:∃Q,Q=q:=⟨_,rfl⟩
    rw[<-hP,<-hQ]at h⊢
    have hPb: -1000<=P/\P<=1000:=by omega
    have hQb:1<=Q/\Q<=1000:=by omega
    refine Loop.keep [1,0,0,2,2] Nat (fun i=>[(10,.int .i64 i)]) (fun i=>[(2,.own false 1 6 (fun k=>[.int .i64 (ZZ (fun j=>r.num j*P) i k)]))]) [] (fun i=>i<=6) (fun i=>6-i) ?_ ?_
    ·refine⟨0,by omega,?_⟩
     dsimp only[go_sem,reduceIte,Ya]
     simp only[Yf]
     refine⟨by decide,fun k hk=>?_⟩
     rw[NT hk]
     exact⟨⟨rfl,rfl⟩,trivial⟩
    ·rintro i hi
     dsimp only[V9,madeC,Yh,go_sem,reduceIte,Ya]
     simp only[Yd,Ya,Ye,reduceCtorEq,Yc]
     refine⟨fun hlt=>?_,fun hge=>?_⟩
     ·have hi6:i<6:=by omega
      have d1:=Ug r hi6
      have h1:=Z2 hc hi6
      have hm:=Js (x:=r.num i) (y:=P) (X:=100000) (Y:=1000) h1 (by omega)
      simp only[Uh r hi6,V9,madeC,Yh,go_sem,reduceIte,Ya]
      simp only[Yd,Ya,Ye,reduceCtorEq,Yc]
      rw[Yg (r.num i*P) (by omega),Yg ((i:Int)+1) (by omega)]
      refine⟨⟨by omega,by omega⟩,d1,⟨by omega,by omega⟩,hi6,i+1,by omega,by omega,?_⟩
      simp only[Yf]
      refine⟨by simp,?_⟩
      intro k hk
      rw[<-M6]
      split
      ·exact⟨⟨rfl,rfl⟩,trivial⟩
      ·exact⟨⟨rfl,rfl⟩,trivial⟩
     ·obtain rfl:i=6:=by omega
      have hn:=ZU hc
      have hm:=Js (x:=r.n) (y:=Q) (X:=1000) (Y:=1000) (by omega) (by omega)
      have hm1:1<=r.n*Q:=Int.mul_pos (by omega) (by omega)
      rw[Yg (r.n*Q) (by omega)]
      simp only[M7,M8,M9,Na,Nb,Nc]
      dsimp only[V9,madeC,Yp,go_sem,reduceIte,Ya]
      simp only[Yd,Ya,Ye,reduceCtorEq,Yc]
      refine⟨⟨hm1,by omega,fun i hi=>?_⟩,?_⟩
      ·have h1:=Z2 hc hi
       have hm:=Js (x:=r.num i) (y:=P) (X:=100000) (Y:=1000) h1 (by omega)
       rcases six hi with rfl|rfl|rfl|rfl|rfl|rfl <;> (simp only[Rt.num]at hm⊢;omega)
      ·exact⟨by decide,by decide,JF (r:=(Gp r P Q).1) h⟩
 ·exact h.1.elim
def v68:VF:=⟨88,[.cell 4 true 7,.tmp 5],(ZR [u1 4 (.alloc [(.int .i64 0),(.int .i64 0),(.int .i64 0),(.int .i64 0),(.int .i64 0),(.int .i64 0),(.int .i64 0)]) [],Zi 5 0] (.seq (ZR [Zm 10 0,Zq 11 .lss 10 1,Zm 12 11,Zg 13 12 false 0,u2 14 12 false (.cmp .gtr) [.tm 13,.cn (.int .i64 1000000000000)],u1 15 .or [.tm 12,.tm 14],Zm 16 15,Zg 17 16 false 1,u2 18 16 false (.cmp .lss) [.tm 17,.cn (.int .i64 1)],u1 19 .or [.tm 16,.tm 18],Zm 20 19,Zg 21 20 false 1,u2 22 20 false (.cmp .gtr) [.tm 21,.cn (.int .i64 1000000000000)],u1 23 .or [.tm 20,.tm 22]] (ZC 23 (ZR [u1 24 (.build [(.int .i64 0),(.int .i64 0),(.int .i64 0),(.int .i64 0),(.int .i64 0),(.int .i64 0),(.int .i64 0)] []) [],Zs 7 4 24,Zi 5 2] .ret) .skip)) (ZR [Zm 25 0,Zm 26 1,Zd 27 102 25 26,Zm 6 27] (.seq (.draw [] [Zu 28 0,Zu 29 6,w1 30 .quo [.tm 28,.tm 29],Zu 31 1,Zu 32 6,w1 33 .quo [.tm 31,.tm 32],Zu 0 30,Zu 1 33]) (ZR [u1 34 (.build [(.int .i64 0),(.int .i64 0),(.int .i64 0),(.int .i64 0),(.int .i64 0),(.int .i64 0),(.int .i64 0)] [(6,1)]) [.cn (.int .i64 1)],u1 7 (.alloc [(.int .i64 0),(.int .i64 0),(.int .i64 0),(.int .i64 0),(.int .i64 0),(.int .i64 0),(.int .i64 0)]) [],Zs 7 7 34] (ZR [u1 35 (.call 103) [],Zm 8 35] (.seq (ZR [Zi 9 0] (.block 0 (.loop (.seq (ZR [Zm 36 9,Zq 37 .lss 36 6] (ZC 37 .skip (.exit 0))) (.seq (.block 1 (.seq (.block 2 (.loop (.seq (ZR [Zm 40 0,Zm 41 8,Zm 42 9,Zx 43 1 41 42,Zf 44 1 43,u1 45 .rem [.tm 40,.tm 44],Zq 46 .eql 45 0] (ZC 46 .skip (.exit 2))) (.block 3 (ZR [Zm 47 0,Zm 48 8,Zm 49 9,Zx 50 1 48 49,Zf 51 1 50,u1 52 .quo [.tm 47,.tm 51],Zm 0 52] (.region [Zm 53 9,Za 54 0 7,u1 55 (.idxArr 6 1) [.tm 54,.tm 53],Zf 56 1 55,Zp 57 56 1,Za 58 0 7,u1 59 (.idxArr 6 1) [.tm 58,.tm 53],Zs 1 59 57])))))) (.block 4 (.loop (.seq (ZR [Zm 60 1,Zm 61 8,Zm 62 9,Zx 63 1 61 62,Zf 64 1 63,u1 65 .rem [.tm 60,.tm 64],Zq 66 .eql 65 0] (ZC 66 .skip (.exit 4))) (.block 5 (ZR [Zm 67 1,Zm 68 8,Zm 69 9,Zx 70 1 68 69,Zf 71 1 70,u1 72 .quo [.tm 67,.tm 71],Zm 1 72] (.region [Zm 73 9,Za 74 0 7,u1 75 (.idxArr 6 1) [.tm 74,.tm 73],Zf 76 1 75,u1 77 (.ari .sub) [.tm 76,.cn (.int .i64 1)],Za 78 0 7,u1 79 (.idxArr 6 1) [.tm 78,.tm 73],Zs 1 79 77])))))))) (.region [Zm 38 9,Zp 39 38 1,Zm 9 39])))))) (.seq (ZR [Zm 80 0,Zq 81 .neq 80 1,Zm 82 81,Zg 83 82 false 1,u2 84 82 false (.cmp .neq) [.tm 83,.cn (.int .i64 1)],u1 85 .or [.tm 82,.tm 84]] (ZC 85 (ZR [u1 86 (.build [(.int .i64 0),(.int .i64 0),(.int .i64 0),(.int .i64 0),(.int .i64 0),(.int .i64 0),(.int .i64 0)] []) [],Zs 7 4 86,Zi 5 7] .ret) .skip)) (ZR [Zt 87 7 7,Zs 7 4 87,Zi 5 0] .ret)))))))))⟩
theorem Ytk:Yn Yb Tryz.f68=some v68:=by kernel_rfl
def NI:VF:={ ntmps:=2,res:=[.tmp 0],body:=
 (ZR [u1 0 .mov [.cn .nil]]
 (ZR [u1 1 (.buildSlice 1 6 [(.int .i64 0)] [(0,1),(1,1),(2,1),(3,1),(4,1),(5,1)]) [.cn (.int .i64 2),.cn (.int .i64 3),.cn (.int .i64 5),.cn (.int .i64 7),.cn (.int .i64 11),.cn (.int .i64 13)],
 Zm 0 1]
 .ret))}
theorem YrD:Yn Yb Tryz.f103=some NI:=by kernel_rfl
def v71:VF:=⟨39,[.tmp 2,.tmp 3,.tmp 4],(ZR [u1 1 .box [.tm 0],u1 2 .mov [.cn .nil],Zi 3 0,Zi 4 0] (ZR [Zt 9 7 1,Zc 10 104 9,Zm 5 10] (.seq (ZR [Zm 11 5,Zq 12 .neq 11 0] (ZC 12 (ZR [Zm 13 5,u1 2 .mov [.cn .nil],Zi 3 0,Zm 4 13] .ret) .skip)) (ZR [u1 6 .mov [.cn .nil]] (ZR [u1 14 (.call 103) [],Zm 7 14] (.seq (ZR [Zi 8 0] (.block 0 (.loop (.seq (ZR [Zm 15 8,Zq 16 .lss 15 6] (ZC 16 .skip (.exit 0))) (.seq (.block 1 (ZR [Zm 19 8,Za 20 0 1,u1 21 (.idxArr 6 1) [.tm 20,.tm 19],Zf 22 1 21,Zq 23 .neq 22 0] (ZC 23 (.draw [] [Zu 24 6,Zu 25 7,Zu 26 8,ZX 27 1 25 26,Zv 28 1 27,Zu 29 8,Zy 30 0 1,w1 31 (.idxArr 6 1) [.tm 30,.tm 29],Zv 32 1 31,w1 33 (.build [(.int .i64 0),(.int .i64 0)] [(0,1),(1,1)]) [.tm 28,.tm 32],w1 34 (.buildSlice 2 1 [(.int .i64 0),(.int .i64 0)] [(0,2)]) [.tm 33],w1 35 (.append 2 16 [(.int .i64 0),(.int .i64 0)]) [.tm 24,.tm 34],Zu 6 35]) .skip))) (.region [Zm 17 8,Zp 18 17 1,Zm 8 18])))))) (.seq (.draw [] [Zu 36 6,Zy 37 6 1,Zv 38 1 37,Zu 2 36,Zu 3 38,w1 4 .mov [.cn (.int .i64 0)]]) .ret)))))))⟩
theorem Ytn:Yn Yb Tryz.f71=some v71:=by kernel_rfl
def UR4:Env:={ ct:=fun n=>match n with|102=>some gcdC|104=>some chkRC|_=>none,fn:=fun n=>match n with|103=>some NI|_=>none,meth:=fun _ _=>none}
theorem Yhj:UR4.ct 102=some gcdC:=rfl
theorem Yhk:UR4.ct 104=some chkRC:=rfl
theorem S1:UR4.ct 103=none:=rfl
theorem S2:UR4.fn 103=some NI:=rfl
theorem S3:YE Yb UR4:=by
 refine⟨fun f c h=>?_,fun f vf h=>?_,(fun _ _ _ h=>by cases h),by kernel_rfl,(fun _ h=>by cases h)⟩
 ·simp only[UR4]at h
  split at h
  ·cases h;exact⟨Q.gcd_c,_,Tryz.func102,rfl,rfl⟩
  ·cases h;exact⟨YcJ,_,Tryz.func104,rfl,rfl⟩
  ·cases h
 ·simp only[UR4]at h
  split at h
  ·cases h;exact⟨_,Tryz.func103,YrD,_,Tryz.func103,rfl,rfl⟩
  ·cases h
def rofC:Ctr:={ alias:=false,of:=fun l=>match l with
 | [.int .i64 a,.int .i64 b]=> .pre ((ofL a b 6).1=1/\(ofL a b 6).2.1=1/\YG a.toNat b.toNat=1/\X2 a b=false) (.fin (.tup [.agg (Yp (KP a b).1),.int .i64 (KP a b).2]) [])
 |_=>noC}
theorem YcF:rofC.ok Yb 68:=by
 refine Yv Tryz.func68 Ytk S3 400 rofC fun args k h=>?_
 simp only[rofC]at h
 split at h
 ·rename_i a b
  refine⟨[.int .i64 a,.int .i64 b],by simp [leL,le],?_⟩
  obtain⟨⟨h61,h62,hgcd,hb⟩,h⟩:=h
  have h:k (.tup [.agg (Yp (KP a b).1),.int .i64 (KP a b).2]) []:=h
  rw[KP,if_neg (by rw[hb];decide),if_neg (by rw[h61,h62];decide)]at h
  have hb0:X2 a b=false:=hb
  simp only[X2,JH,decide_eq_false_iff_not]at hb
  dsimp only[v68,Yhj,gcdC,S1,S2,NI,go_sem,reduceIte,Ya]
  simp only[Yd,Ya,Ye,reduceCtorEq,Yc]
  refine⟨fun hh=>absurd (show X2 a b=true from hh) (by rw[hb0];decide),fun _=>⟨a.toNat,b.toNat,⟨(K3 (by omega)).symm,(K3 (by omega)).symm,by omega,by omega⟩,?_⟩⟩
  rw[hgcd]
  have t1:∀x:Int,x.tdiv ((1:Nat):Int)=x:=fun x=>Int.tdiv_one x
  rw[t1,t1,Yg a (by omega),Yg b (by omega)]
  refine⟨by decide,by decide,by decide,?_⟩
  refine Loop.keep [4,2,0] Nat (fun i=>[(0,.int .i64 (ofL a b i).1),(1,.int .i64 (ofL a b i).2.1),(9,.int .i64 i)]) (fun i=>[(1,.box (Xk (ofL a b i).2.2 1))]) [] (fun i=>i<=6/\(1<=(ofL a b i).1/\(ofL a b i).1<=1000000000000)/\1<=(ofL a b i).2.1/\(ofL a b i).2.1<=1000000000000) (fun i=>6-i) ?_ ?_
  ·refine⟨0,⟨by omega,⟨by simp only[ofL];omega,by simp only[ofL];omega⟩,by simp only[ofL];omega,by simp only[ofL];omega⟩,?_⟩
   dsimp only[Xk,ofL,go_sem,reduceIte,Ya]
   simp only[Yf]
   repeat' apply Yy
   all_goals first|exact trivial|decide|rfl|omega|exact(K3 (by omega)).symm|simp
  ·rintro i ⟨hi,hx,hy⟩
   obtain⟨X,hX⟩:∃X,X=(ofL a b i).1:=⟨_,rfl⟩
   obtain⟨Y,hY⟩:∃Y,Y=(ofL a b i).2.1:=⟨_,rfl⟩
   obtain⟨g,hg⟩:∃g,g=(ofL a b i).2.2:=⟨_,rfl⟩
   rw[<-hX]at hx
   rw[<-hY]at hy
   rw[<-hX,<-hY,<-hg]
   dsimp only[Yh,go_sem,reduceIte,Ya]
   simp only[Yd,Ya,Ye,reduceCtorEq,Yc]
   refine⟨fun hlt=>?_,fun hge=>?_⟩
   ·have hi6:i<6:=by omega
    have hp:=YbP i
    have hg0:g i=0:=by rw[hg];exact Pj a b i i (Yr _)
    have hS:ofL a b (i+1)=((JC 64 (prm i) X 0 1).1,(JC 64 (prm i) Y (JC 64 (prm i) X 0 1).2 (-1)).1,XQ g i (JC 64 (prm i) Y (JC 64 (prm i) X 0 1).2 (-1)).2):=by
     rw[ofL,<-hX,<-hY,<-hg];rfl
    have dp:=DQ hi6
    generalize prm i=p at hp hS dp
    obtain⟨A,hA⟩:∃A,A=JC 64 p X 0 1:=⟨_,rfl⟩
    have cg:∀(g:Nat->Int)(n:Int),YR 1 (YK (Kq (i:Int) 1) (Xk g n))=[.int .i64 (g i)]:=fun g n=>EI g n hi6
    rw[<-hA]at hS
    refine Loop.keep [1,2,2,0,0] (Nat×Int×Int) (fun s=>[(0,.int .i64 s.2.1)]) (fun s=>[(1,.box (Xk (XQ g i s.2.2) 1))]) [] (fun s=>A=JC s.1 p s.2.1 s.2.2 1/\1<=s.2.1/\s.2.1<2^s.1/\s.2.1<=1000000000000/\ -1000+s.1<=s.2.2/\s.2.2<=1000-s.1) (fun s=>s.1) ?_ ?_
    ·refine⟨(64,X,0),⟨hA,hx.1,by simp only;omega,hx.2,by simp,by simp⟩,?_⟩
     rw[show XQ g i (64,X,(0:Int)).2.2=g by rw[<-hg0];exact YcV g i]
     dsimp only[go_sem,reduceIte,Ya]
     simp only[Yf]
     exact⟨by decide,YU _ (Vy _ _ _)⟩
    ·rintro⟨f,n,c⟩ ⟨hf,n1,n2,n3,c1,c2⟩
     dsimp only at hf n1 n2 n3 c1 c2
     simp only[dp,cg,AP,Yh,go_sem,reduceIte,Ya]
     simp only[Yd,Ya,Ye,reduceCtorEq,Yc]
     have e1:n.tmod p=n%p:=UF (by omega)
     have e2:n.tdiv p=n/p:=ZG (by omega)
     rw[e1]
     obtain⟨q,rfl⟩:∃q,f=q+1:=by
      cases f with
      |zero=>simp at n2;omega
      |succ q=>exact⟨q,rfl⟩
     rw[JC]at hf
     refine⟨⟨by omega,by omega⟩,hi6,by omega,fun hd=>?_,fun hd=>?_⟩
     ·rw[if_pos hd]at hf
      obtain⟨w1,w2,w3⟩:=Cj (by omega) n1 n2 n3 hd
      rw[Dy _ _ hi6,AQ,e2,Yg (n/p) (by omega),Yg (c+1) (by omega)]
      refine⟨⟨by omega,by omega⟩,hi6,by omega,⟨by omega,by omega⟩,Dw _ _ hi6,⟨by omega,by omega⟩,by rw[U6,Dx];omega,(q,n/p,c+1),⟨hf,w1,w2,w3,by simp only;omega,by simp only;omega⟩,by simp only;omega,?_⟩
      simp only[Yf]
      exact⟨by decide,YU _ (Vy _ _ _)⟩
     ·rw[if_neg hd]at hf
      have hA1:A.1=n:=by rw[hf]
      have hA2:A.2=c:=by rw[hf]
      rw[hA2]at hS
      obtain⟨B,hB⟩:∃B,B=JC 64 p Y c (-1):=⟨_,rfl⟩
      rw[<-hB,hA1]at hS
      have n1':=n1
      have n3':=n3
      have c1': -2000+(64:Int)<=c/\c<=2000-64:=by omega
      clear hf hA n2 e1 e2 c1 c2 hA1 hA2
      refine Loop.keep [0,3,2,0,0] (Nat×Int×Int) (fun s=>[(1,.int .i64 s.2.1)]) (fun s=>[(1,.box (Xk (XQ g i s.2.2) 1))]) [] (fun s=>B=JC s.1 p s.2.1 s.2.2 (-1)/\1<=s.2.1/\s.2.1<2^s.1/\s.2.1<=1000000000000/\ -2000+s.1<=s.2.2/\s.2.2<=2000-s.1) (fun s=>s.1) ?_ ?_
      ·refine⟨(64,Y,c),⟨hB,hy.1,by simp only;omega,hy.2,by simp only;omega,by simp only;omega⟩,?_⟩
       dsimp only[go_sem,reduceIte,Ya]
       simp only[Yf]
       exact⟨by decide,YU _ (Vy _ _ _)⟩
      ·obtain⟨N,hN⟩:∃N,N=n:=⟨_,rfl⟩
       rw[<-hN]at n1' n3' hS⊢
       clear hN n1 n3 hd c1' hB
       rintro⟨f,n,c⟩ ⟨hf,n1,n2,n3,c1,c2⟩
       dsimp only at hf n1 n2 n3 c1 c2
       simp only[dp,cg,AP,Yh,go_sem,reduceIte,Ya]
       simp only[Yd,Ya,Ye,reduceCtorEq,Yc]
       have e1:n.tmod p=n%p:=UF (by omega)
       have e2:n.tdiv p=n/p:=ZG (by omega)
       rw[e1]
       obtain⟨q,rfl⟩:∃q,f=q+1:=by
        cases f with
        |zero=>simp at n2;omega
        |succ q=>exact⟨q,rfl⟩
       rw[JC]at hf
       refine⟨⟨by omega,by omega⟩,hi6,by omega,fun hd=>?_,fun hd=>?_⟩
       ·rw[if_pos hd]at hf
        obtain⟨w1,w2,w3⟩:=Cj (by omega) n1 n2 n3 hd
        rw[Dy _ _ hi6,AQ,e2,Yg (n/p) (by omega),Yg (c-1) (by omega)]
        refine⟨⟨by omega,by omega⟩,hi6,by omega,⟨by omega,by omega⟩,Dw _ _ hi6,⟨by omega,by omega⟩,by rw[U6,Dx];omega,(q,n/p,c+(-1)),⟨hf,w1,w2,w3,by simp only;omega,by simp only;omega⟩,by simp only;omega,?_⟩
        simp only[Yf]
        exact⟨by decide,YU _ (Vy _ _ _)⟩
       ·rw[if_neg hd]at hf
        have hB1:B.1=n:=by rw[hf]
        have hB2:B.2=c:=by rw[hf]
        rw[hB1,hB2]at hS
        refine⟨i+1,⟨by omega,⟨by rw[hS];exact n1',by rw[hS];exact n3'⟩,by rw[hS];exact n1,by rw[hS];exact n3⟩,by omega,?_⟩
        rw[hS,Yg ((i:Int)+1) (by omega)]
        simp only[Yf]
        refine⟨?_,YU _ (Vy _ _ _)⟩
        repeat' apply Yy
        all_goals first|exact trivial|decide|rfl|omega|exact(K3 (by omega)).symm|simp
   ·obtain rfl:i=6:=by omega
    rw[<-hg]at h
    have hX1:X=1:=by rw[hX];exact h61
    have hY1:Y=1:=by rw[hY];exact h62
    refine⟨fun hh=>?_,fun _=>⟨Yr 7,⟨rfl,by simp [Xk,YR,Jk,one]⟩,Yr 7,?_⟩⟩
    ·rw[hX1,hY1]at hh
     exact absurd hh (by decide)
    ·exact JF (r:=⟨g 0,g 1,g 2,g 3,g 4,g 5,1⟩) h
 ·exact h.1.elim
def Aj:HO:= .own false 1 6 (Jp 1 [SV.int .i64 2,SV.int .i64 3,SV.int .i64 5,SV.int .i64 7,SV.int .i64 11,SV.int .i64 13])
def rtrmC:Ctr:={ alias:=false,of:=fun l=>match l with
 | [.agg [.int .i64 a,.int .i64 b,.int .i64 c,.int .i64 d,.int .i64 e,.int .i64 f,.int .i64 n]]=>
   .pre (YY ⟨a,b,c,d,e,f,n⟩=0) (.all Bool fun z=> .fin (.tup [.own 2 0 (Ys ⟨a,b,c,d,e,f,n⟩).length 2,.int .i64 n,.int .i64 0]) [.box [.int .i64 a,.int .i64 b,.int .i64 c,.int .i64 d,.int .i64 e,.int .i64 f,.int .i64 n],Aj,.own z 2 (Ys ⟨a,b,c,d,e,f,n⟩).length (fun k=>YA ((Ys ⟨a,b,c,d,e,f,n⟩).getD k default))])
 |_=>noC}
theorem YcK:rtrmC.ok Yb 71:=by
 refine Il Tryz.func71 Ytn S3 300 rtrmC fun args k h=>?_
 simp only[rtrmC]at h
 split at h
 ·rename_i a b c d e f n
  refine⟨[.agg [.int .i64 a,.int .i64 b,.int .i64 c,.int .i64 d,.int .i64 e,.int .i64 f,.int .i64 n]],by simp [leL,le],?_⟩
  obtain⟨r,hr⟩:∃r:Rt,r=⟨a,b,c,d,e,f,n⟩:=⟨_,rfl⟩
  rw[<-hr]at h
  rw[show a=r.a by rw[hr],show b=r.b by rw[hr],show c=r.c by rw[hr],show d=r.d by rw[hr],show e=r.e by rw[hr],show f=r.f by rw[hr],show n=r.n by rw[hr]]at h⊢
  clear hr
  obtain⟨hc,h⟩:=h
  dsimp only[v71,Yhk,chkRC,S1,S2,NI,go_sem,reduceIte,Ya]
  simp only[Yd,Ya,Ye,reduceCtorEq,Yc]
  refine⟨fun hh=>absurd hc hh,fun _=>⟨by decide,?_⟩⟩
  refine Loop.keep [1,5] (Nat×Bool) (fun s=>[(6,.own 2 0 (tP r s.1).length 2),(8,.int .i64 s.1)]) (fun s=>[(2,.own s.2 2 (tP r s.1).length (fun k=>YA ((tP r s.1).getD k default)))]) [.gone] (fun s=>s.1<=6/\(s.2=true->(tP r s.1).length=0)) (fun s=>6-s.1) ?_ ?_
  ·refine⟨(0,true),⟨by decide,fun _=>rfl⟩,?_⟩
   dsimp only[tP,ZI,go_sem,reduceIte,Ya]
   simp only[Yf]
   repeat' apply Yy
   all_goals first|exact trivial|decide|rfl|omega|exact(K3 (by omega)).symm|simp
  ·rintro⟨i,z⟩ ⟨hi,hz⟩
   dsimp only at hi hz
   dsimp only[Yh,YA,go_sem,reduceIte,Ya]
   simp only[Yd,Ya,Ye,reduceCtorEq,Yc]
   refine⟨fun hlt=>?_,fun hge=>?_⟩
   ·have hi6:i<6:=by omega
    have hl:=Rk r i
    have d1:=Ug r hi6
    have dp:=DQ hi6
    simp only[Uh r hi6,dp,Yh,YA,go_sem,reduceIte,Ya]
    simp only[Yd,Ya,Ye,reduceCtorEq,Yc]
    refine⟨⟨by omega,by omega⟩,d1,fun hn=>⟨⟨by omega,by omega⟩,hi6,⟨by omega,by omega⟩,d1,by decide,⟨by unfold Ka;omega,fun k hk=>Gm hk⟩,(i+1,false),⟨by simp only;omega,fun hh=>by cases hh⟩,by simp only;omega,?_⟩,fun hn=>⟨(i+1,z),⟨by simp only;omega,fun hh=>by simp only[tP,Cb hn,Z9];exact hz hh⟩,by simp only;omega,?_⟩⟩
    ·simp only[tP,YdB hn,JI,List.length_singleton]
     rw[Yg ((i:Int)+1) (by omega)]
     simp only[Yf]
     refine⟨by simp,fun k hk=>?_,by simp,fun k hk=>Ua hk⟩
     rcases six hk with rfl|rfl|rfl|rfl|rfl|rfl <;> exact YU _ ⟨trivial,trivial⟩
    ·simp only[tP,Cb hn,Z9]
     rw[Yg ((i:Int)+1) (by omega)]
     simp only[Yf]
     repeat' apply Yy
     all_goals first|exact trivial|decide|rfl|omega|exact(K3 (by omega)).symm|simp
   ·obtain rfl:i=6:=by omega
    simp only[Ydu]
    refine⟨h z,⟨trivial,trivial,trivial,trivial⟩,?_⟩
    simp only[QV,Y4,Y0,Jp,and_true,true_and]
    refine⟨fun k hk=>?_,fun k hk=>trivial⟩
    rcases six hk with rfl|rfl|rfl|rfl|rfl|rfl <;> exact⟨trivial,trivial⟩
 ·exact h.1.elim
end Go.Proofs.YtlhmikjnholpnaaGreatDoor
