/- Roots of 2 one after the other, evaluated: none is nearly a whole number, but for powers of 2. -/
import Derived.Test.YtlhmikjnholpnaaGreatDoorMgX52f
import Derived.Test.YtlhmikjnholpnaaGreatDoorMgX52g
import Derived.Test.YtlhmikjnholpnaaGreatDoorMgX52h
import Derived.Test.YtlhmikjnholpnaaGreatDoorMgX52i
import Derived.Test.YtlhmikjnholpnaaGreatDoorMgX52j
import Derived.Test.YtlhmikjnholpnaaGreatDoorMgX52d
open And renaming intro->Yy
open Bool renaming and->QN,and_eq_false_iff->Vk,and_eq_true->YS,or_eq_false_iff->JH,or_eq_true->Qt
open Int renaming add_zero->Z7,mul_comm->KA,mul_le_mul_of_nonneg_right->Xq,mul_neg->KC,mul_nonneg->ZF,natCast_add->WT,natCast_mul->JV,neg_neg->JW,toNat_natCast->Yh,toNat_of_nonneg->K3
open Go.IntWalk renaming i64_in->Yg
open List renaming append_nil->Z9,cons_append->ZH,length_append->JI,length_cons->Xr,length_map->Vq,length_nil->ZI,map_cons->KD,mem_append->KE,mem_cons->K4,mem_map->QO,mem_singleton->JD,nil_append->Vr,take_length->QB
open Nat renaming add->Kf,add_assoc->XV,add_mul->YN,beq->YL,ble->Y8,div->Jm,div_add_mod->KO,div_mul_le_self->XW,dvd_trans->JM,eq_zero_or_pos->KU,gcd->YG,gcd_dvd_left->Wv,le_mul_of_pos_left->V6,le_of_ble_eq_true->KI,le_of_eq->YB,le_of_lt->JN,le_of_mul_le_mul_left->WV,le_of_mul_le_mul_right->Kr,le_of_not_lt->ZK,le_refl->Yr,le_trans->Yj,lt_of_le_of_lt->Jn,lt_of_lt_of_le->Qf,lt_or_ge->YV,mod->KZ,mod_lt->Kj,mul->K5,mul_add->Y9,mul_assoc->Yx,mul_comm->Yk,mul_le_mul->YP,mul_le_mul_left->Yz,mul_le_mul_right->Yu,mul_left_comm->Jd,mul_lt_mul_of_pos_right->ZL,mul_one->Kb,mul_pos->Y3,mul_pow->Yt,mul_right_comm->WW,not_lt_zero->QC,one_mul->Kc,pow->Kx,pow_add->Yo,pow_le_pow_iff_left->XY,pow_le_pow_left->YM,pow_le_pow_right->Kl,pow_mul->Yl,pow_one->Wg,pow_pos->YD,pow_succ->YF,pow_zero->JO,reduceAdd->Ya,reduceEqDiff->Yc,reduceLeDiff->Ye,two_pow_pos->Qv,zero_add->KL,zero_mul->JX
open Or renaming inl->Jo,inr->KV
open Go.Proofs.Tryz renaming prog->Yb
set_option linter.all false
namespace Go.Proofs.YtlhmikjnholpnaaGreatDoor
open Go Go.Vx
theorem RtJ.up{R J x y m:Nat}(d:Nat)(h:RtJ R J x y m):RtJ R (J+d) x y (m*2^d):=by
 obtain⟨h1,h2⟩:=h
 unfold RtJ
 have k1:=YM h1 (2^d)
 have k2:=YM h2 (2^d)
 rw[Yt,<-Yl,<-Yl,<-Yl,<-Yo]at k1 k2
 exact⟨k1,k2⟩
theorem RtJ.le{R J x y m B:Nat}(h:RtJ R J x y m)(hm:m<=B*2^J):x<=2^B*R:=by
 have hQ:=Ja J
 rw[<-XY (show 2^J≠0 by omega),Yt,<-Yl]
 exact Yj h.1 (Yu _ (Kl (by decide) hm))
def sq(n:Nat)(f:Nat->Bool):Bool:=Nat.rec (f 0) (fun k _=>f (Nat.succ k)) n
theorem L8{J J' n:Nat}(h:Qm J n)(h1:J<=J')(h2:J'<=2048):(lN n 2048).2<=(lN n 2048).1+2^(J'-J)*2^(2048-J'):=by
 rw[<-Yo,show J'-J+(2048-J')=2048-J by omega]
 exact h
theorem O4:∀q,q<62->JZ ((2^q:Nat):Int)=true:=by decide
def Uk(J n:Nat):Prop:=∀m,¬Near (2^4160) (2^2160) J n m
theorem B4{J n:Nat}(hJ:J<=500)(h1:1<=n)(h2:n<2^61)(h:(∃q,n=2^q)\/Uk J n):Qm J n:=by
 rcases Yna h1 (Nat.lt_trans h2 (by decide)) hJ with hn| ⟨hp,m,hm⟩
 ·exact hn
 ·exfalso
  rcases h with⟨q,hq⟩ |h
  ·have hq2:q<61:=(Nat.pow_lt_pow_iff_right (show 1<2 by decide)).1 (by rw[<-hq];exact h2)
   rw[hq,O4 q (by omega)]at hp
   cases hp
  ·exact h m hm
end Go.Proofs.YtlhmikjnholpnaaGreatDoor
set_option maxRecDepth 100000
namespace Go.Proofs.YtlhmikjnholpnaaGreatDoor.LB
theorem YdK{M W:Nat}:∀k,k*W<=M->(M-k*W)*(M+W)^k<=M^k*M
 |0,_=>by simp
 |k+1,h=>by
  rw[YN,Kc]at h
  have ih:=YdK (M:=M) (W:=W) k (by omega)
  rw[YF,YF]
  obtain⟨x,hx⟩:∃x,M=(k+1)*W+x:=⟨M-(k+1)*W,by rw[YN,Kc];omega⟩
  have e1:M-(k+1)*W=x:=by omega
  have e2:M-k*W=W+x:=by rw[YN,Kc]at hx;omega
  rw[e1]
  rw[e2]at ih
  have h3:x*(M+W)<=(W+x)*M:=by
   have:x*(M+W)=x*M+x*W:=Y9 ..
   have:(W+x)*M=W*M+x*M:=YN ..
   have:x*W<=W*M:=by rw[Yk];exact Yz W (by omega)
   omega
  have h4:=Yz ((M+W)^k) h3
  have h5:=Yu M ih
  generalize(M+W)^k=p at*
  generalize M^k=r at*
  have e3:x*(p*(M+W))=p*(x*(M+W)):=by rw[Jd]
  have e4:p*((W+x)*M)=(W+x)*p*M:=by rw[Jd,Yx]
  omega
theorem ID{M W:Nat}(hWM:W<=M):∀k,k*W<=M->M^k*(M-k*W)<=(M-W)^k*M
 |0,_=>by simp
 |k+1,h=>by
  rw[YN,Kc]at h
  have ih:=ID hWM k (by omega)
  rw[YF,YF]
  obtain⟨V,hV⟩:∃V,M=W+V:=⟨M-W,by omega⟩
  have e0:M-W=V:=by omega
  obtain⟨x,hx⟩:∃x,M=(k+1)*W+x:=⟨M-(k+1)*W,by rw[YN,Kc];omega⟩
  have e1:M-(k+1)*W=x:=by omega
  have e2:M-k*W=W+x:=by rw[YN,Kc]at hx;omega
  rw[e1,e0]
  rw[e2,e0]at ih
  have h3:M*x<=(W+x)*V:=by
   have:M*x=W*x+V*x:=by rw[hV,YN]
   have:(W+x)*V=W*V+x*V:=YN ..
   have:W*x<=W*V:=Yz W (by rw[YN,Kc]at hx;omega)
   have:V*x=x*V:=Yk ..
   omega
  have h4:=Yz (M^k) h3
  have h5:=Yu V ih
  generalize V^k=p at*
  generalize M^k=r at*
  have e3:r*M*x=r*(M*x):=Yx ..
  have e4:r*((W+x)*V)=r*(W+x)*V:=by rw[Yx]
  have e5:p*V*M=p*M*V:=WW ..
  omega
theorem near_pow{M W Z P m:Nat}(hM:2*(P*W)<=M)(hP:1<=P)(hM0:0<M)(h1:2^m*M<=Z*M+2^m*W)(h2:Z*M<=2^m*(M+W)):2^(m*P)<=2*Z^P/\Z^P<=2*2^(m*P):=by
 have hPW:W<=P*W:=V6 W hP
 have u:=YdK (M:=M) (W:=W) P (by omega)
 have d:=ID (M:=M) (W:=W) (by omega) P (by omega)
 have hMP:0<M^P:=YD hM0
 have h1':2^m*(M-W)<=Z*M:=by rw[Nat.mul_sub];omega
 have k1:=YM h1' P
 have k2:=YM h2 P
 rw[Yt,Yt,<-Yl]at k1 k2
 generalize 2^(m*P)=A at*
 generalize Z^P=B at*
 generalize(M+W)^P=C at*
 generalize(M-W)^P=D at*
 generalize M^P=E at*
 constructor
 ·refine Kr (c:=E*M) ?_ (Y3 hMP hM0)
  have a1:M<=2*(M-P*W):=by omega
  have a2:=Yz (A*E) a1
  have a3:=Yz A d
  have a4:=Yu M k1
  generalize M-P*W=V at*
  grind
 ·refine Kr (c:=E*M) ?_ (Y3 hMP hM0)
  have a1:M<=2*(M-P*W):=by omega
  have a2:=Yz (A*C) a1
  have a3:=Yz A u
  have a4:=Yu M k2
  generalize M-P*W=V at*
  grind
theorem pow_of_le{a b:Nat}(h:2^a<=2^b):a<=b:=(Nat.pow_le_pow_iff_right (show 1<2 by decide)).1 h
theorem YjX{J n:Nat}(h:Uk J (2*n)):Uk J n:=by
 intro m hm
 refine h (2^J+m) ?_
 obtain⟨h1,h2⟩:=hm
 unfold Near
 rw[Yt,Yo]
 generalize(2:Nat)^4160=M at*
 generalize(2:Nat)^2160=W at*
 generalize 2^2^J=Q at*
 generalize n^2^J=X at*
 generalize 2^m=R at*
 have k1:=Yz Q h1
 have k2:=Yz Q h2
 constructor
 ·grind
 ·grind
theorem Tj{J:Nat}(h:∀n,2^28<n->n<2^29->Uk J n):∀k n,2^28<=n*2^k->n*2^k<2^29->(∃q,n=2^q)\/Uk J n
 |0,n,h1,h2=>by
  by_cases c:n=2^28
  ·exact Jo ⟨28,c⟩
  ·exact KV (h n (by omega) (by omega))
 |k+1,n,h1,h2=>by
  have e:n*2^(k+1)=2*n*2^k:=by rw[YF];grind
  rw[e]at h1 h2
  rcases Tj h k (2*n) h1 h2 with⟨q,hq⟩ |hf
  ·cases q with
   |zero=>omega
   |succ q=>exact Jo ⟨q,by rw[YF]at hq;omega⟩
  ·exact KV (YjX hf)
theorem YhY{J:Nat}(h:∀n,2^28<n->n<2^29->Uk J n){n:Nat}(h1:1<=n)(h2:n<2^29):(∃q,n=2^q)\/Uk J n:=by
 have hlog:∃k,2^28<=n*2^k/\n*2^k<2^29:=by
  have:∀j,j<=29->∀n,1<=n->n<2^29->2^(29-j)<=2*n->∃k,2^28<=n*2^k/\n*2^k<2^29:=by
   intro j
   induction j with
   |zero=>intro _ n _ h2 h3;exact⟨0,by omega,by omega⟩
   |succ j ih=>
    intro hj n h1 h2 h3
    by_cases c:2^28<=n
    ·exact⟨0,by omega,by omega⟩
    ·obtain⟨k,k1,k2⟩:=ih (by omega) (2*n) (by omega) (by omega) (by
      have:29-j=29-(j+1)+1:=by omega
      rw[this,YF];omega)
     exact⟨k+1,by rw[YF];grind,by rw[YF];grind⟩
  exact this 29 (Yr _) n h1 h2 (by simp;omega)
 obtain⟨k,k1,k2⟩:=hlog
 exact Tj h k n k1 k2
theorem YoM{i:Nat}(h:i<524):LT.rR i=true:=by
 by_cases ca:i<132
 ·have g:=LT.a132 (i-0) (by omega)
  rwa [show 0+(i-0)=i by omega]at g
 by_cases cb:i<264
 ·have g:=LT.b132 (i-132) (by omega)
  rwa [show 132+(i-132)=i by omega]at g
 by_cases cc:i<394
 ·have g:=LT.c130 (i-264) (by omega)
  rwa [show 264+(i-264)=i by omega]at g
 have g:=LT.d130 (i-394) (by omega)
 rwa [show 394+(i-394)=i by omega]at g
theorem Yrq{m:Nat}(h1:2^28<m)(h2:m<2^29):LT.Tgt (2^(274+(166+44))) (166+44) m:=by
 have e28:(2:Nat)^28=268435456:=rfl
 have e29:(2:Nat)^29=536870912:=rfl
 rw[e28]at h1
 rw[e29]at h2
 by_cases c:(536870911-m)/512000<524
 ·have g:LT.r1 1000 (536870911-512000*((536870911-m)/512000))=true:=YoM c
  have hd:=KO (536870911-m) 512000
  have hm:=Kj (536870911-m) (show 512000>0 by decide)
  generalize(536870911-m)/512000=i at*
  exact LT.r1_is (by omega) g (by omega) (by omega)
 ·have hd:=KO (536870911-m) 512000
  exact LT.r1_is (by decide) LT.dl (by omega) (by omega)
theorem Yrr{J P x y m n:Nat}(hxy:y+P+1<=x)(hP:2<=P)(h:LT.Tgt (2^(J+P)) P n)(hm:Near (2^x) (2^y) J n m):False:=by
 obtain⟨a,b,q,l,u,h1,h2⟩:=h
 have l:2^a<=n^(2^(J+P)):=l
 have u:n^(2^(J+P))<=2^b:=u
 have e:n^(2^(J+P))=(n^(2^J))^(2^P):=by rw[<-Yl,Yo]
 rw[e]at l u
 have hbig:2*(2^P*2^y)<=2^x:=by
  rw[<-Yo,<-Nat.pow_succ']
  exact Kl (by decide) (by omega)
 obtain⟨g1,g2⟩:=near_pow (P:=2^P) hbig (Qv P) (Ja x) hm.1 hm.2
 have c1:2^a<=2^(m*2^P+1):=by rw[YF];omega
 have c2:2^(m*2^P)<=2^(b+1):=by rw[YF];omega
 have d1:=pow_of_le c1
 have d2:=pow_of_le c2
 have hQ:=Ja P
 generalize 2^P=Q at*
 rcases YV q m with h|h
 ·have:=Yu Q (show q+1<=m from h)
  omega
 ·have:=Yu Q h
  omega
theorem far274{J P n:Nat}(hJ:J=274)(hP:P=166+44)(h1:1<=n)(h2:n<2^29):(∃q,n=2^q)\/Uk J n:=
 YhY (fun n a b m hm=>Yrr (P:=P) (by omega) (by omega) (by rw[hJ,hP];exact Yrq a b) hm) h1 h2
end Go.Proofs.YtlhmikjnholpnaaGreatDoor.LB
namespace Go.Proofs.YtlhmikjnholpnaaGreatDoor
theorem YaV{n:Nat}(h1:1<=n)(h2:n<2^29):Qm 274 n:=B4 (by decide) h1 (Nat.lt_trans h2 (by decide)) (LB.far274 rfl rfl h1 h2)
theorem Ym9{J J' n:Nat}(h:Qm J n)(hJ:J'<=J):Qm J' n:=Yj h (Nat.add_le_add_left (Kl (by decide) (by omega)) _)
theorem YaW{n:Nat}(h1:1<=n)(h2:n<2^29):Qm 48 n:=Ym9 (YaV h1 h2) (by decide)
end Go.Proofs.YtlhmikjnholpnaaGreatDoor
namespace Go.Proofs.YtlhmikjnholpnaaGreatDoor
open Go Go.Vx
set_option maxRecDepth 100000
theorem YjY{n J P a b q x y m:Nat}(hxy:y+P+1<=x)(hP:2<=P)(l:2^a<=n^(2^(J+P)))(u:n^(2^(J+P))<=2^b)(h1:q*2^P+2<=a)(h2:b+2<=(q+1)*2^P)(hm:Near (2^x) (2^y) J n m):False:=by
 have e:n^(2^(J+P))=(n^(2^J))^(2^P):=by rw[<-Yl,Yo]
 rw[e]at l u
 have hbig:2*(2^P*2^y)<=2^x:=by
  rw[<-Yo,<-Nat.pow_succ']
  exact Kl (by decide) (by omega)
 obtain⟨g1,g2⟩:=LB.near_pow (P:=2^P) hbig (Qv P) (Ja x) hm.1 hm.2
 have c1:2^a<=2^(m*2^P+1):=by rw[YF];omega
 have c2:2^(m*2^P)<=2^(b+1):=by rw[YF];omega
 have d1:=LB.pow_of_le c1
 have d2:=LB.pow_of_le c2
 have hQ:=Ja P
 generalize 2^P=Q at*
 rcases YV q m with h|h
 ·have:=Yu Q (show q+1<=m from h)
  omega
 ·have:=Yu Q h
  omega
def glT(D f n:Nat):Nat×Nat:=gl (2^D) false f (n*2^(D-lgK n)) (n*2^(D-lgK n)) (lgK n)
theorem Ykr{D f n:Nat}(h1:1<=n)(hD:lgK n<=D):2^(glT D f n).1<=n^(2^f)/\n^(2^f)<=2^(glT D f n).2:=by
 obtain⟨m1,m2,m3⟩:=Gg (D:=D) h1 hD
 exact BE _ false (YD (by decide)) f _ _ _ n (YB m3) (YB m3.symm) m1 (JN m2)
def Lr(D f P n:Nat):Bool:=Y8 ((glT D f n).1/2^P*2^P+2) (glT D f n).1&&Y8 ((glT D f n).2+2) (((glT D f n).1/2^P+1)*2^P)&&Y8 (lgK n) D
theorem Ykq{D J P n:Nat}(hP:2<=P/\P<=1000)(h1:1<=n)(h:Lr D (J+P) P n=true):Uk J n:=by
 intro m hm
 simp only[Lr,YS]at h
 have a:=KI h.1.1
 have b:=KI h.1.2
 have c:=KI h.2
 obtain⟨l,u⟩:=Ykr (f:=J+P) h1 c
 exact YjY (by omega) hP.1 l u a b hm
theorem Gi{D J P n:Nat}(hP:2<=P/\P<=1000)(hJ:J<=500)(h1:1<=n)(h2:n<2^61)(h:Lr D (J+P) P n=true):Qm J n:=B4 hJ h1 h2 (KV (Ykq hP h1 h))
theorem Ym5:Qm 100 3:=Gi (D:=400) (J:=100) (P:=70) (by decide) (by decide) (by decide) (by decide) (by decide+kernel)
theorem Ym6:Qm 100 5:=Gi (D:=400) (J:=100) (P:=70) (by decide) (by decide) (by decide) (by decide) (by decide+kernel)
theorem Ym7:Qm 100 7:=Gi (D:=400) (J:=100) (P:=70) (by decide) (by decide) (by decide) (by decide) (by decide+kernel)
theorem Ym3:Qm 100 11:=Gi (D:=400) (J:=100) (P:=70) (by decide) (by decide) (by decide) (by decide) (by decide+kernel)
theorem Ym4:Qm 100 13:=Gi (D:=400) (J:=100) (P:=70) (by decide) (by decide) (by decide) (by decide) (by decide+kernel)
theorem Ym8:Qm 48 331300000000:=Gi (D:=400) (J:=48) (P:=70) (by decide) (by decide) (by decide) (by decide) (by decide+kernel)
theorem Yka:∀n m:Nat,n^4=2^m->∃q,n=2^q:=by
 intro n
 induction n using Nat.strongRecOn with
 |_ n ih=>
  intro m h
  by_cases h1:n<=1
  ·refine⟨0,?_⟩
   rcases(show n=0\/n=1 by omega)with rfl|rfl
   ·have:=Ja m
    simp at h
    omega
   ·rfl
  ·have hm:4<=m:=by
    refine ZK fun hh=>?_
    have a:=YM (show 2<=n by omega) 4
    have b:(2:Nat)^m<2^4:=(Nat.pow_lt_pow_iff_right (by decide)).2 hh
    omega
   obtain⟨d,rfl⟩:∃d,m=d+4:=⟨m-4,by omega⟩
   rw[Yo]at h
   have hev:n%2=0:=by
    refine Classical.byContradiction fun ho=>?_
    obtain⟨j,rfl⟩:∃j,n=2*j+1:=⟨n/2,by omega⟩
    have e:(2*j+1)^4=2*(8*j^4+16*j^3+12*j^2+4*j)+1:=by grind
    omega
   obtain⟨j,rfl⟩:∃j,n=2*j:=⟨n/2,by omega⟩
   rw[Yt]at h
   have h2:j^4=2^d:=by omega
   obtain⟨q,hq⟩:=ih j (by omega) d h2
   exact⟨q+1,by rw[hq,YF,Yk]⟩
theorem YjZ{n x y d m:Nat}(hx:x=y+d)(hd:250<=d)(h2:n<2^41)(hm:Near (2^x) (2^y) 2 n m):∃q,n=2^q:=by
 obtain⟨a,b⟩:=hm
 have hW:=Ja y
 have e:(2:Nat)^x=2^y*2^d:=by rw[hx,Yo]
 rw[e]at a b
 have h4:n^2^2=n^4:=rfl
 rw[h4]at a b
 have hn4:n^4<2^164:=by
  have:=Nat.pow_lt_pow_left h2 (show 4≠0 by decide)
  rwa [<-Yl]at this
 have hD:(2:Nat)^250<=2^d:=Kl (by decide) hd
 have h3:(2:Nat)^165*2^85=2^250:=rfl
 generalize hN:n^4=N at*
 generalize 2^y=W at*
 generalize hDD:(2:Nat)^d=D at*
 generalize hR:(2:Nat)^m=R at*
 have a':R*D<=N*D+R:=by
  refine WV (c:=W) ?_ hW
  grind
 have b':N*D<=R*D+R:=by
  refine WV (c:=W) ?_ hW
  grind
 have hRs:R<2^165:=by
  refine Nat.lt_of_not_le fun hh=>?_
  have k1:=Yu D (show N+1<=2^164 from hn4)
  have k2:=Yu D hh
  have k3:2*R<=R*D:=by
   have:2<=D:=by omega
   rw[Yk R D];exact Yu R this
  have e1:(N+1)*D=N*D+D:=by rw[YN,Kc]
  have e2:(2:Nat)^165*D=2*(2^164*D):=by rw[YF,WW,Yk 2]
  have:0<D:=by omega
  omega
 have c1:R<=N:=by
  refine ZK fun hh=>?_
  have:=Yu D (show N+1<=R from hh)
  rw[YN,Kc]at this
  omega
 have c2:N<=R:=by
  refine ZK fun hh=>?_
  have:=Yu D (show R+1<=N from hh)
  rw[YN,Kc]at this
  omega
 exact Yka n m (by rw[hN,hR];omega)
theorem YaU{n:Nat}(h1:1<=n)(h2:n<2^41):Qm 2 n:=by
 by_cases h:∃q,n=2^q
 ·exact B4 (by decide) h1 (Nat.lt_trans h2 (by decide)) (Jo h)
 ·exact B4 (by decide) h1 (Nat.lt_trans h2 (by decide)) (KV fun m hm=>h (YjZ (x:=4160) (y:=2160) (d:=2000) rfl (by decide) h2 hm))
def wP(n:Nat):Nat:=if n=2 then 0 else if n=3\/n=5\/n=7\/n=11\/n=13 then 1 else if n<2^29\/n=331300000000 then 2^52 else 2^98
theorem O2:JZ ((2:Nat):Int)=true:=by decide
theorem Yak{n p:Nat}(h:JZ (n:Int)=true):(lN n p).2=(lN n p).1:=by
 unfold lN
 rw[if_pos h]
theorem Yt0{n:Nat}(h1:1<=n)(h2:n<2^41):hiN n<=loN n+wP n*DD:=by
 unfold wP
 split
 ·rename_i e
  subst e
  have e:hiN 2=loN 2:=Yak O2
  rw[e]
  exact Nat.le_add_right _ _
 ·split
  ·rename_i h
   rw[Kc]
   rcases h with rfl|rfl|rfl|rfl|rfl
   ·exact M0 Ym5
   ·exact M0 Ym6
   ·exact M0 Ym7
   ·exact M0 Ym3
   ·exact M0 Ym4
  ·split
   ·rename_i h
    have hn:Qm 48 n:=by
     rcases h with h|rfl
     ·exact YaW h1 h
     ·exact Ym8
    rw[<-KB_is.2]
    exact YaT hn
   ·have:=L8 (J':=100) (YaU h1 h2) (by decide) (by decide)
    rw[show 100-2=98 from rfl]at this
    unfold hiN loN DD
    exact this
theorem YeE{n:Nat}(h1:1<=n)(h2:n<2^41):(lN n 2048).2<=(lN n 2048).1+wP n*2^(2048-100):=by
 have h:=Yt0 h1 h2
 unfold hiN loN DD at h
 exact h
theorem QA(g:Nat->Nat):∀a b:List (Int×Int),upS g (a++b)=upS g a+upS g b/\dnS g (a++b)=dnS g a+dnS g b
 | [],b=>by simp [upS,dnS]
 |x::a,b=>by
  obtain⟨h1,h2⟩:=QA g a b
  rw[ZH,upS,dnS,upS,dnS,h1,h2]
  omega
theorem Xf:∀a b:List (Int×Int),upP (a++b)=upP a*upP b/\dnP (a++b)=dnP a*dnP b
 | [],b=>by simp [upP,dnP]
 |x::a,b=>by
  obtain⟨h1,h2⟩:=Xf a b
  rw[ZH,upP,dnP,upP,dnP,h1,h2]
  simp only[Yx,and_self]
theorem Vv(g:Nat->Nat){l:List (Int×Int)}{s den k:Nat}(hd:1<=den):upS g (atF (l++[((s:Int),(den:Int))]) den k)=upS g l+g s*den/\dnS g (atF (l++[((s:Int),(den:Int))]) den k)=dnS g l+g k*den:=by
 unfold atF
 rw[(QA g _ _).1,(QA g _ _).2,(QA g _ _).1,(QA g _ _).2]
 have h1:¬((den:Int)<0):=by omega
 have h2:(-(den:Int))<0:=by omega
 simp only[upS,dnS,if_neg h1,if_pos h2,Yh,JW]
 omega
theorem ZN{l:List (Int×Int)}{s den k:Nat}(hd:1<=den):upP (atF (l++[((s:Int),(den:Int))]) den k)=upP l*s^den/\dnP (atF (l++[((s:Int),(den:Int))]) den k)=dnP l*k^den:=by
 unfold atF
 rw[(Xf _ _).1,(Xf _ _).2,(Xf _ _).1,(Xf _ _).2]
 have h1:¬((den:Int)<0):=by omega
 have h2:(-(den:Int))<0:=by omega
 simp only[upP,dnP,if_neg h1,if_pos h2,Yh,JW,Kb,Kc,and_self]
def isS(l:List (Int×Int))(s den k:Nat):Prop:=dnS loN l+loN k*den<=upS hiN l+hiN s*den
theorem HB{l:List (Int×Int)}{s den k:Nat}(hl:∀x,x∈l->okU x)(hs:1<=s/\s<=1000000000000)(hd:1<=den/\den<=1000000)(hk:1<=k/\k<=1000000000001):∀x,x∈atF (l++[((s:Int),(den:Int))]) den k->okU x:=by
 intro x hx
 simp only[atF,KE,JD]at hx
 rcases hx with(hx|rfl) |rfl
 ·exact hl x hx
 ·unfold okU;simp only;omega
 ·unfold okU;simp only;omega
theorem O1{l:List (Int×Int)}{s den k:Nat}(hl:∀x,x∈l->okU x)(hn:l.length<=16)(hs:1<=s/\s<=1000000000000)(hd:1<=den/\den<=1000000)(hk:1<=k/\k<=1000000000001):isF (l++[((s:Int),(den:Int))]) den k=true↔isS l s den k:=by
 have h:=P8 (HB hl hs hd hk) (by simp [atF];omega)
 rw[(Vv hiN hd.1).1,(Vv loN hd.1).2]at h
 unfold isF isS
 rw[Qt,decide_eq_true_eq,decide_eq_true_eq,h]
 omega
def QJ:Nat:=2^100
theorem V8:QJ=2^100:=rfl
theorem Pn{x:Int×Int}(h:okU x):x.1.toNat<2^41:=by
 have:=h.2.1
 omega
theorem YkZ{l:List (Int×Int)}{s den k:Nat}(hl:∀x,x∈l->okU x)(hn:l.length<=16)(hs:1<=s/\s<=1000000000000)(hd:1<=den/\den<=1000000)(hk:1<=k/\k<=1000000000001)(h:isS l s den k):
 (dnP l*k^den)^QJ<=(upP l*s^den)^QJ*2^(upS wP l+dnS wP l+(wP s+wP k)*den):=by
 have hl2:=HB hl hs hd hk
 by_cases c:dnP l*k^den<=upP l*s^den
 ·exact Yj (YM c _) (Nat.le_mul_of_pos_right _ (Ja _))
 ·have hu:Und (atF (l++[((s:Int),(den:Int))]) den k) 2048:=by
   refine⟨ZK fun hh=>?_,?_⟩
   ·obtain⟨⟨a1,a2⟩,b1,b2⟩:=Vj (K:=KB) (g:=loN) (h:=hiN) (fun n k1 k2=>G7 k1 k2) _ hl2
    have:=W8 b2 a1 hh
    rw[(ZN hd.1).1,(ZN hd.1).2]at this
    omega
   ·show dnS loN _<=upS hiN _
    rw[(Vv hiN hd.1).1,(Vv loN hd.1).2]
    exact h
  have:=Rx (J:=100) (w:=wP) (by decide) hl2 (fun x hx=>YeE (WL (hl2 x hx)).1 (Pn (hl2 x hx))) hu
  rw[(ZN hd.1).1,(ZN hd.1).2,(Vv wP hd.1).1,(Vv wP hd.1).2,<-V8]at this
  rw[YN,show upS wP l+dnS wP l+(wP s*den+wP k*den)=upS wP l+wP s*den+(dnS wP l+wP k*den)by omega]
  exact this
theorem Pb{X Y k den Q e t c:Nat}(hQ:1<=Q)(het:e*t<=Q)(ht:1<=t)(h:(Y*k^den)^Q<=X^Q*2^(den*(c*Q+e))):Y*(k*t)^den<=X*(2^c*(t+1))^den:=by
 have h1:2^e*t^Q<=(t+1)^Q:=by
  have a:=YM (Ru t ht) e
  rw[Yt,<-Yl,<-Yl,Yk t e]at a
  obtain⟨d,hd⟩:∃d,Q=e*t+d:=⟨Q-e*t,by omega⟩
  rw[hd,Yo,Yo,<-Yx]
  exact YP a (YM (Nat.le_succ t) d)
 have h2:=YM h1 den
 rw[Yt,<-Yl,<-Yl,<-Yl]at h2
 refine(XY (show Q≠0 by omega)).1 ?_
 have h3:=Yu (t^(Q*den)) h
 have e1:(Y*(k*t)^den)^Q=(Y*k^den)^Q*t^(Q*den):=by
  rw[Yt k,<-Yx,Yt _ (t^den),<-Yl t,Yk den Q]
 have e2:(X*(2^c*(t+1))^den)^Q=X^Q*(2^(den*(c*Q))*(t+1)^(Q*den)):=by
  rw[Yt X,<-Yl,Yt (2^c),<-Yl,Yk den Q]
  congr 3
  rw[Yk Q den,Jd]
 rw[e1,e2]
 refine Yj h3 ?_
 rw[Yx]
 refine Yz _ ?_
 rw[Y9,Yo,Yx]
 refine Yz _ ?_
 rw[Yk den e]
 exact h2
theorem YmV{k a b c:Nat}(hk:k<=2^a)(h:a+(b+1)<=c):k*(2^b+1)<=2^c:=by
 have e1:2^b+1<=2^(b+1):=by have:=Ja b;rw[YF];omega
 have e2:=YP hk e1
 rw[<-Yo]at e2
 exact Yj e2 (Kl (by decide) h)
theorem YmO{k K m c lo hi:Nat}(h1:1<=k)(hmc:m=c+1)(hk:k*m<=K)(g1:2^lo<=k^K)(g2:(k+1)^K<=2^hi):lo+c<hi:=by
 have a:=YM (Ru k h1) m
 rw[Yt,<-Yl,<-Yl]at a
 obtain⟨d,hd⟩:∃d,K=k*m+d:=⟨K-k*m,by omega⟩
 have b:2^m*k^K<=(k+1)^K:=by
  rw[hd,Yo,Yo,<-Yx]
  exact YP a (YM (Nat.le_succ k) d)
 have c1:2^(m+lo)<=2^hi:=by
  rw[Yo]
  exact Yj (Yz _ g1) (Yj b g2)
 have:=LB.pow_of_le c1
 omega
theorem Ye1{k:Nat}(h:k<=2^29):k*(C48+1)<=KB:=by
 have h:=YmV (b:=2048-48) (c:=2048) h (by decide)
 unfold C48 KB
 exact h
theorem Ymn{k:Nat}(h1:1<=k)(h2:k+1<2^29):loN k+C48<hiN (k+1):=
 YmO h1 rfl (Ye1 (by omega)) (G7 h1 (by omega)).1 (G7 (Nat.le_add_left 1 k) (by omega)).2
theorem Ymm{k:Nat}(h1:1<=k)(h2:k+1<2^29):loN k<=loN (k+1):=by
 have s:=Ymn h1 h2
 have hn:=YaT (YaW (n:=k+1) (Nat.le_add_left 1 k) h2)
 omega
theorem YaB:∀{d k:Nat},1<=k->k+d<2^29->loN k<=loN (k+d)
 |0,_,_,_=>Yr _
 |d+1,k,h1,h2=>Yj (YaB (d:=d) h1 (by omega)) (Ymm (k:=k+d) (by omega) (by omega))
theorem O6{l:List (Int×Int)}{s den k m:Nat}(hk:1<=k)(hkm:k<=m)(hm:m<2^29)(h:isS l s den m):isS l s den k:=by
 obtain⟨d,rfl⟩:∃d,m=k+d:=⟨m-k,by omega⟩
 have:=Yu den (YaB hk hm)
 unfold isS at*
 omega
def FC(l:List (Int×Int))(s den:Nat):Prop:=upS wP l+dnS wP l+wP s*den<=den*(2^54+2^20)
theorem O7{l:List (Int×Int)}{s den k B:Nat}(hl:∀x,x∈l->okU x)(hn:l.length<=16)(hs:1<=s/\s<=1000000000000)(hd:1<=den/\den<=1000000)(hk:1<=k/\k<=1000000000001)(hw:FC l s den)(hY:0<dnP l)
 (hB:upP l*s^den<dnP l*B^den)(hB2:B<=450000000)(h:isS l s den k):k<2^29/\(dnP l*k^den)^QJ<=(upP l*s^den)^QJ*2^(den*2^55):=by
 have h0:=YkZ hl hn hs hd hk h
 have wk:wP k<=2^98:=by
  unfold wP
  split
  ·decide
  ·split
   ·decide
   ·split
    ·decide
    ·decide
 have hk2:k<2^29:=by
  have e1:upS wP l+dnS wP l+(wP s+wP k)*den<=den*(2^98+2^55):=by
   have:=Yz den wk
   unfold FC at hw
   rw[YN,Y9,Yk (wP k)]
   omega
  have h1:=Yj h0 (Yz _ (Kl (show 1<=2 by decide) e1))
  obtain⟨q,hq⟩:∃q,q=2^98:=⟨_,rfl⟩
  have hQ4:QJ=4*q:=by rw[hq,V8]
  have h1':(dnP l^4*(k^4)^den)^q<=(upP l^4*(s^4)^den)^q*2^(den*(1*q+2^55)):=by
   have e2:∀u v:Nat,(u^4*(v^4)^den)^q=(u*v^den)^QJ:=fun u v=>by
    rw[hQ4,Yl (u*v^den),Yt u,<-Yl v,<-Yl v,Yk 4 den]
   rw[e2,e2,Kc,hq]
   exact h1
  have h2:=Pb (t:=2^40) (by rw[hq];decide) (by rw[hq];decide) (by decide) h1'
  have h3:dnP l^4*(k^4*2^40)^den<dnP l^4*(B^4*(2^1*(2^40+1)))^den:=by
   refine Jn h2 ?_
   rw[Yt (B^4),<-Yx]
   refine ZL ?_ (YD (by decide))
   have e3:∀u v:Nat,u^4*(v^4)^den=(u*v^den)^4:=fun u v=>by
    rw[Yt u,<-Yl v,<-Yl v,Yk 4 den]
   rw[e3,e3]
   exact Nat.pow_lt_pow_left hB (by decide)
  have h4:=Nat.lt_of_mul_lt_mul_left h3
  have h5:=(Nat.pow_lt_pow_iff_left (by omega)).1 h4
  have h6:=YM hB2 4
  have h7:k^4<(2^29)^4:=by
   have:(450000000:Nat)^4*(2^1*(2^40+1))<=(2^29)^4*2^40:=by decide
   have:=Yu (2^1*(2^40+1)) h6
   omega
  exact(Nat.pow_lt_pow_iff_left (show 4≠0 by decide)).1 h7
 refine⟨hk2,?_⟩
 have wk2:wP k<=2^52:=by
  unfold wP
  split
  ·decide
  ·split
   ·decide
   ·rw[if_pos (Jo hk2)]
    exact Yr _
 have e1:upS wP l+dnS wP l+(wP s+wP k)*den<=den*2^55:=by
  have:=Yz den wk2
  unfold FC at hw
  rw[YN,Yk (wP k)]
  omega
 exact Yj h0 (Yz _ (Kl (show 1<=2 by decide) e1))
structure PowR (l:List (Int×Int)) (s den B r:Nat) (ex:Bool):Prop where
 lt:r+1<2^29
 leB:r<=B
 seg:∀k,1<=k->k<2^29->(isS l s den k↔k<=r)
 up:upP l*s^den<dnP l*(r+1)^den
 tru:∀k,1<=k->k<2^29->dnP l*k^den<=upP l*s^den->k<=r
 near:1<=r->(dnP l*r^den)^QJ<=(upP l*s^den)^QJ*2^(den*2^55)
 ex_iff:ex=true↔1<=r/\upP l*s^den=dnP l*r^den
theorem O5{l:List (Int×Int)}{s den k:Nat}(hl:∀x,x∈l->okU x)(hs:1<=s/\s<=1000000000000)(hd:1<=den/\den<=1000000)(hk:1<=k/\k<=1000000000001)(h:¬isS l s den k):upP l*s^den<dnP l*k^den:=by
 have hl2:=HB hl hs hd hk
 obtain⟨⟨a1,a2⟩,b1,b2⟩:=Vj (K:=KB) (g:=loN) (h:=hiN) (fun n k1 k2=>G7 k1 k2) _ hl2
 have hlt:upS hiN (atF (l++[((s:Int),(den:Int))]) den k)<dnS loN (atF (l++[((s:Int),(den:Int))]) den k):=by
  rw[(Vv hiN hd.1).1,(Vv loN hd.1).2]
  exact Nat.lt_of_not_le h
 have:=W8 a2 b1 hlt
 rwa [(ZN hd.1).1,(ZN hd.1).2]at this
theorem Ez{t:Int->Bool}:∀(f:Nat)(a b:Int),a<b->b-a<=2^f->(KQ f t a b=a\/t (KQ f t a b)=true)/\(KQ f t a b+1=b\/t (KQ f t a b+1)=false):=by
 intro f
 induction f with
 |zero=>
  intro a b h1 h2
  rw[Int.pow_zero]at h2
  rw[KQ]
  exact⟨Jo rfl,Jo (by omega)⟩
 |succ f ih=>
  intro a b h1 h2
  rw[KQ]
  by_cases c:1<b-a
  ·rw[if_pos c]
   have e:(2:Int)^(f+1)=2*2^f:=by rw[Int.pow_succ];omega
   rw[e]at h2
   by_cases d:t (a+(b-a)/2)=true
   ·rw[if_pos d]
    obtain⟨i1,i2⟩:=ih (a+(b-a)/2) b (by omega) (by omega)
    refine⟨?_,i2⟩
    rcases i1 with i1|i1
    ·exact KV (by rw[i1];exact d)
    ·exact KV i1
   ·rw[if_neg d]
    obtain⟨i1,i2⟩:=ih a (a+(b-a)/2) (by omega) (by omega)
    refine⟨i1,?_⟩
    rcases i2 with i2|i2
    ·exact KV (by rw[i2];simpa using d)
    ·exact KV i2
  ·rw[if_neg c]
   exact⟨Jo rfl,Jo (by omega)⟩
theorem Ey{t:Int->Bool}:∀(f:Nat)(a b:Int),a<b->a<=KQ f t a b/\KQ f t a b<b:=by
 intro f
 induction f with
 |zero=>intro a b h;rw[KQ];omega
 |succ f ih=>
  intro a b h
  rw[KQ]
  by_cases c:1<b-a
  ·rw[if_pos c]
   by_cases d:t (a+(b-a)/2)=true
   ·rw[if_pos d]
    have:=ih (a+(b-a)/2) b (by omega)
    omega
   ·rw[if_neg d]
    have:=ih a (a+(b-a)/2) (by omega)
    omega
  ·rw[if_neg c];omega
theorem Yn1{l:List (Int×Int)}{s den B:Nat}(hc:Xl l=0)(hl:∀x,x∈l->okU x)(hs:1<=s/\s<=1000000000000)(hd:1<=den/\den<=1000000)(hw:FC l s den)(hY:0<dnP l)
 (hB:upP l*s^den<dnP l*B^den)(hB2:B<=450000000):∃r:Nat,(XO s l den).1=(r:Int)/\PowR l s den B r (XO s l den).2.1:=by
 have hn:=(EL hc).2
 obtain⟨f,hf⟩:∃f,f=isF (l++[((s:Int),(den:Int))]) (den:Int):=⟨_,rfl⟩
 have hfk:∀k:Nat,1<=k->k<=1000000000001->(f (k:Int)=true↔isS l s den k):=fun k h1 h2=>by
  rw[hf];exact O1 hl hn hs hd ⟨h1,h2⟩
 have htop:f 1000000000001=false:=by
  cases hh:f 1000000000001 with
  |false=>rfl
  |true=>
   have:=O7 hl hn hs hd (k:=1000000000001) (by decide) hw hY hB hB2 ((hfk 1000000000001 (by decide) (by decide)).1 hh)
   exact absurd this.1 (by decide)
 have hbad:Ub (s:Int) (den:Int)=false:=by
  simp only[Ub,JH,decide_eq_false_iff_not];omega
 have e1:XO (s:Int) l (den:Int)=(KQ 64 f 0 1000000000001,decide (0<KQ 64 f 0 1000000000001)&&Wq (atF (l++[((s:Int),(den:Int))]) den (KQ 64 f 0 1000000000001)),0):=by
  unfold XO
  rw[if_neg (by rw[hc];decide),if_neg (by rw[hbad];decide)]
  unfold Al
  rw[<-hf,if_neg (by rw[htop];decide)]
 obtain⟨s1,s2⟩:=Ez (t:=f) 64 0 1000000000001 (by decide) (by decide)
 have hr:=Ey (t:=f) 64 0 1000000000001 (by decide)
 rw[e1]
 generalize KQ 64 f 0 1000000000001=b at*
 obtain⟨r,rfl⟩:∃r:Nat,b=(r:Int):=⟨b.toNat,by omega⟩
 have hr1:1<=r->isS l s den r:=fun h=>by
  rcases s1 with c|c
  ·omega
  ·exact(hfk r h (by omega)).1 c
 have hlt:r<2^29/\(1<=r->(dnP l*r^den)^QJ<=(upP l*s^den)^QJ*2^(den*2^55)):=by
  rcases KU r with h0|h0
  ·exact⟨by omega,fun h=>by omega⟩
  ·have:=O7 hl hn hs hd ⟨h0,by omega⟩ hw hY hB hB2 (hr1 h0)
   exact⟨this.1,fun _=>this.2⟩
 have hr2:¬isS l s den (r+1):=fun hh=>by
  have:=(hfk (r+1) (by omega) (by omega)).2 hh
  rcases s2 with c|c
  ·omega
  ·rw[WT,show((1:Nat):Int)=1 from rfl,c]at this
   cases this
 have hup:=O5 hl hs hd (k:=r+1) (by omega) hr2
 have hleB:r<=B:=by
  rcases KU r with h0|h0
  ·omega
  ·have h1:=hlt.2 h0
   have h1':(dnP l*r^den)^QJ<=(upP l*s^den)^QJ*2^(den*(0*QJ+2^55)):=by rw[JX,KL];exact h1
   have h2:=Pb (t:=2^40) (show 1<=QJ by rw[V8];decide) (by rw[V8];decide) (by decide) h1'
   have h3:dnP l*(r*2^40)^den<dnP l*(B*(2^0*(2^40+1)))^den:=by
    refine Jn h2 ?_
    rw[Yt B,<-Yx]
    exact ZL hB (YD (by decide))
   have h5:=(Nat.pow_lt_pow_iff_left (by omega)).1 (Nat.lt_of_mul_lt_mul_left h3)
   omega
 have hlt2:r+1<2^29:=by omega
 have hseg:∀k,1<=k->k<2^29->isS l s den k->k<=r:=fun k k1 k2 hk=>by
  refine ZK fun hh=>hr2 ?_
  exact O6 (by omega) (show r+1<=k from hh) k2 hk
 refine⟨r,rfl,⟨hlt2,hleB,fun k k1 k2=>⟨hseg k k1 k2,fun hk=>?_⟩,hup,fun k k1 k2 hk=>?_,hlt.2,?_⟩⟩
 ·exact O6 k1 hk hlt.1 (hr1 (by omega))
 ·refine Classical.byContradiction fun hh=>?_
  have:¬isS l s den k:=fun h=>hh (hseg k k1 k2 h)
  have:=O5 hl hs hd (k:=k) (by omega) this
  omega
 ·rw[YS,decide_eq_true_eq]
  by_cases h0:1<=r
  ·rw[YnD (HB hl hs hd ⟨h0,by omega⟩) (by simp [atF];omega),(ZN hd.1).1,(ZN hd.1).2]
   omega
  ·omega
def UP(a b c:Int):Nat:=2^a.toNat*3^b.toNat*5^c.toNat
theorem KM(a b c:Int):0<UP a b c:=Y3 (Y3 (YD (by decide)) (YD (by decide))) (YD (by decide))
def Le0(a b c:Int):Prop:=UP a b c<=UP (-a) (-b) (-c)
theorem GM(a b c x y z:Int):UP (a+x) (b+y) (c+z)*(UP (-a) (-b) (-c)*UP (-x) (-y) (-z))=UP (-(a+x)) (-(b+y)) (-(c+z))*(UP a b c*UP x y z):=by
 have key:∀(p:Nat)(u v:Int),p^(u+v).toNat*(p^(-u).toNat*p^(-v).toNat)=p^(-(u+v)).toNat*(p^u.toNat*p^v.toNat):=fun p u v=>by
  rw[<-Yo,<-Yo,<-Yo,<-Yo];congr 1;omega
 have k2:=key 2 a x
 have k3:=key 3 b y
 have k5:=key 5 c z
 unfold UP
 generalize 2^(a+x).toNat=a1 at*
 generalize 2^(-(a+x)).toNat=a2 at*
 generalize 2^(-a).toNat=a3 at*
 generalize 2^(-x).toNat=a4 at*
 generalize 2^a.toNat=a5 at*
 generalize 2^x.toNat=a6 at*
 generalize 3^(b+y).toNat=b1 at*
 generalize 3^(-(b+y)).toNat=b2 at*
 generalize 3^(-b).toNat=b3 at*
 generalize 3^(-y).toNat=b4 at*
 generalize 3^b.toNat=b5 at*
 generalize 3^y.toNat=b6 at*
 generalize 5^(c+z).toNat=c1 at*
 generalize 5^(-(c+z)).toNat=c2 at*
 generalize 5^(-c).toNat=c3 at*
 generalize 5^(-z).toNat=c4 at*
 generalize 5^c.toNat=c5 at*
 generalize 5^z.toNat=c6 at*
 have e1:a1*b1*c1*(a3*b3*c3*(a4*b4*c4))=(a1*(a3*a4))*(b1*(b3*b4))*(c1*(c3*c4)):=by grind
 rw[e1,k2,k3,k5];grind
theorem BP{a b c x y z:Int}(h1:Le0 a b c)(h2:Le0 x y z):Le0 (a+x) (b+y) (c+z):=by
 unfold Le0 at*
 have e:=GM a b c x y z
 have p1:=KM (-a) (-b) (-c)
 have p2:=KM (-x) (-y) (-z)
 refine Kr (c:=UP (-a) (-b) (-c)*UP (-x) (-y) (-z)) ?_ (Y3 p1 p2)
 rw[e]
 exact Yz _ (YP h1 h2)
theorem Qw(m:Nat)(a b c:Int):UP (m*a) (m*b) (m*c)=UP a b c^m:=by
 have key:∀(p:Nat)(u:Int),p^((m:Int)*u).toNat=(p^u.toNat)^m:=fun p u=>by
  rw[<-Yl]
  congr 1
  rcases Int.le_total 0 u with h|h
  ·obtain⟨v,rfl⟩:∃v:Nat,u=v:=⟨u.toNat,by omega⟩
   rw[<-JV,Yh,Yh,Yk]
  ·have h1:(m:Int)*u<=0:=Int.mul_nonpos_of_nonneg_of_nonpos (by omega) h
   rw[show u.toNat=0 by omega,show((m:Int)*u).toNat=0 by omega,JX]
 unfold UP
 rw[key,key,key,Yt,Yt]
theorem VL{m:Nat}(hm:1<=m){a b c:Int}:Le0 (m*a) (m*b) (m*c)↔Le0 a b c:=by
 unfold Le0
 rw[<-KC,<-KC,<-KC,Qw,Qw]
 exact XY (by omega)
theorem U9{a b c:Int}(h:Le0 a b c):15*a<=24*(b.natAbs:Int)+35*(c.natAbs:Int):=by
 rcases Int.le_total a 0 with h0|h0
 ·omega
 ·unfold Le0 UP at h
  rw[show(-a).toNat=0 by omega,JO,Kc]at h
  have h1:2^a.toNat<=3^(-b).toNat*5^(-c).toNat:=by
   refine Yj ?_ h
   rw[Yx]
   exact Nat.le_mul_of_pos_right _ (Y3 (YD (by decide)) (YD (by decide)))
  have h2:=YM h1 15
  rw[Yt,<-Yl,<-Yl,<-Yl,Yk _ 15,Yk _ 15,Yk _ 15,Yl 3,Yl 5]at h2
  have h3:(3^15)^(-b).toNat<=(2^24)^(-b).toNat:=YM (by decide) _
  have h5:(5^15)^(-c).toNat<=(2^35)^(-c).toNat:=YM (by decide) _
  have h6:=Yj h2 (YP h3 h5)
  rw[<-Yl,<-Yl,<-Yo]at h6
  have:=LB.pow_of_le h6
  omega
theorem RA(p:Nat)(n:Int):upP (tm1 (p:Int) n)=p^n.toNat/\dnP (tm1 (p:Int) n)=p^(-n).toNat:=by
 unfold tm1
 split
 ·rename_i h
  rw[h]
  simp [upP,dnP]
 ·by_cases c:n<0
  ·simp only[upP,dnP,if_pos c,Yh,Kb]
   exact⟨by rw[show n.toNat=0 by omega,JO],trivial⟩
  ·simp only[upP,dnP,if_neg c,Yh,Kb]
   exact⟨trivial,by rw[show(-n).toNat=0 by omega,JO]⟩
theorem NG{L:Int}{r:Rt}{a b c:Int}(h:Rep L r a b c):upP (Ys r)=UP r.a r.b r.c/\dnP (Ys r)=UP (-r.a) (-r.b) (-r.c):=by
 have z:∀p:Int,tm1 p 0=[]:=fun p=>rfl
 unfold Ys
 rw[h.hd,h.he,h.hf,z,z,z]
 simp only[Z9]
 rw[(Xf _ _).1,(Xf _ _).1,(Xf _ _).2,(Xf _ _).2]
 have t2:=RA 2 r.a
 have t3:=RA 3 r.b
 have t5:=RA 5 r.c
 unfold UP
 rw[<-t2.1,<-t2.2,<-t3.1,<-t3.2,<-t5.1,<-t5.2]
 exact⟨(Yx ..).symm,(Yx ..).symm⟩
theorem Fz(w:Nat->Nat)(p:Nat)(n:Int):upS w (tm1 (p:Int) n)+dnS w (tm1 (p:Int) n)=w p*n.natAbs:=by
 unfold tm1
 split
 ·rename_i h
  rw[h]
  simp [upS,dnS]
 ·by_cases c:n<0
  ·simp only[upS,dnS,if_pos c,Yh]
   rw[show(-n).toNat=n.natAbs by omega];omega
  ·simp only[upS,dnS,if_neg c,Yh]
   rw[show n.toNat=n.natAbs by omega];omega
theorem wP_2:wP 2=0:=rfl
theorem wP_3:wP 3=1:=rfl
theorem wP_5:wP 5=1:=rfl
theorem YeN{L:Int}{r:Rt}{a b c:Int}(h:Rep L r a b c):upS wP (Ys r)+dnS wP (Ys r)<=200000:=by
 have z:∀p:Int,tm1 p 0=[]:=fun p=>rfl
 unfold Ys
 rw[h.hd,h.he,h.hf,z,z,z]
 simp only[Z9]
 rw[(QA wP _ _).1,(QA wP _ _).1,(QA wP _ _).2,(QA wP _ _).2]
 have t2:=Fz wP 2 r.a
 have t3:=Fz wP 3 r.b
 have t5:=Fz wP 5 r.c
 rw[wP_2]at t2
 rw[wP_3]at t3
 rw[wP_5]at t5
 obtain⟨_,b1,b2,b3,_⟩:=WY h.ok
 have b2:=QQ b2
 have b3:=QQ b3
 have e2:((2:Nat):Int)=2:=rfl
 have e3:((3:Nat):Int)=3:=rfl
 have e5:((5:Nat):Int)=5:=rfl
 rw[e2]at t2
 rw[e3]at t3
 rw[e5]at t5
 omega
theorem YqI{l:List (Int×Int)}(hl:∀x,x∈l->okU x)(hn:l.length<=20)(h:0<=Xd l):dnP l^QJ<=upP l^QJ*2^(upS wP l+dnS wP l):=by
 have h2:=(P8 hl hn).1 h
 by_cases c:dnP l<=upP l
 ·exact Yj (YM c _) (Nat.le_mul_of_pos_right _ (Ja _))
 ·have hu:Und l 2048:=by
   refine⟨ZK fun hh=>?_,h2⟩
   obtain⟨⟨a1,a2⟩,b1,b2⟩:=Vj (K:=KB) (g:=loN) (h:=hiN) (fun n k1 k2=>G7 k1 k2) _ hl
   have:=W8 b2 a1 hh
   omega
  have:=Rx (J:=100) (w:=wP) (by decide) hl (fun x hx=>YeE (WL (hl x hx)).1 (Pn (hl x hx))) hu
  rw[<-V8]at this
  exact this
theorem YqJ{l:List (Int×Int)}(hl:∀x,x∈l->okU x)(hn:l.length<=20)(h:¬0<=Xd l):upP l<dnP l:=by
 obtain⟨⟨a1,a2⟩,b1,b2⟩:=Vj (K:=KB) (g:=loN) (h:=hiN) (fun n k1 k2=>G7 k1 k2) _ hl
 exact W8 a2 b1 (Nat.lt_of_not_le fun hh=>h ((P8 hl hn).2 hh))
theorem Rep.cast{L:Int}{r:Rt}{a b c a' b' c':Int}(h:Rep L r a b c)(ea:a=a')(eb:b=b')(ec:c=c'):Rep L r a' b' c':=by
 subst ea eb ec;exact h
theorem Ga{a b c a' b' c':Int}(h:Le0 a b c)(ea:a=a')(eb:b=b')(ec:c=c'):Le0 a' b' c':=by
 subst ea eb ec;exact h
theorem UJ(n:Nat):UP n 0 0=2^n/\UP (-(n:Int)) 0 0=1:=by
 unfold UP
 rw[show(-(n:Int)).toNat=0 by omega]
 simp
theorem YlF{x y z:Int}{n:Nat}(h:UP (-x) (-y) (-z)<=UP x y z*2^n):Le0 (-x+ -(n:Int)) (-y) (-z):=by
 have e:=GM (-x) (-y) (-z) (-(n:Int)) 0 0
 rw[JW,JW,JW,JW,Int.neg_zero,Z7,Z7,(UJ n).1,(UJ n).2,Kb]at e
 unfold Le0
 refine Kr (c:=UP x y z*2^n) ?_ (Y3 (KM _ _ _) (Ja n))
 rw[e]
 exact Yz _ h
theorem UA(l:List (Int×Int))(e:Int):upP (l++[(2,e)])=upP l*UP e 0 0/\dnP (l++[(2,e)])=dnP l*UP (-e) 0 0:=by
 rw[(Xf _ _).1,(Xf _ _).2]
 have h:upP [(2,e)]=UP e 0 0/\dnP [(2,e)]=UP (-e) 0 0:=by
  unfold UP
  by_cases c:e<0
  ·simp only[upP,dnP,if_pos c]
   rw[show e.toNat=0 by omega]
   simp
  ·simp only[upP,dnP,if_neg c]
   rw[show(-e).toNat=0 by omega]
   simp
 rw[h.1,h.2]
 exact⟨rfl,rfl⟩
theorem A9{r:Rt}(h:YY r=0):∀x,x∈Ys r->2<=x.1/\x.1<=13/\ -100000<=x.2/\x.2<=100000:=by
 intro x hx
 have h2:=Ro h x hx
 have key:∀(p n:Int),x∈tm1 p n->x.1=p:=fun p n hx=>by
  unfold tm1 at hx
  split at hx
  ·cases hx
  ·rw[JD]at hx;rw[hx]
 simp only[Ys,KE]at hx
 rcases hx with hx|hx|hx|hx|hx|hx
 all_goals (have:=key _ _ hx;omega)
theorem Ydy{r:Rt}(h:YY r=0):Xl (Ys r)=0:=by
 unfold Xl
 have:=V0 r
 rw[if_neg (by omega),if_neg]
 rw[List.any_eq_true]
 rintro⟨x,hx,ho⟩
 have:=A9 h x hx
 simp only[Xa,Qt,decide_eq_true_eq]at ho
 omega
theorem YqF(l:List (Int×Int)):l.map (Qp 1)=l:=by
 have:Qp 1=id:=by funext x;unfold Qp;simp
 rw[this,List.map_id]
theorem Yj9{L:Int}{r:Rt}{a b c:Int}(hL:1<=L/\L<=1000)(h:Rep L r a b c)(sa:sm a)(sb:sm b)(sc:sm c)(hz:24*(b.natAbs:Int)+35*(c.natAbs:Int)<=15*(100000-L)):
 ∃k:Int,(Jy r).2.2=0/\Rep L (Jy r).1 (a-k*L) b c/\Le0 (a-k*L-L) b c/\Le0 (8* -(a-k*L)-L) (8* -b) (8* -c):=by
 have hn:=h.n_rng
 obtain⟨tu,td⟩:=NG h
 have tw:=YeN h
 have hlen:=V0 r
 obtain⟨n,hnn⟩:∃n:Nat,r.n=n:=⟨r.n.toNat,by omega⟩
 obtain⟨M,hM⟩:∃M:Nat,L=M:=⟨L.toNat,by omega⟩
 --what the sign says
 have okl:∀m:Int, -1000000000000<=m->m<=1000000000001->∀x,x∈atG (Ys r) r.n m->okU x:=fun m m1 m2 x hx=>by
  rw[atG,KE,JD]at hx
  rcases hx with hx|rfl
  ·have:=A9 h.ok x hx
   unfold okU;omega
  ·have:=Js (x:= -m) (y:=r.n) (X:=1000000000001) (Y:=1000) (by omega) (by omega)
   unfold okU;simp only;omega
 have lenl:∀m:Int,(atG (Ys r) r.n m).length<=20:=fun m=>by rw[atG,JI];simp;omega
 have idn:∀e:Int,UP (r.a+e) r.b r.c*(dnP (Ys r++[(2,e)]))=UP (-(r.a+e)) (-r.b) (-r.c)*upP (Ys r++[(2,e)]):=fun e=>by
  have:=GM r.a r.b r.c e 0 0
  rw[Z7,Z7,Int.neg_zero]at this
  rw[(UA _ _).1,(UA _ _).2,tu,td]
  exact this
 have pos:∀e:Int,0<upP (Ys r++[(2,e)])/\0<dnP (Ys r++[(2,e)]):=fun e=>by
  rw[(UA _ _).1,(UA _ _).2,tu,td]
  exact⟨Y3 (KM _ _ _) (KM _ _ _),Y3 (KM _ _ _) (KM _ _ _)⟩
 have scale:∀m x:Int,x*L=(a-m*L)*r.n->∀{y z:Int},y*L=b*r.n->z*L=c*r.n->(Le0 x y z->Le0 (a-m*L) b c):=fun m x hx y z hy hz h0=>by
  have h1:=(VL (m:=M) (by omega)).2 h0
  rw[<-hM,KA L x,KA L y,KA L z,hx,hy,hz,KA _ r.n,KA _ r.n,KA _ r.n,hnn]at h1
  exact(VL (m:=n) (by omega)).1 h1
 have neg:∀m:Int, -1000000000000<=m->m<=1000000000001->isG (Ys r) r.n m=false->Le0 (a-m*L) b c:=fun m m1 m2 hm=>by
  rw[isG,decide_eq_false_iff_not]at hm
  have h1:=YqJ (okl m m1 m2) (lenl m) hm
  refine scale m (r.a+ -m*r.n) ?_ h.hb h.hc ?_
  ·have:=h.ha;grind
  ·unfold Le0
   have e:=idn (-m*r.n)
   have p:=pos (-m*r.n)
   refine Kr (c:=upP (Ys r++[(2, -m*r.n)])) ?_ p.1
   rw[<-e]
   exact Yz _ (JN h1)
 have posi:∀m:Int, -1000000000000<=m->m<=1000000000001->isG (Ys r) r.n m=true->Le0 (8* -(a-m*L)-L) (8* -b) (8* -c):=fun m m1 m2 hm=>by
  rw[isG,decide_eq_true_eq]at hm
  have h1:=YqI (okl m m1 m2) (lenl m) hm
  have hE:upS wP (atG (Ys r) r.n m)+dnS wP (atG (Ys r) r.n m)<=200000:=by
   rw[atG,(QA wP _ _).1,(QA wP _ _).2]
   have:upS wP [(2, -m*r.n)]+dnS wP [(2, -m*r.n)]=0:=by
    unfold upS dnS upS dnS
    have:wP (2:Int).toNat=0:=rfl
    simp only[this,JX,ite_self]
   omega
  have e:=idn (-m*r.n)
  have p:=pos (-m*r.n)
  have hu:upP (atG (Ys r) r.n m)=upP (Ys r++[(2, -m*r.n)]):=rfl
  have hd:dnP (atG (Ys r) r.n m)=dnP (Ys r++[(2, -m*r.n)]):=rfl
  rw[hu,hd]at h1
  have h2:UP (-(8*(r.a+ -m*r.n))) (-(8*r.b)) (-(8*r.c))<=UP (8*(r.a+ -m*r.n)) (8*r.b) (8*r.c)*2^n:=by
   have e8:∀x y z:Int,UP (8*x) (8*y) (8*z)=UP x y z^8:=fun x y z=>Qw 8 x y z
   rw[<-KC,<-KC,<-KC,e8,e8]
   have hQ0:QJ≠0:=by rw[V8];have:=Ja 100;omega
   rw[<-XY hQ0]
   refine Kr (c:=(upP (Ys r++[(2, -m*r.n)])^QJ)^8) ?_ (YD (YD p.1))
   have h3:(2^(upS wP (atG (Ys r) r.n m)+dnS wP (atG (Ys r) r.n m)))^8<=(2^n)^QJ:=by
    rw[<-Yl,<-Yl]
    refine Kl (by decide) (Yj (Yu 8 hE) ?_)
    have:1*QJ<=n*QJ:=Yu QJ (by omega)
    have:1600000<=QJ:=by rw[V8];decide
    omega
   have h4:=YM h1 8
   rw[Yt]at h4
   have e2:=congrArg (fun z=>(z^QJ)^8) e
   simp only[Yt]at e2
   have c1:∀x:Nat,(x^8)^QJ=(x^QJ)^8:=fun x=>by rw[<-Yl,<-Yl,Yk]
   rw[c1,Yt,c1]
   have e3:=Yz ((UP (r.a+ -m*r.n) r.b r.c^QJ)^8) (Yj h4 (Yz _ h3))
   rw[e2]at e3
   refine Yj e3 (YB ?_)
   rw[<-Yx,WW]
  have h5:=YlF h2
  have h6:=(VL (m:=M) (by omega)).2 h5
  refine(VL (m:=n) (by omega)).1 (Ga h6 ?_ ?_ ?_)
  ·rw[<-hM,<-hnn];have:=h.ha;grind
  ·rw[<-hM,<-hnn];have:=h.hb;grind
  ·rw[<-hM,<-hnn];have:=h.hc;grind
 have bd:=fun m hm1 hm2 hx=>U9 (neg m hm1 hm2 hx)
 have bp:=fun m hm1 hm2 hx=>U9 (posi m hm1 hm2 hx)
 unfold sm at*
 have htop:isG (Ys r) r.n 1000000000001=false:=by
  cases hh:isG (Ys r) r.n 1000000000001 with
  |false=>rfl
  |true=>
   have:=bp 1000000000001 (by decide) (by decide) hh
   omega
 have hbot:isG (Ys r) r.n (-1000000000000)=true:=by
  cases hh:isG (Ys r) r.n (-1000000000000)with
  |true=>rfl
  |false=>
   have:=bd (-1000000000000) (by decide) (by decide) hh
   omega
 have hfl:JG (Ys r) r.n 1=(KQ 64 (isG (Ys r) r.n) (-1000000000000) 1000000000001,Wq (atG (Ys r) r.n (KQ 64 (isG (Ys r) r.n) (-1000000000000) 1000000000001)),0):=by
  unfold JG
  rw[if_neg (by rw[Ydy h.ok];decide),if_neg,YqF]
  ·unfold G0
   rw[if_neg (by rw[htop,hbot];decide)]
  ·simp only[GR,Qt,decide_eq_true_eq];omega
 obtain⟨s1,s2⟩:=Ez (t:=isG (Ys r) r.n) 64 (-1000000000000) 1000000000001 (by decide) (by decide)
 have hr:=Ey (t:=isG (Ys r) r.n) 64 (-1000000000000) 1000000000001 (by decide)
 generalize KQ 64 (isG (Ys r) r.n) (-1000000000000) 1000000000001=k at*
 have hk:isG (Ys r) r.n k=true:=by
  rcases s1 with e|e
  ·rw[e];exact hbot
  ·exact e
 have hk1:isG (Ys r) r.n (k+1)=false:=by
  rcases s2 with e|e
  ·rw[e];exact htop
  ·exact e
 have l1:=neg (k+1) (by omega) (by omega) hk1
 have l2:=posi k (by omega) (by omega) hk
 have b1:=bd (k+1) (by omega) (by omega) hk1
 have b2:=bp k (by omega) (by omega) hk
 rw[Int.add_mul,Int.one_mul]at b1 l1
 have hm:=L4 (x:=WK r k) (a:=a-k*L) hL hn.1 (by show(r.a-k*r.n)*L=(a-k*L)*r.n;have:=h.ha;grind) h.hb h.hc h.hd h.he h.hf (by unfold sm;omega) sb sc
 refine⟨k,?_⟩
 unfold Jy
 rw[if_neg (by rw[h.ok];decide),hfl]
 simp only
 rw[if_neg (by rw[hm.1];decide)]
 exact⟨rfl,hm.2,Ga l1 (by omega) rfl rfl,l2⟩
theorem Ti{T:Tm}:∀{k i:Nat},i<k->YQ T k<=120->(T.p i).2.toNat∣YQ T k
 |k+1,i,hi,h=>by
  rw[YQ]at h⊢
  by_cases c:YQ T k<=120
  ·rw[if_pos c]at h⊢
   by_cases e:i=k
   ·rw[e];exact Nat.dvd_mul_left ..
   ·have ih:=Ti (T:=T) (show i<k by omega) c
    refine JM ih ?_
    obtain⟨x,hx⟩:=Wv (YQ T k) (T.p k).2.toNat
    obtain⟨y,hy⟩:=Nat.gcd_dvd_right (YQ T k) (T.p k).2.toNat
    generalize YG (YQ T k) (T.p k).2.toNat=g at*
    refine⟨y,?_⟩
    rcases KU g with h0|h0
    ·rw[h0,JX]at hx hy
     rw[hx,hy,h0]
     simp
    ·rw[hx,hy,Nat.mul_div_cancel_left _ h0]
     simp only[Yx,Jd]
  ·rw[if_neg c]at h
   exact absurd h c
def Lm(T:Tm):Int:=YQ T 12
def tI(T:Tm)(i:Nat):Int:=(T.p i).1*(Lm T/(T.p i).2)
def cA(T:Tm):Int:=if T.syn=true then -4 else -19
def cB(T:Tm):Int:=if T.syn=true then 4 else 12
def cC(T:Tm):Int:=if T.syn=true then -1 else 0
def bB(T:Tm):Int:=if T.syn=true then 9 else 25
def bC(T:Tm):Int:=if T.syn=true then 2 else 0
theorem Ik(T:Tm):ZT T=⟨cA T,cB T,cC T,0,0,0,1⟩:=by
 unfold ZT cA cB cC
 split
 ·decide+kernel
 ·decide+kernel
theorem Ynx:(KP 3 2).1=⟨-1,1,0,0,0,0,1⟩:=by decide+kernel
theorem Ybc:(KP 128 1).1=⟨7,0,0,0,0,0,1⟩:=by decide+kernel
theorem Ynw:(KP 1 1).1=⟨0,0,0,0,0,0,1⟩:=by decide+kernel
theorem J9{T:Tm}(h:Ki T=0):1<=Lm T/\Lm T<=120:=by
 obtain⟨_,h1,_,_,_,h2⟩:=Vz h
 have:=(Hz (T:=T) (i:=12) h1).1
 unfold Lm;omega
theorem Rj{T:Tm}(h:Ki T=0){i:Nat}(hi:i<12): -2*Lm T<=tI T i/\tI T i<=2*Lm T/\(Lm T/(T.p i).2)*(T.p i).2=Lm T:=by
 obtain⟨_,h1,_,_,_,h2⟩:=Vz h
 obtain⟨b1,b2,b3⟩:=HC (h1 i hi)
 have hL:=J9 h
 have hd:(T.p i).2∣Lm T:=by
  have:=Int.natCast_dvd_natCast.2 (Ti hi h2)
  rwa [K3 (by omega)]at this
 have he:=Int.ediv_mul_cancel hd
 have hm:0<=Lm T/(T.p i).2:=Int.ediv_nonneg (by omega) (by omega)
 unfold tI
 generalize Lm T/(T.p i).2=m at*
 have k1:=Xq b2 hm
 have k2:=Xq b3 hm
 have e1: -2*(T.p i).2*m= -2*Lm T:=by rw[<-he];grind
 have e2:2*(T.p i).2*m=2*Lm T:=by rw[<-he];grind
 exact⟨by omega,by omega,he⟩
theorem Yn0{T:Tm}(h:Ki T=0){i:Nat}(hi:i<12):Rep (Lm T) (Xc (ZT T) (T.p i).1 (T.p i).2).1 (cA T*tI T i) (cB T*tI T i) (cC T*tI T i):=by
 have hL:=J9 h
 obtain⟨t1,t2,t3⟩:=Rj h hi
 obtain⟨_,h1,_,_,_,h2⟩:=Vz h
 obtain⟨b1,b2,b3⟩:=HC (h1 i hi)
 have hk:YY (ZT T)=0:=by
  rw[Ik];unfold cA cB cC;cases T.syn <;> decide+kernel
 have hbad:Uc (T.p i).1 (T.p i).2=false:=by
  simp only[Uc,JH,decide_eq_false_iff_not];omega
 have e:Xc (ZT T) (T.p i).1 (T.p i).2=Gp (ZT T) (T.p i).1 (T.p i).2:=by
  unfold Xc
  rw[if_neg (by rw[hk];decide),if_neg (by rw[hbad];decide),if_neg (by omega)]
 rw[e,Gp,Ik]
 have key:∀v:Int,v*(T.p i).1*Lm T=v*tI T i*(1*(T.p i).2):=fun v=>by
  unfold tI
  have e1:v*(T.p i).1*Lm T=v*(T.p i).1*(Lm T/(T.p i).2*(T.p i).2):=by rw[t3]
  rw[e1];grind
 have smv:∀v:Int, -19<=v->v<=19->sm (v*tI T i):=fun v v1 v2=>by
  have:=Js (x:=v) (y:=tI T i) (X:=19) (Y:=240) ⟨v1,v2⟩ (by omega)
  unfold sm;omega
 have rA: -19<=cA T/\cA T<=19:=by unfold cA;split <;> omega
 have rB: -19<=cB T/\cB T<=19:=by unfold cB;split <;> omega
 have rC: -19<=cC T/\cC T<=19:=by unfold cC;split <;> omega
 exact(L4 (L:=Lm T) (by omega) (by simp only;omega) (key _) (key _) (key _) (by simp) (by simp) (by simp) (smv _ rA.1 rA.2) (smv _ rB.1 rB.2) (smv _ rC.1 rC.2)).2
def fA(T:Tm)(i:Nat):Int:= -Lm T-cA T*tI T i
def fB(T:Tm)(i:Nat):Int:=Lm T-cB T*tI T i
def fC(T:Tm)(i:Nat):Int:= -(cC T*tI T i)
theorem Bq{T:Tm}(h:Ki T=0){i:Nat}(hi:i<12):(-(39*Lm T)<=fA T i/\fA T i<=39*Lm T)/\(-(bB T*Lm T)<=fB T i/\fB T i<=bB T*Lm T)/\ -(bC T*Lm T)<=fC T i/\fC T i<=bC T*Lm T:=by
 have hL:=J9 h
 obtain⟨t1,t2,_⟩:=Rj h hi
 unfold fA fB fC cA cB cC bB bC
 split <;> omega
theorem Oe{T:Tm}(h:Ki T=0){i:Nat}(hi:i<12):Rep (Lm T) (Wy T i) (fA T i) (fB T i) (fC T i):=by
 have hL:=J9 h
 have r32:Rep (Lm T) (KP 3 2).1 (-Lm T) (Lm T) 0:=by
  rw[Ynx]
  exact⟨by decide+kernel,by simp,by simp,by simp,rfl,rfl,rfl⟩
 have hf:=Bq h hi
 have hb:bB T<=25/\bC T<=2/\0<=bB T/\0<=bC T:=by unfold bB bC;split <;> omega
 have m1:=Xq hb.1 (show 0<=Lm T by omega)
 have m2:=Xq hb.2.1 (show 0<=Lm T by omega)
 have e1: -Lm T+ -1*(cA T*tI T i)=fA T i:=by unfold fA;omega
 have e2:Lm T+ -1*(cB T*tI T i)=fB T i:=by unfold fB;omega
 have e3:0+ -1*(cC T*tI T i)=fC T i:=by unfold fC;omega
 have:=(G2 (s:= -1) (by omega) r32 (Yn0 h hi) (by rw[e1];unfold sm;omega) (by rw[e2];unfold sm;omega) (by rw[e3];unfold sm;omega)).2
 exact this.cast e1 e2 e3
def K8(f:Nat->Int)(w:Int):Nat->Int
 |0=>0
 |i+1=>K8 f w i+(if(i:Int)=w then 0 else f i)
theorem ND{f:Nat->Int}{w B:Int}(hB:0<=B)(h:∀i,i<12-> -B<=f i/\f i<=B)(i:Nat):∀d,i+d<=12-> -(B*d)<=K8 f w (i+d)-K8 f w i/\K8 f w (i+d)-K8 f w i<=B*d
 |0,_=>by simp
 |d+1,hd=>by
  have ih:=ND hB h (w:=w) i d (by omega)
  rw[<-XV,K8]
  have:=h (i+d) (by omega)
  have e:B*((d+1:Nat):Int)=B*d+B:=by rw[WT,Int.mul_add];simp
  rw[e]
  split <;> omega
def gA(T:Tm)(i:Nat):Int:=K8 (fA T) T.wolf i
def gB(T:Tm)(i:Nat):Int:=K8 (fB T) T.wolf i
def gC(T:Tm)(i:Nat):Int:=K8 (fC T) T.wolf i
theorem UR{T:Tm}(h:Ki T=0):0<=bB T*Lm T/\bB T*Lm T<=3000/\0<=bC T*Lm T/\bC T*Lm T<=240:=by
 have hL:=J9 h
 have hb:bB T<=25/\bC T<=2/\0<=bB T/\0<=bC T:=by unfold bB bC;split <;> omega
 have m1:=Xq hb.1 (show 0<=Lm T by omega)
 have m2:=Xq hb.2.1 (show 0<=Lm T by omega)
 exact⟨ZF hb.2.2.1 (by omega),by omega,ZF hb.2.2.2 (by omega),by omega⟩
theorem BB{T:Tm}(h:Ki T=0)(i d:Nat)(hd:i+d<=12):(-(39*Lm T*d)<=gA T (i+d)-gA T i/\gA T (i+d)-gA T i<=39*Lm T*d)/\(-(bB T*Lm T*d)<=gB T (i+d)-gB T i/\gB T (i+d)-gB T i<=bB T*Lm T*d)/\ -(bC T*Lm T*d)<=gC T (i+d)-gC T i/\gC T (i+d)-gC T i<=bC T*Lm T*d:=by
 have hL:=J9 h
 have hb:=UR h
 exact⟨ND (by omega) (fun j hj=>(Bq h hj).1) i d hd,ND hb.1 (fun j hj=>(Bq h hj).2.1) i d hd,ND hb.2.2.1 (fun j hj=>(Bq h hj).2.2) i d hd⟩
theorem Wp{B:Int}{d n:Nat}(hB:0<=B)(h:d<=n):B*d<=B*n:=Int.mul_le_mul_of_nonneg_left (by omega) hB
theorem YcB{T:Tm}(h:Ki T=0):∀i,i<=12->Rep (Lm T) (K2 T i) (7*Lm T-gA T i) (-gB T i) (-gC T i)
 |0,_=>by
  rw[K2,Ybc]
  exact⟨by decide+kernel,by show 7*Lm T=(7*Lm T-0)*1;omega,by show 0*Lm T=(-0)*1;simp,by show 0*Lm T=(-0)*1;simp,rfl,rfl,rfl⟩
 |i+1,hi=>by
  have ih:=YcB h i (by omega)
  have hL:=J9 h
  have hb:=UR h
  have bd:=BB h 0 (i+1) (by omega)
  have z:gA T 0=0/\gB T 0=0/\gC T 0=0:=⟨rfl,rfl,rfl⟩
  rw[KL,z.1,z.2.1,z.2.2]at bd
  have m1:=Wp (show 0<=39*Lm T by omega) hi
  have m2:=Wp hb.1 hi
  have m3:=Wp hb.2.2.1 hi
  rw[K2]
  by_cases c:(i:Int)=T.wolf
  ·rw[if_pos c]
   refine ih.cast ?_ ?_ ?_
   ·unfold gA;rw[K8,if_pos c];omega
   ·unfold gB;rw[K8,if_pos c];omega
   ·unfold gC;rw[K8,if_pos c];omega
  ·rw[if_neg c]
   have e1:7*Lm T-gA T i+ -1*fA T i=7*Lm T-gA T (i+1):=by unfold gA;rw[K8,if_neg c];omega
   have e2: -gB T i+ -1*fB T i= -gB T (i+1):=by unfold gB;rw[K8,if_neg c];omega
   have e3: -gC T i+ -1*fC T i= -gC T (i+1):=by unfold gC;rw[K8,if_neg c];omega
   have:=(G2 (s:= -1) (by omega) ih (Oe h (show i<12 by omega)) (by rw[e1];unfold sm;omega) (by rw[e2];unfold sm;omega) (by rw[e3];unfold sm;omega)).2
   exact this.cast e1 e2 e3
def sA(T:Tm)(i:Nat):Int:=gA T i+(if T.wolf<i then 7*Lm T-gA T 12 else 0)
def sB(T:Tm)(i:Nat):Int:=gB T i+(if T.wolf<i then -gB T 12 else 0)
def sC(T:Tm)(i:Nat):Int:=gC T i+(if T.wolf<i then -gC T 12 else 0)
theorem Fp{T:Tm}(h:Ki T=0){i m:Nat}(hi:i<=12)(hm:i<=T.wolf->i<=m)(hm2:T.wolf<i->12-i<=m):(-(39*Lm T*12)-7*Lm T<=sA T i/\sA T i<=39*Lm T*12+7*Lm T)/\(-(bB T*Lm T*m)<=sB T i/\sB T i<=bB T*Lm T*m)/\ -(bC T*Lm T*m)<=sC T i/\sC T i<=bC T*Lm T*m:=by
 have hL:=J9 h
 have hb:=UR h
 unfold sA sB sC
 by_cases c:T.wolf<i
 ·have bd:=BB h i (12-i) (by omega)
  rw[show i+(12-i)=12 by omega]at bd
  rw[if_pos c,if_pos c,if_pos c]
  have m1:=Wp (show 0<=39*Lm T by omega) (show 12-i<=12 by omega)
  have m2:=Wp hb.1 (hm2 c)
  have m3:=Wp hb.2.2.1 (hm2 c)
  omega
 ·have bd:=BB h 0 i (by omega)
  have z:gA T 0=0/\gB T 0=0/\gC T 0=0:=⟨rfl,rfl,rfl⟩
  rw[KL,z.1,z.2.1,z.2.2]at bd
  rw[if_neg c,if_neg c,if_neg c]
  have m1:=Wp (show 0<=39*Lm T by omega) hi
  have m2:=Wp hb.1 (hm (by omega))
  have m3:=Wp hb.2.2.1 (hm (by omega))
  omega
theorem Of{T:Tm}(h:Ki T=0){k:Nat}(hk:k<12):Rep (Lm T) (X7 T k) (sA T (k+1)-sA T k) (sB T (k+1)-sB T k) (sC T (k+1)-sC T k):=by
 obtain⟨hw,_⟩:=Vz h
 unfold X7
 by_cases c:k=T.wolf.toNat
 ·rw[if_pos c]
  have c2:(k:Int)=T.wolf:=by omega
  have w1:T.wolf<((k+1:Nat):Int):=by omega
  have w2:¬T.wolf<(k:Int):=by omega
  have gw:∀f:Nat->Int,K8 f T.wolf (k+1)=K8 f T.wolf k:=fun f=>by rw[K8,if_pos c2,Z7]
  refine(YcB h 12 (by decide)).cast ?_ ?_ ?_
  ·unfold sA;rw[if_pos w1,if_neg w2];unfold gA;rw[gw];omega
  ·unfold sB;rw[if_pos w1,if_neg w2];unfold gB;rw[gw];omega
  ·unfold sC;rw[if_pos w1,if_neg w2];unfold gC;rw[gw];omega
 ·rw[if_neg c,Qy,if_pos hk]
  have c2:¬(k:Int)=T.wolf:=by omega
  rw[if_neg c2]
  refine(Oe h hk).cast ?_ ?_ ?_
  ·unfold sA gA;rw[K8,if_neg c2];split <;> split <;> omega
  ·unfold sB gB;rw[K8,if_neg c2];split <;> split <;> omega
  ·unfold sC gC;rw[K8,if_neg c2];split <;> split <;> omega
theorem An{T:Tm}(h:Ki T=0):∀i,i<=12->Rep (Lm T) (Jj T i).2 (sA T i) (sB T i) (sC T i)
 |0,_=>by
  obtain⟨hw,_⟩:=Vz h
  rw[Jj]
  show Rep (Lm T) (KP 1 1).1 _ _ _
  rw[Ynw]
  have c:¬T.wolf<((0:Nat):Int):=by omega
  refine⟨by decide+kernel,?_,?_,?_,rfl,rfl,rfl⟩
  ·show 0*Lm T=sA T 0*1
   unfold sA;rw[if_neg c];unfold gA K8;simp
  ·show 0*Lm T=sB T 0*1
   unfold sB;rw[if_neg c];unfold gB K8;simp
  ·show 0*Lm T=sC T 0*1
   unfold sC;rw[if_neg c];unfold gC K8;simp
 |i+1,hi=>by
  have ih:=An h i (by omega)
  have hL:=J9 h
  have hb:=UR h
  have bd:=Fp h (i:=i+1) (m:=12) (by omega) (by omega) (by omega)
  rw[Jj]
  show Rep (Lm T) (KG (Jj T i).2 (X7 T i) 1).1 _ _ _
  have e1:sA T i+1*(sA T (i+1)-sA T i)=sA T (i+1):=by omega
  have e2:sB T i+1*(sB T (i+1)-sB T i)=sB T (i+1):=by omega
  have e3:sC T i+1*(sC T (i+1)-sC T i)=sC T (i+1):=by omega
  have:=(G2 (s:=1) (by omega) ih (Of h (show i<12 by omega)) (by rw[e1];unfold sm;omega) (by rw[e2];unfold sm;omega) (by rw[e3];unfold sm;omega)).2
  exact this.cast e1 e2 e3
theorem Ya3(T:Tm):∀i j,j<i->i<=12->(Jj T i).1 (7*j%12)=(Jy (Jj T j).2).1
 |i+1,j,hj,hi=>by
  rw[Jj]
  show Uy (Jj T i).1 (7*i%12) (Jy (Jj T i).2).1 (7*j%12)=_
  unfold Uy
  by_cases c:j=i
  ·subst c;rw[if_pos rfl]
  ·rw[if_neg (by omega)]
   exact Ya3 T i j (by omega) (by omega)
theorem B9{T:Tm}(h:Ki T=0){j:Nat}(hj:j<12):∃k:Int,Rep (Lm T) (Y6 T (7*j%12)) (sA T j-k*Lm T) (sB T j) (sC T j)/\Le0 (sA T j-k*Lm T-Lm T) (sB T j) (sC T j)/\Le0 (8* -(sA T j-k*Lm T)-Lm T) (8* -sB T j) (8* -sC T j):=by
 obtain⟨hw,_⟩:=Vz h
 have hL:=J9 h
 have hb:=UR h
 have bd:=Fp h (i:=j) (m:=11) (by omega) (by omega) (by omega)
 obtain⟨k,_,h1,h2,h3⟩:=Yj9 (by omega) (An h j (by omega)) (by unfold sm;omega) (by unfold sm;omega) (by unfold sm;omega) (by omega)
 refine⟨k,?_,h2,h3⟩
 rw[Y6,Ya3 T 12 j hj (Yr _)]
 exact h1
theorem If{c:Nat}(hc:c<12):∃j,j<12/\7*j%12=c:=⟨7*c%12,by omega,by omega⟩
theorem Ynn{T:Tm}(h:Ki T=0){note:Int}(hn:0<=note):∃a b c:Int,Rep (Lm T) (JS (Y6 T) note) a b c/\Le0 (8*a-9*Lm T) (8*b) (8*c)/\Le0 (8* -a-9*Lm T) (8* -b) (8* -c):=by
 obtain⟨hw,_⟩:=Vz h
 have hL:=J9 h
 have hb:=UR h
 obtain⟨j,hj,hjc⟩:=If (c:=(note%12).toNat) (by omega)
 obtain⟨k,r1,l1,l2⟩:=B9 h hj
 obtain⟨k9,r9,m1,m2⟩:=B9 h (show 3<12 by decide)
 rw[hjc]at r1
 rw[show 7*3%12=9 from rfl]at r9
 have bd:=Fp h (i:=j) (m:=11) (by omega) (by omega) (by omega)
 have b9:=Fp h (i:=3) (m:=9) (by omega) (by omega) (by omega)
 have u:=BP ((VL (m:=8) (by decide)).2 l1) m2
 have d:=BP l2 ((VL (m:=8) (by decide)).2 m1)
 have u2:Le0 (8*(sA T j-k*Lm T+ -1*(sA T 3-k9*Lm T))-9*Lm T) (8*(sB T j+ -1*sB T 3)) (8*(sC T j+ -1*sC T 3)):=Ga u (by omega) (by omega) (by omega)
 have d2:Le0 (8* -(sA T j-k*Lm T+ -1*(sA T 3-k9*Lm T))-9*Lm T) (8* -(sB T j+ -1*sB T 3)) (8* -(sC T j+ -1*sC T 3)):=Ga d (by omega) (by omega) (by omega)
 have q1:=U9 u2
 have q2:=U9 d2
 have hbc:(bB T=25/\bC T=0)\/(bB T=9/\bC T=2):=by unfold bB bC;split <;> simp
 have hab: -98000<=sA T j-k*Lm T+ -1*(sA T 3-k9*Lm T)/\sA T j-k*Lm T+ -1*(sA T 3-k9*Lm T)<=98000:=by
  rcases hbc with⟨e1,e2⟩ | ⟨e1,e2⟩
  ·rw[e1,e2]at bd b9;omega
  ·rw[e1,e2]at bd b9;omega
 have hj2:=(G2 (s:= -1) (by omega) r1 r9 (by unfold sm;omega) (by unfold sm;rcases hbc with⟨e1,e2⟩ | ⟨e1,e2⟩ <;> (rw[e1,e2]at bd b9;omega)) (by unfold sm;rcases hbc with⟨e1,e2⟩ | ⟨e1,e2⟩ <;> (rw[e1,e2]at bd b9;omega))).2
 exact⟨_,_,_,hj2,u2,d2⟩
theorem LK{x y z:Int}{n:Nat}(h:Le0 (x+ -(n:Int)) y z):UP x y z<=UP (-x) (-y) (-z)*2^n:=by
 have e:=GM x y z (-(n:Int)) 0 0
 rw[JW,Int.neg_zero,Z7,Z7,(UJ n).1,(UJ n).2,Kb]at e
 unfold Le0 at h
 have p:=KM (x+ -(n:Int)) y z
 have p2:=KM (-(x+ -(n:Int))) (-y) (-z)
 refine WV (c:=UP (-(x+ -(n:Int))) (-y) (-z)) ?_ p2
 rw[<-e]
 exact Yu _ h
theorem Ynm{T:Tm}(h:Ki T=0){note:Int}(hn:0<=note):∃(r:Rt) (n:Nat),JS (Y6 T) note=r/\r.n=n/\(1<=n/\n<=1000)/\(∃L a b c,Rep L r a b c)/\UP r.a r.b r.c^8<=UP (-r.a) (-r.b) (-r.c)^8*2^(9*n)/\UP (-r.a) (-r.b) (-r.c)^8<=UP r.a r.b r.c^8*2^(9*n):=by
 obtain⟨a,b,c,hr,hu,hd⟩:=Ynn h hn
 have hL:=J9 h
 have hnr:=hr.n_rng
 obtain⟨r,hre⟩:∃r,r=JS (Y6 T) note:=⟨_,rfl⟩
 rw[<-hre]at hr hnr
 obtain⟨n,hnn⟩:∃n:Nat,r.n=n:=⟨r.n.toNat,by omega⟩
 obtain⟨M,hM⟩:∃M:Nat,Lm T=M:=⟨(Lm T).toNat,by omega⟩
 have ha:=hr.ha
 have hb:=hr.hb
 have hc:=hr.hc
 rw[hM,hnn]at ha hb hc
 rw[hM]at hu hd
 have scale:∀{x y z x' y' z':Int},x'*M=x*n->y'*M=y*n->z'*M=z*n->Le0 x y z->Le0 x' y' z':=fun h1 h2 h3 h0=>by
  have h4:=(VL (m:=n) (by omega)).2 h0
  refine(VL (m:=M) (by omega)).1 (Ga h4 ?_ ?_ ?_)
  ·rw[KA,<-h1,KA]
  ·rw[KA,<-h2,KA]
  ·rw[KA,<-h3,KA]
 have u:Le0 (8*r.a+ -((9*n:Nat):Int)) (8*r.b) (8*r.c):=scale (by rw[JV];grind) (by grind) (by grind) hu
 have d:Le0 (8* -r.a+ -((9*n:Nat):Int)) (8* -r.b) (8* -r.c):=scale (by rw[JV];grind) (by grind) (by grind) hd
 have e8:∀x y z:Int,UP (8*x) (8*y) (8*z)=UP x y z^8:=fun x y z=>Qw 8 x y z
 have u3:=LK u
 have d3:=LK d
 rw[<-KC,<-KC,<-KC,e8,e8]at u3
 rw[<-KC,<-KC,<-KC,JW,JW,JW,e8,e8]at d3
 exact⟨r,n,hre.symm,hnn,by omega,⟨_,_,_,_,hr⟩,u3,d3⟩
set_option maxHeartbeats 4000000
def v78:VF:=⟨41,[.cell 10 true 27],(ZR [u1 10 (.alloc [(.val (.string ⟨#[]⟩)),(.bool false),(.int .i64 0),(.int .i64 0),(.int .i64 0),(.int .i64 0),(.int .i64 0),(.int .i64 0),(.int .i64 0),(.int .i64 0),(.int .i64 0),(.int .i64 0),(.int .i64 0),(.int .i64 0),(.int .i64 0),(.int .i64 0),(.int .i64 0),(.int .i64 0),(.int .i64 0),(.int .i64 0),(.int .i64 0),(.int .i64 0),(.int .i64 0),(.int .i64 0),(.int .i64 0),(.int .i64 0),(.int .i64 0)]) []] (ZR [Zm 14 0,Zm 15 1,Zm 16 2,u1 17 (.build [(.val (.string ⟨#[]⟩)),(.bool false),(.int .i64 0),(.int .i64 0),(.int .i64 0),(.int .i64 0),(.int .i64 0),(.int .i64 0),(.int .i64 0),(.int .i64 0),(.int .i64 0),(.int .i64 0),(.int .i64 0),(.int .i64 0),(.int .i64 0),(.int .i64 0),(.int .i64 0),(.int .i64 0),(.int .i64 0),(.int .i64 0),(.int .i64 0),(.int .i64 0),(.int .i64 0),(.int .i64 0),(.int .i64 0),(.int .i64 0),(.int .i64 0)] [(0,1),(1,1),(2,1)]) [.tm 14,.tm 15,.tm 16],u1 11 (.alloc [(.val (.string ⟨#[]⟩)),(.bool false),(.int .i64 0),(.int .i64 0),(.int .i64 0),(.int .i64 0),(.int .i64 0),(.int .i64 0),(.int .i64 0),(.int .i64 0),(.int .i64 0),(.int .i64 0),(.int .i64 0),(.int .i64 0),(.int .i64 0),(.int .i64 0),(.int .i64 0),(.int .i64 0),(.int .i64 0),(.int .i64 0),(.int .i64 0),(.int .i64 0),(.int .i64 0),(.int .i64 0),(.int .i64 0),(.int .i64 0),(.int .i64 0)]) [],Zs 27 11 17] (.seq (ZR [Zi 12 0] (.block 0 (.loop (.seq (ZR [Zm 18 12,Zq 19 .lss 18 12] (ZC 19 .skip (.exit 0))) (.seq (.block 1 (.region [Zm 22 12,u1 23 (.build [(.int .i64 0),(.int .i64 0)] [(0,1),(1,1)]) [.cn (.int .i64 0),.cn (.int .i64 1)],Za 24 3 11,u1 25 (.idxArr 12 2) [.tm 24,.tm 22],Zs 2 25 23])) (.region [Zm 20 12,Zp 21 20 1,Zm 12 21])))))) (.seq (ZR [Zi 13 0] (.block 2 (.loop (.seq (ZR [Zm 26 13,Zm 27 4,Zl 28 27,Zr 29 .lss 26 28] (ZC 29 .skip (.exit 2))) (.seq (.block 3 (.region [Zm 32 4,Zm 33 13,Zx 34 1 32 33,Zf 35 1 34,Zm 36 3,u1 37 (.build [(.int .i64 0),(.int .i64 0)] [(0,1),(1,1)]) [.cn (.int .i64 1),.tm 36],Za 38 3 11,u1 39 (.idxArr 12 2) [.tm 38,.tm 35],Zs 2 39 37])) (.region [Zm 30 13,Zp 31 30 1,Zm 13 31])))))) (ZR [Zt 40 27 11,Zs 27 10 40] .ret)))))⟩
theorem Ytu:Yn Yb Tryz.f78=some v78:=by kernel_rfl
def v44:VF:=⟨40,[.cell 2 true 27,.tmp 3],(ZR [u1 2 (.alloc [(.val (.string ⟨#[]⟩)),(.bool false),(.int .i64 0),(.int .i64 0),(.int .i64 0),(.int .i64 0),(.int .i64 0),(.int .i64 0),(.int .i64 0),(.int .i64 0),(.int .i64 0),(.int .i64 0),(.int .i64 0),(.int .i64 0),(.int .i64 0),(.int .i64 0),(.int .i64 0),(.int .i64 0),(.int .i64 0),(.int .i64 0),(.int .i64 0),(.int .i64 0),(.int .i64 0),(.int .i64 0),(.int .i64 0),(.int .i64 0),(.int .i64 0)]) [],Zi 3 0] (.seq (ZR [Zm 4 0] (.block 0 (ZR [u1 6 (.eqStr false) [.tm 4,.cn (.val (.string ⟨#[101,113,117,97,108]⟩))],Zm 5 6] (ZC 5 (ZR [Zm 7 0,u1 8 (.buildSlice 1 11 [(.int .i64 0)] [(0,1),(1,1),(2,1),(3,1),(4,1),(5,1),(6,1),(7,1),(8,1),(9,1),(10,1)]) [.cn (.int .i64 0),.cn (.int .i64 1),.cn (.int .i64 2),.cn (.int .i64 3),.cn (.int .i64 4),.cn (.int .i64 5),.cn (.int .i64 6),.cn (.int .i64 7),.cn (.int .i64 8),.cn (.int .i64 9),.cn (.int .i64 10)],u1 9 (.call 78) [.tm 7,.cn (.bool false),.cn (.int .i64 11),.cn (.int .i64 12),.tm 8],Zs 27 2 9,Zi 3 0] .ret) (ZR [u1 11 (.eqStr false) [.tm 4,.cn (.val (.string ⟨#[112,121,116,104,97,103,111,114,101,97,110]⟩))],Zm 10 11] (ZC 10 (ZR [Zm 12 0,u1 13 (.call 78) [.tm 12,.cn (.bool false),.cn (.int .i64 8),.cn (.int .i64 1),.cn .nil],Zs 27 2 13,Zi 3 0] .ret) (ZR [u1 15 (.eqStr false) [.tm 4,.cn (.val (.string ⟨#[109,101,97,110,116,111,110,101]⟩))],Zm 14 15] (ZC 14 (ZR [Zm 16 0,u1 17 (.buildSlice 1 11 [(.int .i64 0)] [(0,1),(1,1),(2,1),(3,1),(4,1),(5,1),(6,1),(7,1),(8,1),(9,1),(10,1)]) [.cn (.int .i64 0),.cn (.int .i64 1),.cn (.int .i64 2),.cn (.int .i64 3),.cn (.int .i64 4),.cn (.int .i64 5),.cn (.int .i64 6),.cn (.int .i64 7),.cn (.int .i64 9),.cn (.int .i64 10),.cn (.int .i64 11)],u1 18 (.call 78) [.tm 16,.cn (.bool true),.cn (.int .i64 8),.cn (.int .i64 4),.tm 17],Zs 27 2 18,Zi 3 0] .ret) (ZR [u1 20 (.eqStr false) [.tm 4,.cn (.val (.string ⟨#[119,101,114,99,107,109,101,105,115,116,101,114]⟩))],Zm 19 20] (ZC 19 (ZR [Zm 21 0,u1 22 (.buildSlice 1 4 [(.int .i64 0)] [(0,1),(1,1),(2,1),(3,1)]) [.cn (.int .i64 0),.cn (.int .i64 1),.cn (.int .i64 2),.cn (.int .i64 5)],u1 23 (.call 78) [.tm 21,.cn (.bool false),.cn (.int .i64 11),.cn (.int .i64 4),.tm 22],Zs 27 2 23,Zi 3 0] .ret) (ZR [u1 25 (.eqStr false) [.tm 4,.cn (.val (.string ⟨#[107,105,114,110,98,101,114,103,101,114]⟩))],Zm 24 25] (ZC 24 (ZR [Zm 26 0,u1 27 (.buildSlice 1 4 [(.int .i64 0)] [(0,1),(1,1),(2,1),(3,1)]) [.cn (.int .i64 0),.cn (.int .i64 1),.cn (.int .i64 2),.cn (.int .i64 3)],u1 28 (.call 78) [.tm 26,.cn (.bool true),.cn (.int .i64 6),.cn (.int .i64 4),.tm 27],Zs 27 2 28,Zi 3 0] .ret) (ZR [u1 30 (.eqStr false) [.tm 4,.cn (.val (.string ⟨#[118,97,108,108,111,116,116,105]⟩))],Zm 29 30] (ZC 29 (ZR [Zm 31 0,u1 32 (.buildSlice 1 6 [(.int .i64 0)] [(0,1),(1,1),(2,1),(3,1),(4,1),(5,1)]) [.cn (.int .i64 0),.cn (.int .i64 1),.cn (.int .i64 2),.cn (.int .i64 3),.cn (.int .i64 4),.cn (.int .i64 11)],u1 33 (.call 78) [.tm 31,.cn (.bool false),.cn (.int .i64 6),.cn (.int .i64 6),.tm 32],Zs 27 2 33,Zi 3 0] .ret) (ZR [u1 35 (.eqStr false) [.tm 4,.cn (.val (.string ⟨#[121,111,117,110,103]⟩))],Zm 34 35] (ZC 34 (ZR [Zm 36 0,u1 37 (.buildSlice 1 6 [(.int .i64 0)] [(0,1),(1,1),(2,1),(3,1),(4,1),(5,1)]) [.cn (.int .i64 0),.cn (.int .i64 1),.cn (.int .i64 2),.cn (.int .i64 3),.cn (.int .i64 4),.cn (.int .i64 5)],u1 38 (.call 78) [.tm 36,.cn (.bool false),.cn (.int .i64 11),.cn (.int .i64 6),.tm 37],Zs 27 2 38,Zi 3 0] .ret) .skip)))))))))))))))) (ZR [u1 39 (.build [(.val (.string ⟨#[]⟩)),(.bool false),(.int .i64 0),(.int .i64 0),(.int .i64 0),(.int .i64 0),(.int .i64 0),(.int .i64 0),(.int .i64 0),(.int .i64 0),(.int .i64 0),(.int .i64 0),(.int .i64 0),(.int .i64 0),(.int .i64 0),(.int .i64 0),(.int .i64 0),(.int .i64 0),(.int .i64 0),(.int .i64 0),(.int .i64 0),(.int .i64 0),(.int .i64 0),(.int .i64 0),(.int .i64 0),(.int .i64 0),(.int .i64 0)] []) [],Zs 27 2 39,Zi 3 4] .ret)))⟩
theorem YsW:Yn Yb Tryz.f44=some v44:=by kernel_rfl
def v18:VF:=⟨11,[.cell 2 true 27],(ZR [u1 2 (.alloc [(.val (.string ⟨#[]⟩)),(.bool false),(.int .i64 0),(.int .i64 0),(.int .i64 0),(.int .i64 0),(.int .i64 0),(.int .i64 0),(.int .i64 0),(.int .i64 0),(.int .i64 0),(.int .i64 0),(.int .i64 0),(.int .i64 0),(.int .i64 0),(.int .i64 0),(.int .i64 0),(.int .i64 0),(.int .i64 0),(.int .i64 0),(.int .i64 0),(.int .i64 0),(.int .i64 0),(.int .i64 0),(.int .i64 0),(.int .i64 0),(.int .i64 0)]) []] (ZR [Zm 6 0,Zc 7 44 6,Zm 5 7,Ze 8 0 5,Ze 9 1 5,u1 3 (.alloc [(.val (.string ⟨#[]⟩)),(.bool false),(.int .i64 0),(.int .i64 0),(.int .i64 0),(.int .i64 0),(.int .i64 0),(.int .i64 0),(.int .i64 0),(.int .i64 0),(.int .i64 0),(.int .i64 0),(.int .i64 0),(.int .i64 0),(.int .i64 0),(.int .i64 0),(.int .i64 0),(.int .i64 0),(.int .i64 0),(.int .i64 0),(.int .i64 0),(.int .i64 0),(.int .i64 0),(.int .i64 0),(.int .i64 0),(.int .i64 0),(.int .i64 0)]) [],Zs 27 3 8,Zm 4 9] (ZR [Zt 10 27 3,Zs 27 2 10] .ret)))⟩
theorem Ysz:Yn Yb Tryz.f18=some v18:=by kernel_rfl
def v17:VF:=⟨5,[.cell 2 true 3],(ZR [u1 2 (.alloc [(.int .i64 0),(.int .i64 0),(.int .i64 0)]) []] (ZR [Zm 3 0,u1 4 (.build [(.int .i64 0),(.int .i64 0),(.int .i64 0)] [(0,1),(1,1),(2,1)]) [.cn (.int .i64 440000),.cn (.int .i64 15000),.tm 3],Zs 3 2 4] .ret))⟩
theorem Ysy:Yn Yb Tryz.f17=some v17:=by kernel_rfl
def AS(p:Nat->Int×Int)(i:Nat)(x:Int×Int):Nat->Int×Int:=fun k=>if k=i then x else p k
theorem I3(nm:ByteArray)(syn:Bool)(w:Int)(p:Nat->Int×Int){i:Nat}(h:i<12)(a b:Int):
 JT (YW ⟨nm,syn,w,p⟩) (3+Kq (i:Int) 2) [.int .i64 a,.int .i64 b]=YW ⟨nm,syn,w,AS p i (a,b)⟩:=by
 rcases V1 h with rfl|rfl|rfl|rfl|rfl|rfl|rfl|rfl|rfl|rfl|rfl|rfl <;> rfl
theorem OY(i:Nat):Kq (i:Int) 2=i*2:=by simp [Kq]
def BA:Nat->Nat->Int×Int
 |0=>fun _=>(0,0)
 |i+1=>AS (BA i) i (0,1)
def Gf(den:Int)(l:List Int):Nat->Int×Int:=l.foldl (fun p x=>AS p x.toNat (1,den)) (BA 12)
def madC:Ctr:={ alias:=false,of:=fun l=>match l with
 | [.val (.string nm),.bool syn,.int .i64 w,.int .i64 den,.vs _ _ n sz get]=> .ex (List Int) fun l=> .pre (lsP 1 Uj n sz get l/\l.length<=100/\∀x,x∈l->0<=x/\x<=11) (.fin (.agg (YW ⟨nm,syn,w,Gf den l⟩)) [])
 |_=>noC}
theorem To{k:SV->List HO->Prop}{al:Bool}{hp:List HO}{T:Tm}(h:k (.agg (YW T)) []):Jv al k (.agg (YW T)) hp:=
 Ky h (Jq (.agg (YW T)) (JQ T _)) (fun _=>by simp [Y0,Y4,YW,Xv])
def TM0:Env:={ ct:=fun _=>none,fn:=fun _=>none,meth:=fun _ _=>none}
theorem Sz:YE Yb TM0:=by
 refine⟨fun f c h=>?_,fun f vf h=>?_,(fun _ _ _ h=>by cases h),by kernel_rfl,(fun _ h=>by cases h)⟩
 ·cases h
 ·cases h
theorem YmC:madC.ok Yb 78:=by
 refine Yv Tryz.func78 Ytu Sz 600 madC fun args k h=>?_
 simp only[madC]at h
 split at h
 ·rename_i nm syn w den tt z n sz get
  obtain⟨l,⟨⟨rfl,rfl,hg⟩,hn,hl⟩,h⟩:=h
  refine⟨[.val (.string nm),.bool syn,.int .i64 w,.int .i64 den,.vs tt z l.length 1 (fun k=>Uj (l.getD k default))],⟨⟨rfl,trivial⟩,rfl,⟨rfl,rfl⟩,⟨rfl,rfl⟩,⟨id,rfl,rfl,rfl,hg⟩,trivial⟩,?_⟩
  dsimp only[v78,Uj,go_sem,reduceIte,Ya]
  simp only[Yd,Ya,Ye,reduceCtorEq,Yc]
  refine⟨rfl,rfl,?_⟩
  refine Loop.keep [3,0,5,0] Nat (fun i=>[(12,.int .i64 i)]) (fun i=>[(1,.box (YW ⟨nm,syn,w,BA i⟩))]) [] (fun i=>i<=12) (fun i=>12-i) ?_ ?_
  ·refine⟨0,by omega,?_⟩
   dsimp only[YW,Xv,BA,go_sem,reduceIte,Ya]
   simp only[Yf]
   repeat' apply Yy
   all_goals first|exact trivial|decide|rfl|omega|exact(K3 (by omega)).symm|exact YU _ (JQ _ _) |simp
  ·rintro i hi
   dsimp only[Yh,go_sem,reduceIte,Ya]
   simp only[Yd,Ya,Ye,reduceCtorEq,Yc]
   refine⟨fun hlt=>?_,fun hge=>?_⟩
   ·have hi12:i<12:=by omega
    rw[I3 _ _ _ _ hi12,Yg ((i:Int)+1) (by omega)]
    refine⟨⟨by omega,by omega⟩,by rw[OY,Xy];omega,i+1,by omega,by omega,?_⟩
    simp only[Yf]
    refine⟨⟨by decide,by decide,by simp⟩,YU _ (JQ _ _)⟩
   ·obtain rfl:i=12:=by omega
    refine Loop.keep [3,0,5,0] Nat (fun i=>[(13,.int .i64 i)]) (fun i=>[(1,.box (YW ⟨nm,syn,w,Gf den (l.take i)⟩))]) [] (fun i=>i<=l.length) (fun i=>l.length-i) ?_ ?_
    ·refine⟨0,by omega,?_⟩
     dsimp only[go_sem,reduceIte,Ya]
     simp only[Yf]
     refine⟨⟨by decide,by decide,rfl⟩,YU _ (JQ _ _)⟩
    ·rintro i hi
     dsimp only[Yh,go_sem,reduceIte,Ya]
     simp only[Yd,Ya,Ye,reduceCtorEq,Yc]
     refine⟨fun hlt=>?_,fun hge=>?_⟩
     ·have hil:i<l.length:=by omega
      have hx:=hl _ (KK hil)
      obtain⟨m,hm⟩:∃m:Nat,l.getD i default=(m:Int):=⟨(l.getD i default).toNat,by omega⟩
      have hm12:m<12:=by omega
      rw[hm,I3 _ _ _ _ hm12,NO hil (by omega)]
      have hS:Gf den (l.take (i+1))=AS (Gf den (l.take i)) m (1,den):=by
       rw[Gf,W5 hil,hm,Yh];rfl
      refine⟨⟨by omega,by omega⟩,⟨by omega,by omega⟩,by rw[OY,Xy];omega,i+1,by omega,by omega,?_⟩
      rw[hS]
      simp only[Yf]
      refine⟨⟨by decide,by decide⟩,YU _ (JQ _ _)⟩
     ·obtain rfl:i=l.length:=by omega
      rw[QB]
      exact⟨Yr 27,⟨rfl,ZA _⟩,Yr 27,To (T:=⟨nm,syn,w,Gf den l⟩) h⟩
 ·exact h.1.elim
theorem A4{a b:ByteArray}:(a.toList==b.toList)=decide (a.data.toList=b.data.toList):=by
 rw[ByteArray.toList_eq,ByteArray.toList_eq]
 by_cases h:a.data.toList=b.data.toList
 ·rw[decide_eq_true h,beq_iff_eq];exact h
 ·rw[decide_eq_false h,beq_eq_false_iff_ne];exact h
def EQ:Tm:=⟨⟨#[101,113,117,97,108]⟩,false,11,Gf 12 [0,1,2,3,4,5,6,7,8,9,10]⟩
def MT:Tm:=⟨⟨#[109,101,97,110,116,111,110,101]⟩,true,8,Gf 4 [0,1,2,3,4,5,6,7,9,10,11]⟩
def nmdC:Ctr:={ alias:=false,of:=fun l=>match l with
 | [.val (.string b)]=> .ex Bool fun m=> .pre (b=if m then MT.nm else EQ.nm) (.fin (.agg (YW (if m then MT else EQ))) [])
 |_=>noC}
def stdC:Ctr:={ alias:=false,of:=fun l=>match l with
 | [.val (.string b)]=> .ex Bool fun m=> .pre (b=if m then MT.nm else EQ.nm) (.fin (.tup [.agg (YW (if m then MT else EQ)),.int .i64 0]) [])
 |_=>noC}
theorem Tp{k:SV->List HO->Prop}{al:Bool}{hp:List HO}{T:Tm}{e:Int}(h:k (.tup [.agg (YW T),.int .i64 e]) []):Jv al k (.tup [.agg (YW T),.int .i64 e]) hp:=
 Ky h (Jq (.tup [.agg (YW T),.int .i64 e]) ⟨JQ T _,trivial,trivial⟩) (fun _=>by simp [Y0,Y4,YW,Xv])
theorem IY{k:Nat}(h:k<11):k=0\/k=1\/k=2\/k=3\/k=4\/k=5\/k=6\/k=7\/k=8\/k=9\/k=10:=by omega
def TM1:Env:={ ct:=fun n=>match n with|78=>some madC|_=>none,fn:=fun _=>none,meth:=fun _ _=>none}
theorem YgP:TM1.ct 78=some madC:=rfl
theorem YgQ:YE Yb TM1:=by
 refine⟨fun f c h=>?_,fun f vf h=>?_,(fun _ _ _ h=>by cases h),by kernel_rfl,(fun _ h=>by cases h)⟩
 ·simp only[TM1]at h
  split at h
  ·cases h;exact⟨YmC,_,Tryz.func78,rfl,rfl⟩
  ·cases h
 ·cases h
theorem Yq6:stdC.ok Yb 44:=by
 refine Yv Tryz.func44 YsW YgQ 600 stdC fun args k h=>?_
 simp only[stdC]at h
 split at h
 ·rename_i b
  obtain⟨m,hb,h⟩:=h
  have h:k (.tup [.agg (YW (if m then MT else EQ)),.int .i64 0]) []:=h
  refine⟨[.val (.string b)],⟨⟨rfl,trivial⟩,trivial⟩,?_⟩
  subst hb
  dsimp only[v44,YgP,madC,go_sem,reduceIte,Ya]
  simp only[Yd,Ya,Ye,reduceCtorEq,Yc]
  cases m
  ·refine⟨fun _=>⟨by decide,[0,1,2,3,4,5,6,7,8,9,10],⟨⟨rfl,rfl,fun j hj=>?_⟩,by decide,by decide⟩,⟨rfl,ZA _⟩,Yr 27,Tp (T:=EQ) h⟩,fun hf=>?_⟩
   ·rcases IY hj with rfl|rfl|rfl|rfl|rfl|rfl|rfl|rfl|rfl|rfl|rfl <;> exact Y1 _
   ·exact absurd hf (by rw[A4];decide)
  ·refine⟨fun hf=>?_,fun _=>⟨fun hf=>?_,fun _=>⟨fun _=>⟨by decide,[0,1,2,3,4,5,6,7,9,10,11],⟨⟨rfl,rfl,fun j hj=>?_⟩,by decide,by decide⟩,⟨rfl,ZA _⟩,Yr 27,Tp (T:=MT) h⟩,fun hf=>?_⟩⟩⟩
   ·exact absurd hf (by rw[A4];decide)
   ·exact absurd hf (by rw[A4];decide)
   ·rcases IY hj with rfl|rfl|rfl|rfl|rfl|rfl|rfl|rfl|rfl|rfl|rfl <;> exact Y1 _
   ·exact absurd hf (by rw[A4];decide)
 ·exact h.1.elim
theorem Yh6{k:SV->List HO->Prop}{al:Bool}{hp:List HO}{x y z:Int}(h:k (.agg [.int .i64 x,.int .i64 y,.int .i64 z]) []):Jv al k (.agg [.int .i64 x,.int .i64 y,.int .i64 z]) hp:=
 Ky h (Jq (.agg [.int .i64 x,.int .i64 y,.int .i64 z]) ⟨trivial,trivial,trivial,trivial⟩) (fun _=>by simp [Y0,Y4])
def usu6C:Ctr:={ alias:=false,of:=fun l=>match l with
 | [.int .i64 t]=> .fin (.agg [.int .i64 440000,.int .i64 15000,.int .i64 t]) []
 |_=>noC}
theorem Yrz:usu6C.ok Yb 17:=by
 refine Yv Tryz.func17 Ysy Sz 600 usu6C fun args k h=>?_
 simp only[usu6C]at h
 split at h
 ·rename_i t
  refine⟨[.int .i64 t],by simp [leL,le],?_⟩
  dsimp only[v17,go_sem,reduceIte,Ya]
  simp only[Yd,Ya,Ye,reduceCtorEq,Yc]
  exact Yh6 h
 ·exact h.1.elim
def TM2:Env:={ ct:=fun n=>match n with|44=>some stdC|_=>none,fn:=fun _=>none,meth:=fun _ _=>none}
theorem YgR:TM2.ct 44=some stdC:=rfl
theorem YgS:YE Yb TM2:=by
 refine⟨fun f c h=>?_,fun f vf h=>?_,(fun _ _ _ h=>by cases h),by kernel_rfl,(fun _ h=>by cases h)⟩
 ·simp only[TM2]at h
  split at h
  ·cases h;exact⟨Yq6,_,Tryz.func44,rfl,rfl⟩
  ·cases h
 ·cases h
theorem Yni:nmdC.ok Yb 18:=by
 refine Yv Tryz.func18 Ysz YgS 600 nmdC fun args k h=>?_
 simp only[nmdC]at h
 split at h
 ·rename_i b
  obtain⟨m,hb,h⟩:=h
  have h:k (.agg (YW (if m then MT else EQ))) []:=h
  refine⟨[.val (.string b)],⟨⟨rfl,trivial⟩,trivial⟩,?_⟩
  dsimp only[v18,YgR,stdC,go_sem,reduceIte,Ya]
  simp only[Yd,Ya,Ye,reduceCtorEq,Yc]
  exact⟨m,hb,by decide,by decide,⟨rfl,ZA _⟩,Yr 27,⟨rfl,ZA _⟩,Yr 27,To h⟩
 ·exact h.1.elim
def v15:VF:=⟨15,[.cell 6 true 2,.tmp 7],(ZR [u1 3 .box [.tm 0],u1 4 .box [.tm 1],u1 5 .box [.tm 2],Zn 6,Zi 7 0] (ZR [Zt 8 3 3,Zt 9 27 4,Zf 10 1 5,u1 11 (.mkfn (.func 42) 0) [.tm 5,.tm 3],u1 12 (.call 41) [.tm 8,.tm 9,.tm 10,.tm 11],Ze 13 0 12,Ze 14 1 12,Zs 2 6 13,Zm 7 14] .ret))⟩
theorem Ysw:Yn Yb Tryz.f15=some v15:=by kernel_rfl
def v42:VF:=⟨10,[.cell 4 true 2],(ZR [Zn 4] (ZR [Zm 5 0,Zf 6 1 1,Za 7 0 2,Zf 8 1 7,u1 9 (.call 21) [.tm 5,.tm 6,.tm 8],Zs 2 4 9] .ret))⟩
theorem YsU:Yn Yb Tryz.f42=some v42:=by kernel_rfl
def v10:VF:=⟨26,[.tmp 2,.tmp 3],(ZR [u1 1 .box [.tm 0],Zi 2 0,Zi 3 0] (.seq (ZR [Zt 8 3 1,Zc 9 30 8,Zm 4 9] (ZR [Zm 10 4,Zq 11 .neq 10 0] (ZC 11 (ZR [Zm 12 4,Zi 2 0,Zm 3 12] .ret) .skip))) (.seq (.draw [] [Zy 14 2 1,Zv 15 1 14,Zy 17 1 1,Zv 18 1 17,w1 16 (.call 26) [.tm 15,.cn (.int .i64 1)],w1 19 (.call 26) [.tm 18,.cn (.int .i64 (-1))],w1 20 (.buildSlice 2 2 [(.int .i64 0),(.int .i64 0)] [(0,2),(2,2)]) [.tm 16,.tm 19],w1 21 (.call 31) [.tm 20,.cn (.int .i64 1),.cn (.int .i64 600000)],Zu 13 21,ZE 22 0 13,ZE 23 1 13,ZE 24 2 13,Zu 5 22,Zu 6 23,Zu 7 24]) (ZR [Zm 25 5,Zm 2 25,Zi 3 0] .ret))))⟩
theorem YrJ:Yn Yb Tryz.f10=some v10:=by kernel_rfl
def frq6C:Ctr:={ alias:=false,of:=fun l=>match l with
 | [.agg [.int .i64 a,.int .i64 t0,.int .i64 t],.agg cs,.int .i64 note]=> .ex Tm fun T=> .pre (cs=YW T/\T.nm.size<=9223372036854775807/\X5 a t0 t=0/\Ki T=0/\0<=note/\note<=139) (.fin (.tup [.agg [.int .i64 (VJ (Y6 T) t0 t note a).1,.int .i64 (VJ (Y6 T) t0 t note a).2],.int .i64 0]) [])
 |_=>noC}
def TW1:Env:={ ct:=fun n=>match n with|21=>some freqC|30=>some chkSC|45=>some NotC|_=>none,fn:=fun n=>match n with|41=>some v41|19=>some v19|20=>some v20|42=>some v42|_=>none,meth:=fun _ _=>none}
theorem SD:TW1.ct 21=some freqC:=rfl
theorem SE:TW1.ct 30=some chkSC:=rfl
theorem SH:TW1.ct 45=some NotC:=rfl
theorem SF:TW1.ct 41=none:=rfl
theorem SK:TW1.fn 41=some v41:=rfl
theorem SB:TW1.ct 19=none:=rfl
theorem SI:TW1.fn 19=some v19:=rfl
theorem SC:TW1.ct 20=none:=rfl
theorem SJ:TW1.fn 20=some v20:=rfl
theorem SG:TW1.ct 42=none:=rfl
theorem SL:TW1.fn 42=some v42:=rfl
theorem YgW:YE Yb TW1:=by
 refine⟨fun f c h=>?_,fun f vf h=>?_,(fun _ _ _ h=>by cases h),by kernel_rfl,(fun _ h=>by cases h)⟩
 ·simp only[TW1]at h
  split at h
  ·cases h;exact⟨Ykb,_,Tryz.func21,rfl,rfl⟩
  ·cases h;exact⟨Ic,_,Tryz.func30,rfl,rfl⟩
  ·cases h;exact⟨Yfe,_,Tryz.func45,rfl,rfl⟩
  ·cases h
 ·simp only[TW1]at h
  split at h
  ·cases h;exact⟨_,Tryz.func41,YsT,_,Tryz.func41,rfl,rfl⟩
  ·cases h;exact⟨_,Tryz.func19,YsA,_,Tryz.func19,rfl,rfl⟩
  ·cases h;exact⟨_,Tryz.func20,YsB,_,Tryz.func20,rfl,rfl⟩
  ·cases h;exact⟨_,Tryz.func42,YsU,_,Tryz.func42,rfl,rfl⟩
  ·cases h
theorem Ou:frq6C.ok Yb 15:=by
 refine Yv Tryz.func15 Ysw YgW 900 frq6C fun args k h=>?_
 simp only[frq6C]at h
 split at h
 ·rename_i a t0 t cs note
  obtain⟨T,⟨rfl,hnm,hS,hT,hn0,hn1⟩,h⟩:=h
  refine⟨[.agg [.int .i64 a,.int .i64 t0,.int .i64 t],.agg (YW T),.int .i64 note],⟨⟨⟨rfl,rfl⟩,⟨rfl,rfl⟩,⟨rfl,rfl⟩,trivial⟩,YU _ (JQ T _),⟨rfl,rfl⟩,trivial⟩,?_⟩
  dsimp only[v15,Ws,Xy,SD,freqC,SE,chkSC,SH,NotC,SF,SK,v41,SB,SI,v19,SC,SJ,v20,SG,SL,v42,go_sem,reduceIte,Ya]
  simp only[Yd,Ya,Ye,reduceCtorEq,Yc]
  refine⟨ZA T,ZA T,ZA T,fun hs=>absurd hS hs,fun hs=>⟨T,⟨rfl,hnm⟩,?_⟩⟩
  rw[if_neg (fun hh=>hh hT)]
  dsimp only[Ws,Xy,SD,freqC,SE,chkSC,SH,NotC,SF,SK,v41,SB,SI,v19,SC,SJ,v20,SG,SL,v42,go_sem,reduceIte,Ya]
  simp only[Yd,Ya,Ye,reduceCtorEq,Yc]
  obtain⟨ha,hb0,hb1⟩:=GV hS
  refine⟨by decide,by decide,fun hh=>absurd trivial hh,by decide,by decide,fun hh=>absurd trivial hh,fun hc=>?_,fun hc=>⟨Y6 T,⟨fun q _=>Y1 _,⟨hn0,hn1⟩,hb0,hb1⟩,by decide,by decide,?_⟩⟩
  ·simp only[Vk,decide_eq_false_iff_not]at hc;omega
  ·exact Yh5 (show k _ []from h)
 ·exact h.1.elim
def E0(t0 t:Int):Int:=(JG [(273150+t,1),(273150+t0, -1)] 1 600000).1
def drfC:Ctr:={ alias:=false,of:=fun l=>match l with
 | [.agg [.int .i64 a,.int .i64 t0,.int .i64 t]]=> .pre (X5 a t0 t=0) (.fin (.tup [.int .i64 (E0 t0 t),.int .i64 0]) [])
 |_=>noC}
def TW2:Env:={ ct:=fun n=>match n with|30=>some chkSC|26=>some warmC|31=>some flrC|_=>none,fn:=fun _=>none,meth:=fun _ _=>none}
theorem YgY:TW2.ct 30=some chkSC:=rfl
theorem YgX:TW2.ct 26=some warmC:=rfl
theorem YgZ:TW2.ct 31=some flrC:=rfl
theorem Yg0:YE Yb TW2:=by
 refine⟨fun f c h=>?_,fun f vf h=>?_,(fun _ _ _ h=>by cases h),by kernel_rfl,(fun _ h=>by cases h)⟩
 ·simp only[TW2]at h
  split at h
  ·cases h;exact⟨Ic,_,Tryz.func30,rfl,rfl⟩
  ·cases h;exact⟨YeK,_,Tryz.func26,rfl,rfl⟩
  ·cases h;exact⟨Ol,_,Tryz.func31,rfl,rfl⟩
  ·cases h
 ·cases h
theorem Yju:drfC.ok Yb 10:=by
 refine Yv Tryz.func10 YrJ Yg0 600 drfC fun args k h=>?_
 simp only[drfC]at h
 split at h
 ·rename_i a t0 t
  obtain⟨hS,h⟩:=h
  have h:k (.tup [.int .i64 (E0 t0 t),.int .i64 0]) []:=h
  refine⟨[.agg [.int .i64 a,.int .i64 t0,.int .i64 t]],by simp [leL,le],?_⟩
  dsimp only[v10,YgY,chkSC,YgX,warmC,YgZ,flrC,go_sem,reduceIte,Ya]
  simp only[Yd,Ya,Ye,reduceCtorEq,Yc]
  obtain⟨ha,hb0,hb1⟩:=GV hS
  refine⟨fun hh=>absurd hS hh,fun _=>⟨hb1,hb0,by decide,[(273150+t,1),(273150+t0, -1)],⟨rfl,rfl,fun q hq=>?_⟩,by decide,by decide,by decide,UO h⟩⟩
  rcases(show q=0\/q=1 by omega)with rfl|rfl <;> exact Y1 _
 ·exact h.1.elim
theorem Mf:∀l:List (Int×Int),upP (l.map Wi)=upP l^2/\dnP (l.map Wi)=dnP l^2
 | []=>by simp [upP,dnP]
 |x::l=>by
  obtain⟨h1,h2⟩:=Mf l
  rw[KD,upP,dnP,upP,dnP,h1,h2,Yt,Yt]
  unfold Wi
  by_cases c:x.2<0
  ·have c2:x.2*2<0:=by omega
   simp only[if_pos c,if_pos c2,Nat.one_pow]
   rw[show(-(x.2*2)).toNat=(-x.2).toNat*2 by omega,Yl]
   exact⟨trivial,rfl⟩
  ·have c2:¬x.2*2<0:=by omega
   simp only[if_neg c,if_neg c2,Nat.one_pow]
   rw[show(x.2*2).toNat=x.2.toNat*2 by omega,Yl]
   exact⟨rfl,trivial⟩
theorem Mg(w:Nat->Nat):∀l:List (Int×Int),upS w (l.map Wi)=2*upS w l/\dnS w (l.map Wi)=2*dnS w l
 | []=>by simp [upS,dnS]
 |x::l=>by
  obtain⟨h1,h2⟩:=Mg w l
  rw[KD,upS,dnS,upS,dnS,h1,h2]
  unfold Wi
  by_cases c:x.2<0
  ·have c2:x.2*2<0:=by omega
   simp only[if_pos c,if_pos c2]
   rw[show(-(x.2*2)).toNat=2*(-x.2).toNat by omega,Jd]
   omega
  ·have c2:¬x.2*2<0:=by omega
   simp only[if_neg c,if_neg c2]
   rw[show(x.2*2).toNat=2*x.2.toNat by omega,Jd]
   omega
def Kt(r:Rt)(n:Nat)(o t t0:Int):List (Int×Int):=(Ys r).map Wi++[(2,2*(n:Int)*o),(273150+t,(n:Int)),(273150+t0, -(n:Int))]
structure NR (r:Rt) (n:Nat):Prop where
 hn:r.n=n
 rng:1<=n/\n<=1000
 rep:∃L a b c,Rep L r a b c
 u:UP r.a r.b r.c^8<=UP (-r.a) (-r.b) (-r.c)^8*2^(9*n)
 d:UP (-r.a) (-r.b) (-r.c)^8<=UP r.a r.b r.c^8*2^(9*n)
theorem Yno{T:Tm}(h:Ki T=0){note:Int}(hn:0<=note):∃(r:Rt) (n:Nat),JS (Y6 T) note=r/\NR r n:=by
 obtain⟨r,n,h1,h2,h3,h4,h5,h6⟩:=Ynm h hn
 exact⟨r,n,h1,⟨h2,h3,h4,h5,h6⟩⟩
theorem NR.ok{r:Rt}{n:Nat}(h:NR r n):YY r=0:=by
 obtain⟨_,_,_,_,hr⟩:=h.rep
 exact hr.ok
theorem Yrm{T:Tm}{r:Rt}{n:Nat}{t t0 note:Int}(hr:JS (Y6 T) note=r)(h:NR r n):ZD (Y6 T) t0 t note=(Kt r n (note/12-5) t t0,2*(n:Int)):=by
 unfold ZD Kt Fy Hm
 rw[hr,if_pos h.ok,if_pos h.ok,h.hn]
theorem MV{r:Rt}{n:Nat}{o t t0:Int}(h:NR r n)(ht:JB t=true)(ht0:JB t0=true):
 upP (Kt r n o t t0)=UP r.a r.b r.c^2*(UP (2*(n:Int)*o) 0 0*(273150+t).toNat^n)/\dnP (Kt r n o t t0)=UP (-r.a) (-r.b) (-r.c)^2*(UP (-(2*(n:Int)*o)) 0 0*(273150+t0).toNat^n):=by
 obtain⟨_,_,_,_,hr⟩:=h.rep
 obtain⟨tu,td⟩:=NG hr
 have hn:=h.rng
 unfold Kt
 rw[(Xf _ _).1,(Xf _ _).2,(Mf _).1,(Mf _).2,tu,td]
 have h1:¬((n:Int)<0):=by omega
 have h2: -(n:Int)<0:=by omega
 have e:upP [(2,2*(n:Int)*o),(273150+t,(n:Int)),(273150+t0, -(n:Int))]=UP (2*(n:Int)*o) 0 0*(273150+t).toNat^n/\dnP [(2,2*(n:Int)*o),(273150+t,(n:Int)),(273150+t0, -(n:Int))]=UP (-(2*(n:Int)*o)) 0 0*(273150+t0).toNat^n:=by
  have a:=UA [] (2*(n:Int)*o)
  simp only[Vr,upP,dnP,if_neg h1,if_pos h2,Yh,JW,Kb,Kc]at a⊢
  rw[a.1,a.2]
  exact⟨rfl,rfl⟩
 rw[e.1,e.2]
 exact⟨rfl,rfl⟩
theorem L1{r:Rt}{n:Nat}{o t t0:Int}(h:NR r n)(ht:JB t=true)(ht0:JB t0=true)(ho: -5<=o/\o<=6):(∀x,x∈Kt r n o t t0->okU x/\x.1<=1000000/\ -1000000<=x.2/\x.2<=1000000)/\(Kt r n o t t0).length<=9:=by
 have ht:=UB ht
 have ht0:=UB ht0
 have hn:=h.rng
 have hlen:=V0 r
 constructor
 ·intro x hx
  unfold Kt at hx
  rw[KE,QO]at hx
  rcases hx with⟨y,hy,rfl⟩ |hx
  ·have:=A9 h.ok y hy
   unfold okU Wi;simp only;omega
  ·have hm:=Js (x:=2*(n:Int)) (y:=o) (X:=2000) (Y:=6) (by omega) (by omega)
   simp only[K4,List.not_mem_nil,or_false]at hx
   unfold okU
   rcases hx with rfl|rfl|rfl <;> simp only <;> omega
 ·unfold Kt
  rw[JI,Vq]
  simp only[Xr,ZI]
  omega
theorem Yi8{l:List (Int×Int)}(h:∀x,x∈l->okU x/\x.1<=1000000/\ -1000000<=x.2/\x.2<=1000000)(hn:l.length<=16):Xl l=0:=by
 unfold Xl
 rw[if_neg (by omega),if_neg]
 rw[List.any_eq_true]
 rintro⟨x,hx,ho⟩
 obtain⟨h1,h2,h3,h4⟩:=h x hx
 have:=h1.1
 simp only[Xa,Qt,decide_eq_true_eq]at ho
 omega
theorem RK{n:Nat}(h:n<2^29\/n=331300000000):wP n<=2^52:=by
 unfold wP
 split
 ·decide
 ·split
  ·decide
  ·exact Yr _
theorem Ymz{r:Rt}{n:Nat}{o t t0:Int}(h:NR r n)(ht:JB t=true)(ht0:JB t0=true):upS wP (Kt r n o t t0)+dnS wP (Kt r n o t t0)<=400000+n*2^53:=by
 obtain⟨_,_,_,_,hr⟩:=h.rep
 have tw:=YeN hr
 have ht:=UB ht
 have ht0:=UB ht0
 unfold Kt
 rw[(QA wP _ _).1,(QA wP _ _).2,(Mg wP _).1,(Mg wP _).2]
 have h1:¬((n:Int)<0):=by omega
 have w1:=RK (n:=(273150+t).toNat) (Jo (by omega))
 have w2:=RK (n:=(273150+t0).toNat) (Jo (by omega))
 have m1:=Yu n w1
 have m2:=Yu n w2
 have e:upS wP [(2,2*(n:Int)*o),(273150+t,(n:Int)),(273150+t0, -(n:Int))]+dnS wP [(2,2*(n:Int)*o),(273150+t,(n:Int)),(273150+t0, -(n:Int))]<=wP (273150+t).toNat*n+wP (273150+t0).toNat*n:=by
  have z:wP (2:Int).toNat=0:=rfl
  simp only[upS,dnS,if_neg h1,z,JX,ite_self,Yh,JW]
  split
  ·omega
  ·rename_i h2
   have:n=0:=by omega
   subst this
   simp
 omega
theorem C3{n:Nat}{o:Int}(h:o<=6):UP (2*(n:Int)*o) 0 0<=UP (-(2*(n:Int)*o)) 0 0*64^(2*n):=by
 have hm:(2*(n:Int))*o<=2*(n:Int)*6:=Int.mul_le_mul_of_nonneg_left h (by omega)
 unfold UP
 simp only[Int.toNat_zero,JO,Kb]
 rw[show(64:Nat)=2^6 from rfl,<-Yl,<-Yo]
 exact Kl (by decide) (by omega)
theorem Yhi{n:Nat}{o:Int}(h: -5<=o):UP (-(2*(n:Int)*o)) 0 0<=UP (2*(n:Int)*o) 0 0*32^(2*n):=by
 have hm:2*(n:Int)*(-5)<=2*(n:Int)*o:=Int.mul_le_mul_of_nonneg_left h (by omega)
 unfold UP
 simp only[Int.toNat_zero,JO,Kb]
 rw[show(32:Nat)=2^5 from rfl,<-Yl,<-Yo]
 exact Kl (by decide) (by omega)
theorem AF{U V E F n c x y s B:Nat}(hn:1<=n)(hV:0<V)(hF:0<F)(h1:U^8<=V^8*2^(9*n))(h2:E<=F*c^(2*n))(h:2^9*c^8*x^4*s^8<y^4*B^8):
 U^2*(E*x^n)*s^(2*n)<V^2*(F*y^n)*B^(2*n):=by
 refine(Nat.pow_lt_pow_iff_left (show 4≠0 by decide)).1 ?_
 have e1:(U^2*(E*x^n)*s^(2*n))^4=U^8*E^4*((x^4*s^8)^n):=by
  simp only[Yt,<-Yl]
  rw[show 2*4=8 from rfl,Yk n 4,show 2*n*4=8*n by omega]
  simp only[Yx]
 have e2:(V^2*(F*y^n)*B^(2*n))^4=V^8*F^4*((y^4*B^8)^n):=by
  simp only[Yt,<-Yl]
  rw[show 2*4=8 from rfl,Yk n 4,show 2*n*4=8*n by omega]
  simp only[Yx]
 rw[e1,e2]
 have h3:=YM h2 4
 rw[Yt,<-Yl]at h3
 have h4:=Yu ((x^4*s^8)^n) (YP h1 h3)
 refine Jn h4 ?_
 have e3:V^8*2^(9*n)*(F^4*c^(2*n*4))*(x^4*s^8)^n=V^8*F^4*(2^9*c^8*x^4*s^8)^n:=by
  rw[Yl 2 9,show 2*n*4=8*n by omega,Yl c 8,Yx (2^9*c^8),Yt (2^9*c^8),Yt (2^9)]
  generalize(2^9)^n=p at*
  generalize(c^8)^n=q at*
  generalize(x^4*s^8)^n=z at*
  generalize V^8=v at*
  generalize F^4=f at*
  grind
 rw[e3]
 refine Nat.mul_lt_mul_of_pos_left ?_ (Y3 (YD hV) (YD hF))
 exact Nat.pow_lt_pow_left h (by omega)
def Gx(k:Nat)(ex:Bool):Int×Int:=if ex=true then((k:Int),(k:Int))else((k:Int),(k:Int)+1)
theorem Yn5{s:Int}{l:List (Int×Int)}{den:Int}{k:Nat}(h:(XO s l den).1=(k:Int))(hk:k<2^29):Hc s l den=Gx k (XO s l den).2.1:=by
 unfold Hc Gx
 rw[h]
 split
 ·rfl
 ·rw[Yg ((k:Int)+1) (by omega)]
theorem VZ{t:Int}(h:JB t=true):253150<=(273150+t).toNat/\(273150+t).toNat<=323150:=by
 have:=UB h
 omega
theorem Ph{x y a:Nat}(hx:x<=323150)(hy:253150<=y)(ha:a<=1000000):2^9*64^8*x^4*a^8<y^4*160000000^8:=by
 have h1:=YM hx 4
 have h2:=YM hy 4
 have h3:=YM ha 8
 exact Jn (YP (Yz _ h1) h3) (Qf (show 2^9*64^8*323150^4*1000000^8<253150^4*160000000^8 by decide+kernel) (Yu _ h2))
theorem Yke{a t0 t note:Int}{T:Tm}{r:Rt}{n:Nat}(hS:X5 a t0 t=0)(hn:0<=note/\note<=139)(hr:JS (Y6 T) note=r)(h:NR r n):
 ∃k ex,VJ (Y6 T) t0 t note a=Gx k ex/\PowR (Kt r n (note/12-5) t t0) a.toNat (2*n) 160000000 k ex:=by
 obtain⟨ha,h0,h1⟩:=GV hS
 have ho: -5<=note/12-5/\note/12-5<=6:=by omega
 obtain⟨l1,l2⟩:=L1 h h1 h0 ho
 obtain⟨p1,p2⟩:=MV (o:=note/12-5) h h1 h0
 have hs:=Ymz (o:=note/12-5) h h1 h0
 have hrn:=h.rng
 have t1:=VZ h1
 have t2:=VZ h0
 have posV:=KM (-r.a) (-r.b) (-r.c)
 have posF:=KM (-(2*(n:Int)*(note/12-5))) 0 0
 have hw:FC (Kt r n (note/12-5) t t0) a.toNat (2*n):=by
  have w:=Yu (2*n) (RK (n:=a.toNat) (Jo (by omega)))
  unfold FC
  omega
 have hY:0<dnP (Kt r n (note/12-5) t t0):=by
  rw[p2]
  exact Y3 (YD posV) (Y3 posF (YD (by omega)))
 have hB:upP (Kt r n (note/12-5) t t0)*a.toNat^(2*n)<dnP (Kt r n (note/12-5) t t0)*160000000^(2*n):=by
  rw[p1,p2]
  exact AF hrn.1 posV posF h.u (C3 ho.2) (Ph t1.2 t2.1 (by omega))
 obtain⟨k,hk,hp⟩:=Yn1 (s:=a.toNat) (den:=2*n) (B:=160000000) (Yi8 l1 (by omega)) (fun x hx=>(l1 x hx).1) (by omega) (by omega) hw hY hB (by decide)
 have ea:((a.toNat:Nat):Int)=a:=K3 (by omega)
 rw[ea]at hk hp
 refine⟨k,_,?_,hp⟩
 unfold VJ
 rw[Yrm hr h]
 have e2:2*(n:Int)=((2*n:Nat):Int):=by omega
 simp only
 rw[e2]
 exact Yn5 hk (Nat.lt_of_succ_lt hp.lt)
theorem PowR.le_of{l:List (Int×Int)}{s den B r v:Nat}{ex:Bool}(h:PowR l s den B r ex)(hd:1<=den)(hY:0<dnP l)(hv:v<2^30)(hx:upP l*s^den<=dnP l*v^den):r<=v:=by
 rcases KU r with h0|h0
 ·omega
 ·have h1:=h.near h0
  have h1':(dnP l*r^den)^QJ<=(upP l*s^den)^QJ*2^(den*(0*QJ+2^55)):=by rw[JX,KL];exact h1
  have h2:=Pb (t:=2^40) (show 1<=QJ by rw[V8];decide) (by rw[V8];decide) (by decide) h1'
  have h3:dnP l*(r*2^40)^den<=dnP l*(v*(2^0*(2^40+1)))^den:=by
   refine Yj h2 ?_
   rw[Yt v,<-Yx]
   exact Yu _ hx
  have h4:=WV h3 hY
  have h5:=(XY (show den≠0 by omega)).1 h4
  omega
theorem PowR.exact{l:List (Int×Int)}{s den B r v:Nat}{ex:Bool}(h:PowR l s den B r ex)(hd:1<=den)(hY:0<dnP l)(hv1:1<=v)(hv:v<2^29)(hx:upP l*s^den=dnP l*v^den):r=v/\ex=true:=by
 have h1:=h.le_of hd hY (by omega) (YB hx)
 have h2:=h.tru v hv1 hv (YB hx.symm)
 have e:r=v:=by omega
 subst e
 exact⟨rfl,h.ex_iff.2 ⟨hv1,hx⟩⟩
set_option maxHeartbeats 8000000
def v5:VF:=⟨48,[.tmp 0],(ZR [u1 0 .mov [.cn (.bool false)]] (ZR [u1 8 (.call 17) [.cn (.int .i64 15000)],u1 9 (.call 18) [.cn (.val (.string ⟨#[101,113,117,97,108]⟩))],u1 10 (.call 15) [.tm 8,.tm 9,.cn (.int .i64 60)],Zm 7 10,Ze 11 0 7,Ze 12 1 7,Zn 1,Zs 2 1 11,Zm 2 12] (ZR [u1 14 (.call 17) [.cn (.int .i64 20000)],u1 15 (.call 18) [.cn (.val (.string ⟨#[101,113,117,97,108]⟩))],u1 16 (.call 15) [.tm 14,.tm 15,.cn (.int .i64 69)],Zm 13 16,Ze 17 0 13,Ze 18 1 13,Zn 3,Zs 2 3 17,Zm 4 18] (ZR [u1 20 (.call 17) [.cn (.int .i64 20000)],Zc 21 10 20,Zm 19 21,Ze 22 0 19,Ze 23 1 19,Zm 5 22,Zm 6 23] (ZR [Zm 24 2,Zq 25 .eql 24 0,Zm 26 25,Zg 27 26 true 4,u2 28 26 true (.cmp .eql) [.tm 27,.cn (.int .i64 0)],u1 29 .and [.tm 26,.tm 28],Zm 30 29,Zg 31 30 true 6,u2 32 30 true (.cmp .eql) [.tm 31,.cn (.int .i64 0)],u1 33 .and [.tm 30,.tm 32],Zm 34 33,u2 35 34 true (.load true 2) [.tm 1],u2 36 34 true (.build [(.int .i64 0),(.int .i64 0)] [(0,1),(1,1)]) [.cn (.int .i64 261625),.cn (.int .i64 261626)],u2 37 34 true (.eqv false [true,true]) [.tm 35,.tm 36],u1 38 .and [.tm 34,.tm 37],Zm 39 38,u2 40 39 true (.load true 2) [.tm 3],u2 41 39 true (.build [(.int .i64 0),(.int .i64 0)] [(0,1),(1,1)]) [.cn (.int .i64 443801),.cn (.int .i64 443802)],u2 42 39 true (.eqv false [true,true]) [.tm 40,.tm 41],u1 43 .and [.tm 39,.tm 42],Zm 44 43,Zg 45 44 true 5,u2 46 44 true (.cmp .eql) [.tm 45,.cn (.int .i64 14891)],u1 47 .and [.tm 44,.tm 46],Zm 0 47] .ret)))))⟩
theorem Ytb:Yn Yb Tryz.f5=some v5:=by kernel_rfl
def v12:VF:=⟨23,[.tmp 4],(ZR [u1 2 .box [.tm 0],u1 4 .mov [.cn (.bool false)]] (ZR [Za 5 0 2,Zt 6 3 5,Zc 7 32 6,Zq 8 .eql 7 0,Zm 9 8,Zj 10 9 true 3 2,u2 11 9 true (.load true 27) [.tm 10],u2 12 9 true (.call 34) [.tm 11],u2 13 9 true (.cmp .eql) [.tm 12,.cn (.int .i64 0)],u1 14 .and [.tm 9,.tm 13],Zm 15 14,Zg 16 15 true 1,u2 17 15 true (.cmp .geq) [.tm 16,.cn (.int .i64 0)],u1 18 .and [.tm 15,.tm 17],Zm 19 18,Zg 20 19 true 1,u2 21 19 true (.cmp .leq) [.tm 20,.cn (.int .i64 139)],u1 22 .and [.tm 19,.tm 21],Zm 4 22] .ret))⟩
theorem Yr4:Yn Yb Tryz.f12=some v12:=by kernel_rfl
theorem YjN:VJ (Y6 EQ) 15000 15000 60 440000=(261625,261626):=by decide+kernel
theorem YjO:VJ (Y6 EQ) 15000 20000 69 440000=(443801,443802):=by decide+kernel
theorem YjM:E0 15000 20000=14891:=by decide+kernel
theorem Ya2(m:Bool):(if m=true then MT else EQ).nm.size<=9223372036854775807:=by cases m <;> decide
theorem eqT:Ki EQ=0:=by decide+kernel
def UA0:Env:={ ct:=fun n=>match n with|17=>some usu6C|18=>some nmdC|15=>some frq6C|10=>some drfC|_=>none,fn:=fun _=>none,meth:=fun _ _=>none}
theorem Yg3:UA0.ct 17=some usu6C:=rfl
theorem Yg4:UA0.ct 18=some nmdC:=rfl
theorem Yg2:UA0.ct 15=some frq6C:=rfl
theorem Yg1:UA0.ct 10=some drfC:=rfl
theorem Yg5:YE Yb UA0:=by
 refine⟨fun f c h=>?_,fun f vf h=>?_,(fun _ _ _ h=>by cases h),by kernel_rfl,(fun _ h=>by cases h)⟩
 ·simp only[UA0]at h
  split at h
  ·cases h;exact⟨Yrz,_,Tryz.func17,rfl,rfl⟩
  ·cases h;exact⟨Yni,_,Tryz.func18,rfl,rfl⟩
  ·cases h;exact⟨Ou,_,Tryz.func15,rfl,rfl⟩
  ·cases h;exact⟨Yju,_,Tryz.func10,rfl,rfl⟩
  ·cases h
 ·cases h
theorem Yil:trueC.ok Yb 5:=by
 refine Yv Tryz.func5 Ytb Yg5 600 trueC fun args k h=>?_
 simp only[trueC]at h
 split at h
 ·refine⟨[],trivial,?_⟩
  have h:k (.bool true) []:=h
  dsimp only[v5,Ws,Xy,Yg3,Yg4,Yg2,Yg1,usu6C,nmdC,frq6C,drfC,go_sem,reduceIte,Ya]
  simp only[Yd,Ya,Ye,reduceCtorEq,Yc]
  refine⟨false,rfl,EQ,⟨rfl,Ya2 false,by decide,eqT,by decide⟩,by decide,by decide,false,rfl,EQ,⟨rfl,Ya2 false,by decide,eqT,by decide⟩,by decide,by decide,by decide,by decide,by decide,?_⟩
  rw[YjN,YjO,YjM]
  exact Qi h
 ·exact h.1.elim
def EH(a t0 t:Int)(T:Tm):List SV:= .int .i64 a:: .int .i64 t0:: .int .i64 t::YW T
def Ra:List Sh:=[.int .i64,.int .i64,.int .i64,.str,.bool,.int .i64,.int .i64,.int .i64,.int .i64,.int .i64,.int .i64,.int .i64,.int .i64,.int .i64,.int .i64,.int .i64,.int .i64,.int .i64,.int .i64,.int .i64,.int .i64,.int .i64,.int .i64,.int .i64,.int .i64,.int .i64,.int .i64,.int .i64,.int .i64,.int .i64]
def tmOf(nm:ByteArray)(syn:Bool)(w:Int)(l:List Int):Tm:=⟨nm,syn,w,fun i=>(l.getD (2*i) 0,l.getD (2*i+1) 0)⟩
theorem Jz{l:List Sh}{c:List SV}(h:QH (.int .i64::l) c):∃(x:Int) (r:List SV),c= .int .i64 x::r/\QH l r:=by
 obtain⟨v,r,rfl,h1,h2⟩:=Pm h
 obtain⟨a,rfl,_⟩:=Ybi h1
 exact⟨a,r,rfl,h2⟩
theorem Yi0{cs:List SV}(h:QH Ra cs):∃(a t0 t:Int) (T:Tm),cs=EH a t0 t T/\T.nm.size<=maxLen:=by
 obtain⟨a,r0,e0,h0⟩:=Jz h
 obtain⟨t0,r1,e1,h1⟩:=Jz h0
 obtain⟨t,r2,e2,h2⟩:=Jz h1
 obtain⟨v3,r3,e3,⟨nm,u3,hnm⟩,h3⟩:=Pm h2
 obtain⟨v4,r4,e4,⟨syn,u4⟩,h4⟩:=Pm h3
 obtain⟨w,r5,e5,h5⟩:=Jz h4
 obtain⟨x0,r6,e6,h6⟩:=Jz h5
 obtain⟨x1,r7,e7,h7⟩:=Jz h6
 obtain⟨x2,r8,e8,h8⟩:=Jz h7
 obtain⟨x3,r9,e9,h9⟩:=Jz h8
 obtain⟨x4,r10,e10,h10⟩:=Jz h9
 obtain⟨x5,r11,e11,h11⟩:=Jz h10
 obtain⟨x6,r12,e12,h12⟩:=Jz h11
 obtain⟨x7,r13,e13,h13⟩:=Jz h12
 obtain⟨x8,r14,e14,h14⟩:=Jz h13
 obtain⟨x9,r15,e15,h15⟩:=Jz h14
 obtain⟨x10,r16,e16,h16⟩:=Jz h15
 obtain⟨x11,r17,e17,h17⟩:=Jz h16
 obtain⟨x12,r18,e18,h18⟩:=Jz h17
 obtain⟨x13,r19,e19,h19⟩:=Jz h18
 obtain⟨x14,r20,e20,h20⟩:=Jz h19
 obtain⟨x15,r21,e21,h21⟩:=Jz h20
 obtain⟨x16,r22,e22,h22⟩:=Jz h21
 obtain⟨x17,r23,e23,h23⟩:=Jz h22
 obtain⟨x18,r24,e24,h24⟩:=Jz h23
 obtain⟨x19,r25,e25,h25⟩:=Jz h24
 obtain⟨x20,r26,e26,h26⟩:=Jz h25
 obtain⟨x21,r27,e27,h27⟩:=Jz h26
 obtain⟨x22,r28,e28,h28⟩:=Jz h27
 obtain⟨x23,r29,e29,h29⟩:=Jz h28
 have e30:=YnB h29
 exact⟨a,t0,t,tmOf nm syn w [x0,x1,x2,x3,x4,x5,x6,x7,x8,x9,x10,x11,x12,x13,x14,x15,x16,x17,x18,x19,x20,x21,x22,x23],by rw[e0,e1,e2,e3,u3,e4,u4,e5,e6,e7,e8,e9,e10,e11,e12,e13,e14,e15,e16,e17,e18,e19,e20,e21,e22,e23,e24,e25,e26,e27,e28,e29,e30];rfl,hnm⟩
theorem vw_T(b:Bool)(hp:List HO)(f:List SV->List SV)(T:Tm):Qs b hp f (YW T)=YW T:=rfl
end Go.Proofs.YtlhmikjnholpnaaGreatDoor
set_option maxRecDepth 100000
namespace Go.Proofs.YtlhmikjnholpnaaGreatDoor.LB
def Bm(T M:Nat)(n:Nat):Nat->Nat->Bool:=
 Nat.rec (fun _ _=>false) (fun _ ih a b=>Bool.casesOn (Y8 T b) (QN (Y8 M b) (Y8 b a)) (ih b (KZ a b))) n
def eGo(T M:Nat)(n:Nat):Nat->Nat->Bool:=
 Nat.rec (fun _ _=>false) (fun _ ih a b=>(fun c1=>(fun c2=>(fun c3=>(fun c4=>(fun c5=>(fun c6=>(fun c7=>(fun c8=>(fun c9=>(fun c10=>(fun c11=>(fun c12=>(fun c13=>(fun c14=>(fun c15=>(fun c16=>Bool.casesOn (Y8 T c16) (Bm T M 17 a b) (ih c15 c16)) (KZ c14 c15)) (KZ c13 c14)) (KZ c12 c13)) (KZ c11 c12)) (KZ c10 c11)) (KZ c9 c10)) (KZ c8 c9)) (KZ c7 c8)) (KZ c6 c7)) (KZ c5 c6)) (KZ c4 c5)) (KZ c3 c4)) (KZ c2 c3)) (KZ c1 c2)) (KZ b c1)) (KZ a b)) n
def eSt(A B:Int)(a b:Nat):Prop:=∃v0 v1 s:Int,(0<=v0/\0<=v1)/\v1*a+v0*b=A/\(s=1\/s= -1)/\∀v u:Int,∃x y:Int,v=x*v0+y*v1/\v*B-u*A=s*(x*a-y*b)
theorem YjA(A B:Nat):eSt A B A B:=by
 refine⟨0,1, -1,⟨by decide,by decide⟩,by omega,KV rfl,fun v u=>⟨u,v,by omega,?_⟩⟩
 rw[Int.neg_mul,Int.one_mul];omega
theorem Xt{A B:Int}{a b:Nat}(h:eSt A B a b):eSt A B b (a%b):=by
 obtain⟨v0,v1,s,⟨h0,h1⟩,hA,hs,hall⟩:=h
 have hd:(a:Int)=(b:Int)*((a/b:Nat):Int)+((a%b:Nat):Int):=by
  rw[<-JV,<-WT,KO]
 have hq:0<=((a/b:Nat):Int):=Int.natCast_nonneg _
 generalize((a/b:Nat):Int)=q at hd hq
 refine⟨v1,v0+q*v1, -s,⟨h1,?_⟩,?_,?_,fun v u=>?_⟩
 ·exact Int.add_nonneg h0 (ZF hq h1)
 ·rw[<-hA,hd];grind
 ·rcases hs with rfl|rfl
  ·right;rfl
  ·left;rfl
 ·obtain⟨x,y,e1,e2⟩:=hall v u
  refine⟨y-q*x,x,by rw[e1];grind,by rw[e2,hd];grind⟩
theorem YjB{A B:Int}{a b:Nat}(h:eSt A B a b)(hb0:0<b)(hba:b<=a){V:Int}(hV:2*V*b<A){v u:Int}(h0:0<v)(h1:v<=V):(b:Int)<=v*B-u*A\/(b:Int)<=u*A-v*B:=by
 obtain⟨v0,v1,s,⟨g0,g1⟩,hA,hs,hall⟩:=h
 have hd:(a:Int)=(b:Int)*((a/b:Nat):Int)+((a%b:Nat):Int):=by
  rw[<-JV,<-WT,KO]
 have hq:1<=((a/b:Nat):Int):=by
  have:=Nat.div_pos hba hb0
  omega
 have hr:((a%b:Nat):Int)<(b:Int):=by
  have:=Kj a hb0
  omega
 have hr0:0<=((a%b:Nat):Int):=Int.natCast_nonneg _
 have hbp:0<(b:Int):=by omega
 generalize((a/b:Nat):Int)=q at hd hq
 generalize((a%b:Nat):Int)=r at hd hr hr0
 obtain⟨x,y,e1,e2⟩:=hall v u
 generalize(b:Int)=B1 at*
 generalize(a:Int)=A1 at*
 obtain⟨v2,hv2⟩:∃v2,v2=v0+q*v1:=⟨_,rfl⟩
 obtain⟨X,hX⟩:∃X,X=y-q*x:=⟨_,rfl⟩
 have f1:v=X*v1+x*v2:=by rw[e1,hX,hv2];grind
 have f2:v*B-u*A=s*(x*r-X*B1):=by rw[e2,hX,hd];grind
 have f3:A=v2*B1+v1*r:=by rw[<-hA,hd,hv2];grind
 have m1:1*v1<=q*v1:=Xq hq g1
 have f4:v1<=v2:=by omega
 have g2:0<=v2:=by omega
 have m2:v1*r<=v2*B1:=Int.mul_le_mul f4 (by omega) hr0 g2
 have f5:V<v2:=by
  refine Int.lt_of_not_ge fun hh=>?_
  have:=Xq hh (show(0:Int)<=B1 by omega)
  have e:2*V*B1=2*(V*B1):=by grind
  omega
 have key:B1<=x*r-X*B1\/B1<=X*B1-x*r:=by
  rcases Int.lt_trichotomy x 0 with hx|hx|hx
  ·rcases Int.lt_or_le 0 X with hX0|hX0
   ·right
    have a1:1*B1<=X*B1:=Xq (by omega) (by omega)
    have a2:0<=(-x)*r:=ZF (by omega) hr0
    have a3:(-x)*r= -(x*r):=by grind
    omega
   ·exfalso
    have a1:0<=(-X)*v1:=ZF (by omega) g1
    have a2:0<=(-x)*v2:=ZF (by omega) g2
    have a3:(-X)*v1= -(X*v1):=by grind
    have a4:(-x)*v2= -(x*v2):=by grind
    omega
  ·subst hx
   have hXne:X≠0:=fun e=>by rw[e]at f1;omega
   rw[Int.zero_mul]
   rcases Int.lt_or_le 0 X with hX0|hX0
   ·right
    have a1:1*B1<=X*B1:=Xq (by omega) (by omega)
    omega
   ·left
    have a1:1*B1<=(-X)*B1:=Xq (by omega) (by omega)
    have a3:(-X)*B1= -(X*B1):=by grind
    omega
  ·rcases Int.lt_or_le X 0 with hX0|hX0
   ·left
    have a1:1*B1<=(-X)*B1:=Xq (by omega) (by omega)
    have a3:(-X)*B1= -(X*B1):=by grind
    have a2:0<=x*r:=ZF (by omega) hr0
    omega
   ·exfalso
    have a1:0<=X*v1:=ZF hX0 g1
    have a2:1*v2<=x*v2:=Xq (by omega) g2
    omega
 rcases hs with rfl|rfl
 ·rw[f2];omega
 ·rw[f2];omega
def IP(A B:Int)(T M:Nat):Prop:=∃a b,eSt A B a b/\M<=b/\b<=a/\b<T
theorem IS{A B:Int}{T M:Nat}:∀(n a b:Nat),Bm T M n a b=true->eSt A B a b->IP A B T M
 |0,_,_,h,_=>by cases h
 |n+1,a,b,h,hs=>by
  have h:Bool.casesOn (motive:=fun _=>Bool) (Y8 T b) (QN (Y8 M b) (Y8 b a)) (Bm T M n b (KZ a b))=true:=h
  cases hb:Y8 T b with
  |false=>
   rw[hb]at h
   have h:QN (Y8 M b) (Y8 b a)=true:=h
   have h:=Bool.and_eq_true_iff.1 h
   refine⟨a,b,hs,KI h.1,KI h.2,Nat.lt_of_not_le fun hh=>?_⟩
   rw[Nat.ble_eq_true_of_le hh]at hb;cases hb
  |true=>
   rw[hb]at h
   exact IS n _ _ h (Xt hs)
theorem IN{A B:Int}{T M:Nat}:∀(n a b:Nat),eGo T M n a b=true->eSt A B a b->IP A B T M
 |0,_,_,h,_=>by cases h
 |n+1,a,b,h,hs=>by
  obtain⟨c1,hc1⟩:∃c,c=KZ a b:=⟨_,rfl⟩
  have s1:eSt A B b c1:=by rw[hc1];exact Xt hs
  obtain⟨c2,hc2⟩:∃c,c=KZ b c1:=⟨_,rfl⟩
  have s2:eSt A B c1 c2:=by rw[hc2];exact Xt s1
  obtain⟨c3,hc3⟩:∃c,c=KZ c1 c2:=⟨_,rfl⟩
  have s3:eSt A B c2 c3:=by rw[hc3];exact Xt s2
  obtain⟨c4,hc4⟩:∃c,c=KZ c2 c3:=⟨_,rfl⟩
  have s4:eSt A B c3 c4:=by rw[hc4];exact Xt s3
  obtain⟨c5,hc5⟩:∃c,c=KZ c3 c4:=⟨_,rfl⟩
  have s5:eSt A B c4 c5:=by rw[hc5];exact Xt s4
  obtain⟨c6,hc6⟩:∃c,c=KZ c4 c5:=⟨_,rfl⟩
  have s6:eSt A B c5 c6:=by rw[hc6];exact Xt s5
  obtain⟨c7,hc7⟩:∃c,c=KZ c5 c6:=⟨_,rfl⟩
  have s7:eSt A B c6 c7:=by rw[hc7];exact Xt s6
  obtain⟨c8,hc8⟩:∃c,c=KZ c6 c7:=⟨_,rfl⟩
  have s8:eSt A B c7 c8:=by rw[hc8];exact Xt s7
  obtain⟨c9,hc9⟩:∃c,c=KZ c7 c8:=⟨_,rfl⟩
  have s9:eSt A B c8 c9:=by rw[hc9];exact Xt s8
  obtain⟨c10,hc10⟩:∃c,c=KZ c8 c9:=⟨_,rfl⟩
  have s10:eSt A B c9 c10:=by rw[hc10];exact Xt s9
  obtain⟨c11,hc11⟩:∃c,c=KZ c9 c10:=⟨_,rfl⟩
  have s11:eSt A B c10 c11:=by rw[hc11];exact Xt s10
  obtain⟨c12,hc12⟩:∃c,c=KZ c10 c11:=⟨_,rfl⟩
  have s12:eSt A B c11 c12:=by rw[hc12];exact Xt s11
  obtain⟨c13,hc13⟩:∃c,c=KZ c11 c12:=⟨_,rfl⟩
  have s13:eSt A B c12 c13:=by rw[hc13];exact Xt s12
  obtain⟨c14,hc14⟩:∃c,c=KZ c12 c13:=⟨_,rfl⟩
  have s14:eSt A B c13 c14:=by rw[hc14];exact Xt s13
  obtain⟨c15,hc15⟩:∃c,c=KZ c13 c14:=⟨_,rfl⟩
  have s15:eSt A B c14 c15:=by rw[hc15];exact Xt s14
  obtain⟨c16,hc16⟩:∃c,c=KZ c14 c15:=⟨_,rfl⟩
  have s16:eSt A B c15 c16:=by rw[hc16];exact Xt s15
  have h:Bool.casesOn (motive:=fun _=>Bool) (Y8 T c16) (Bm T M 17 a b) (eGo T M n c15 c16)=true:=by
   subst hc16
   subst hc15
   subst hc14
   subst hc13
   subst hc12
   subst hc11
   subst hc10
   subst hc9
   subst hc8
   subst hc7
   subst hc6
   subst hc5
   subst hc4
   subst hc3
   subst hc2
   subst hc1
   exact h
  cases hb:Y8 T c16 with
  |false=>
   rw[hb]at h
   exact IS _ _ _ h hs
  |true=>
   rw[hb]at h
   exact IN n _ _ h s16
theorem Yjx{A B T M n V:Nat}(h:eGo T M n A B=true)(hM:0<M)(hV:2*V*T<=A){v u:Int}(h0:0<v)(h1:v<=V):(M:Int)<=v*B-u*A\/(M:Int)<=u*A-v*B:=by
 obtain⟨a,b,hs,h2,h3,h4⟩:=IN n A B h (YjA A B)
 have h5:2*V*b<A:=by
  rcases KU V with rfl|hp
  ·omega
  ·have h6:2*V*(b+1)<=2*V*T:=Yz _ h4
   rw[Y9]at h6
   omega
 have h5':2*(V:Int)*(b:Int)<(A:Int):=by
  have:=Int.ofNat_lt.2 h5
  rw[JV,JV]at this
  exact this
 have:=YjB hs (by omega) h3 h5' (u:=u) h0 h1
 omega
end Go.Proofs.YtlhmikjnholpnaaGreatDoor.LB
set_option maxRecDepth 100000
namespace Go.Proofs.YtlhmikjnholpnaaGreatDoor.LB
def ePt(n:Nat):Nat:=Kx 2 n
def eA:Nat:=ePt 2100
def eM:Nat:=ePt 1070
def IM(N x t:Nat):Nat:=Nat.shiftRight (K5 x t) N
def IT(N y t:Nat):Nat:=Nat.succ (Nat.shiftRight (K5 y t) N)
theorem Yjw(N x t:Nat):IM N x t=x*t/ePt N:=Nat.shiftRight_eq_div_pow _ N
theorem YjC(N x t:Nat):IT N x t=x*t/ePt N+1:=congrArg Nat.succ (Nat.shiftRight_eq_div_pow _ N)
theorem ePt_pos(n:Nat):0<ePt n:=YD (by decide)
end Go.Proofs.YtlhmikjnholpnaaGreatDoor.LB
set_option maxRecDepth 100000
namespace Go.Proofs.YtlhmikjnholpnaaGreatDoor.LB
theorem ePt_add(a b:Nat):ePt a*ePt b=ePt (a+b):=(Yo 2 a b).symm
theorem IQ:ePt 1=2:=rfl
theorem ePt_le{a b:Nat}(h:a<=b):ePt a<=ePt b:=Kl (by decide) h
theorem Yjz{a b:Nat}(h:a<b):ePt a<ePt b:=(Nat.pow_lt_pow_iff_right (by decide)).2 h
end Go.Proofs.YtlhmikjnholpnaaGreatDoor.LB
set_option maxRecDepth 100000
namespace Go.Proofs.YtlhmikjnholpnaaGreatDoor.LB
def Gap(V G q α β:Nat):Prop:=∀u v,0<u->0<v->u<=V->v<=V->(u^q*α<β*v^q->u^q*α*(G+1)^q<=β*v^q*G^q)/\(β*v^q<u^q*α->β*v^q*(G+1)^q<=u^q*α*G^q)
theorem Ykl{A M G V q α β x y e T:Nat}(hA:0<A)(hM:0<M)(hα:0<α)(hx:x^q*α<=β*A^q)(hy:β*A^q<=y^q*α)(hxy:y<=x+e)(hV:V*e<M)(hG:V*A+V*e*(G+1)<=M*G)(hVT:2*V*T<=A)(hq:0<q){f:Nat}(h:eGo T M f A x=true):Gap V G q α β:=by
 intro u v hu0 hv0 hu hv
 have hf:=Yjx h hM hVT (v:=(v:Int)) (u:=(u:Int)) (by omega) (Int.ofNat_le.2 hv)
 rw[<-JV,<-JV]at hf
 have hfar:M+u*A<=v*x\/M+v*x<=u*A:=by
  generalize u*A=a at*
  generalize v*x=b at*
  omega
 have hAq:0<A^q:=YD hA
 have uA:u*A<=V*A:=Yu A hu
 have ve:v*e<=V*e:=Yu e hv
 have vy:v*y<=v*x+v*e:=by rw[<-Y9];exact Yz v hxy
 constructor
 ·intro hlt
  rcases hfar with h1|h1
  ·have h2:u*(G+1)*A<=v*G*x:=by
    have a1:=Yu G h1
    rw[YN]at a1
    have e1:u*(G+1)*A=u*A*G+u*A:=by rw[Y9,Kb,YN];ac_rfl
    have e2:v*G*x=v*x*G:=by ac_rfl
    omega
   have h3:=YM h2 q
   rw[Yt,Yt,Yt,Yt]at h3
   have h4:=Yz (v^q*G^q) hx
   have h5:=Yu α h3
   refine Kr (c:=A^q) ?_ hAq
   refine Yj (YB ?_) (Yj h5 (Yj (YB ?_) (Yj h4 (YB ?_)))) <;> ac_rfl
  ·exfalso
   have h2:v*y<=u*A:=by omega
   have h3:=YM h2 q
   rw[Yt,Yt]at h3
   have h4:=Yz (v^q) hy
   have h5:=Yu α h3
   have h6:β*v^q*A^q<=u^q*α*A^q:=by
    refine Yj (YB ?_) (Yj h4 (Yj (YB ?_) (Yj h5 (YB ?_)))) <;> ac_rfl
   have h7:=Kr h6 hAq
   omega
 ·intro hlt
  rcases hfar with h1|h1
  ·exfalso
   have h3:=YM (show u*A<=v*x by omega) q
   rw[Yt,Yt]at h3
   have h4:=Yz (v^q) hx
   have h5:=Yu α h3
   have h6:u^q*α*A^q<=β*v^q*A^q:=by
    refine Yj (YB ?_) (Yj h5 (Yj (YB ?_) (Yj h4 (YB ?_)))) <;> ac_rfl
   have h7:=Kr h6 hAq
   omega
  ·have h2:v*y*(G+1)<=u*A*G:=by
    have a4:=Yu G h1
    have a5:=Yu (G+1) (show v*y<=v*x+V*e by omega)
    rw[YN]at a4
    have e1:(v*x+V*e)*(G+1)=v*x*G+v*x+V*e*(G+1):=by rw[YN,Y9 (v*x),Kb]
    omega
   have h3:=YM h2 q
   rw[Yt,Yt,Yt,Yt]at h3
   have h4:=Yz (v^q*(G+1)^q) hy
   have h5:=Yu α h3
   refine Kr (c:=A^q) ?_ hAq
   refine Yj (YB ?_) (Yj h4 (Yj (YB ?_) (Yj h5 (YB ?_)))) <;> ac_rfl
theorem Gap.scale{V G q α β α' β':Nat}(hα:0<α)(hα':0<α')(h:Gap V G q α β)(he:α'*β=α*β'):Gap V G q α' β':=by
 intro u v hu0 hv0 hu hv
 obtain⟨h1,h2⟩:=h u v hu0 hv0 hu hv
 have e1:∀z w:Nat,(z*(w*α'))*α=(z*(w*α))*α':=fun z w=>by ac_rfl
 have e2:∀z w:Nat,(z*(β'*w))*α=(z*(β*w))*α':=fun z w=>by
  have:(z*(β'*w))*α=z*w*(α*β'):=by ac_rfl
  rw[this,<-he];ac_rfl
 constructor
 ·intro hlt
  have a1:=ZL hlt hα
  have a2:(u^q*α)*α'<(β*v^q)*α':=by
   have x1:=e1 1 (u^q)
   have x2:=e2 1 (v^q)
   rw[Kc,Kc]at x1 x2
   omega
  have a3:=Yu α' (h1 (Nat.lt_of_mul_lt_mul_right a2))
  refine Kr (c:=α) ?_ hα
  have x1:=e1 ((G+1)^q) (u^q)
  have x2:=e2 (G^q) (v^q)
  rw[Yk (u^q*α'),Yk (β'*v^q),x1,x2,Yk ((G+1)^q),Yk (G^q)]
  exact a3
 ·intro hlt
  have a1:=ZL hlt hα
  have a2:(β*v^q)*α'<(u^q*α)*α':=by
   have x1:=e1 1 (u^q)
   have x2:=e2 1 (v^q)
   rw[Kc,Kc]at x1 x2
   omega
  have a3:=Yu α' (h2 (Nat.lt_of_mul_lt_mul_right a2))
  refine Kr (c:=α) ?_ hα
  have x1:=e1 (G^q) (u^q)
  have x2:=e2 ((G+1)^q) (v^q)
  rw[Yk (u^q*α'),Yk (β'*v^q),x1,x2,Yk (G^q),Yk ((G+1)^q)]
  exact a3
def pA:Nat:=ePt 320
def pTh:Nat:=ePt 199
def pM:Nat:=ePt 172
def pE:Nat:=ePt 40
def pV:Nat:=ePt 120
def pG:Nat:=ePt 270
theorem p1:pV*pE<pM:=by
 have e:ePt 120*ePt 40<ePt 172:=by rw[ePt_add];exact Yjz (by decide)
 unfold pV pE pM
 exact e
theorem p2:pV*pA+pV*pE*(pG+1)<=pM*pG:=by
 have e1:ePt 120*ePt 320=ePt 440:=ePt_add _ _
 have e2:ePt 172*ePt 270=ePt 442:=ePt_add _ _
 have e3:ePt 120*ePt 40*ePt 271=ePt 431:=by rw[ePt_add,ePt_add]
 have e4:ePt 431<=ePt 440:=ePt_le (by decide)
 have e5:ePt 442=4*ePt 440:=by rw[show(4:Nat)=ePt 2 from rfl,ePt_add]
 have e6:ePt 271=2*ePt 270:=by rw[<-IQ,ePt_add]
 have hp:=ePt_pos 270
 have e7:ePt 120*ePt 40*(ePt 270+1)<=ePt 120*ePt 40*ePt 271:=Yz _ (by omega)
 unfold pV pA pE pG pM
 omega
theorem p3:2*pV*pTh<=pA:=by
 have e:ePt 1*ePt 120*ePt 199=ePt 320:=by rw[ePt_add,ePt_add]
 rw[IQ]at e
 unfold pV pTh pA
 exact YB e
theorem Pv:0<pA:=by unfold pA;exact ePt_pos 320
theorem YnP:0<pM:=by unfold pM;exact ePt_pos 172
def pDn(x t:Nat):Nat:=IM 320 x t
def pUp(y t:Nat):Nat:=IT 320 y t
def BO(q s t:Nat)(n:Nat):Nat->Nat->Nat->Bool:=
 Nat.rec (fun _ _ _=>true) (fun _ ih r x y=>Bool.casesOn (Bool.casesOn (YL (YG r q) 1) true (QN (Y8 y (Kf x pE)) (eGo pTh pM 20 pA x))) false
  (ih (Nat.succ r) (pDn x s) (pUp y t))) n
def kLw(c1 c2 D E q r x:Nat):Prop:=x^q*(D^q*c2^r)<=c1^r*E^q*pA^q
def kHi(c1 c2 D E q r y:Nat):Prop:=c1^r*E^q*pA^q<=y^q*(D^q*c2^r)
theorem Yk3{c1 c2 D E q r x s:Nat}(h1:kLw c1 c2 D E q r x)(h2:s^q*c2<=c1*pA^q):kLw c1 c2 D E q (r+1) (pDn x s):=by
 unfold kLw at*
 have e:pDn x s=x*s/pA:=Yjw 320 x s
 rw[e]
 have hA:0<pA:=Pv
 have h3:=YM (XW (x*s) pA) q
 rw[Yt,Yt]at h3
 have h4:=YP h1 h2
 have h5:=Yu (D^q*c2^(r+1)) h3
 refine Kr (c:=pA^q) ?_ (YD hA)
 refine Yj (YB ?_) (Yj h5 (Yj (YB ?_) (Yj h4 (YB ?_))))
 ·ac_rfl
 ·rw[YF];ac_rfl
 ·rw[YF];ac_rfl
theorem Yk2{c1 c2 D E q r y t:Nat}(h1:kHi c1 c2 D E q r y)(h2:c1*pA^q<=t^q*c2):kHi c1 c2 D E q (r+1) (pUp y t):=by
 unfold kHi at*
 have e:pUp y t=y*t/pA+1:=YjC 320 y t
 rw[e]
 have hA:0<pA:=Pv
 have h0:y*t<=(y*t/pA+1)*pA:=by
  have:=KO (y*t) pA
  have:=Kj (y*t) hA
  rw[YN,Kc,Yk (y*t/pA)];omega
 have h3:=YM h0 q
 rw[Yt,Yt]at h3
 have h4:=YP h1 h2
 have h5:=Yu (D^q*c2^(r+1)) h3
 refine Kr (c:=pA^q) ?_ (YD hA)
 refine Yj (YB ?_) (Yj h4 (Yj (YB ?_) (Yj h5 (YB ?_))))
 ·rw[YF];ac_rfl
 ·rw[YF];ac_rfl
 ·ac_rfl
theorem Yaf{c1 c2 D E q s t:Nat}(hD:0<D)(hc2:0<c2)(hq:0<q)(hs:s^q*c2<=c1*pA^q)(ht:c1*pA^q<=t^q*c2):∀(n r x y:Nat),BO q s t n r x y=true->kLw c1 c2 D E q r x->kHi c1 c2 D E q r y->∀i,i<n->YG (r+i) q=1->Gap pV pG q (D^q*c2^(r+i)) (c1^(r+i)*E^q)
 |0,_,_,_,_,_,_,i,hi,_=>absurd hi (QC _)
 |n+1,r,x,y,h,hx,hy,i,hi,hg=>by
  have h:Bool.casesOn (motive:=fun _=>Bool) (Bool.casesOn (motive:=fun _=>Bool) (YL (YG r q) 1) true (QN (Y8 y (Kf x pE)) (eGo pTh pM 20 pA x))) false (BO q s t n (Nat.succ r) (pDn x s) (pUp y t))=true:=h
  cases hb:Bool.casesOn (motive:=fun _=>Bool) (YL (YG r q) 1) true (QN (Y8 y (Kf x pE)) (eGo pTh pM 20 pA x))with
  |false=>rw[hb]at h;cases h
  |true=>
   rw[hb]at h
   cases i with
   |zero=>
    have hg:YG r q=1:=hg
    rw[hg]at hb
    have hb:QN (Y8 y (Kf x pE)) (eGo pTh pM 20 pA x)=true:=hb
    have hb:=Bool.and_eq_true_iff.1 hb
    exact Ykl (A:=pA) (M:=pM) (G:=pG) (V:=pV) (T:=pTh) (e:=pE) Pv YnP (Y3 (YD hD) (YD hc2)) hx hy (KI hb.1) p1 p2 p3 hq hb.2
   |succ i=>
    have:=Yaf hD hc2 hq hs ht n (r+1) _ _ h (Yk3 hx hs) (Yk2 hy ht) i (by omega) (by rw[show r+1+i=r+(i+1)by omega];exact hg)
    rw[show r+1+i=r+(i+1)by omega]at this
    exact this
def kSer(y:Nat)(n:Nat):Nat->Nat->Nat->Nat:=
 Nat.rec (fun _ _ s=>s) (fun _ ih i m s=>Bool.casesOn (YL m 0) (ih (Nat.succ i) (Jm (Nat.shiftRight (K5 m y) 384) (Nat.succ i)) (Kf s m)) s) n
def kRt(ln q:Nat):Nat:=Nat.shiftRight (kSer (Jm ln q) 200 0 (Kx 2 384) 0) 64
def U7(c1 c2 D E ln q n:Nat):Bool:=
 (fun s=>(fun t=>(fun x=>QN (QN (Y8 (K5 (Kx s q) c2) (K5 c1 (Kx pA q))) (Y8 (K5 c1 (Kx pA q)) (K5 (Kx t q) c2))) (BO q s t n 0 x (Nat.succ x))) (Jm (K5 E pA) D)) (Kf (kRt ln q) 1024)) (Nat.sub (kRt ln q) 1024)
theorem Yad{c1 c2 D E ln q n:Nat}(hD:0<D)(hc2:0<c2)(hq:0<q)(h:U7 c1 c2 D E ln q n=true):∀i,i<n->YG i q=1->Gap pV pG q (D^q*c2^i) (c1^i*E^q):=by
 obtain⟨s,hs0⟩:∃s,s=kRt ln q-1024:=⟨_,rfl⟩
 obtain⟨t,ht0⟩:∃t,t=kRt ln q+1024:=⟨_,rfl⟩
 have h:((Y8 (s^q*c2) (c1*pA^q)&&Y8 (c1*pA^q) (t^q*c2))&&BO q s t n 0 (E*pA/D) (E*pA/D+1))=true:=by rw[hs0,ht0];exact h
 simp only[YS]at h
 obtain⟨⟨a,b⟩,h⟩:=h
 have:=Yaf (c1:=c1) (c2:=c2) (D:=D) (E:=E) hD hc2 hq (KI a) (KI b) n 0 _ _ h (by
  unfold kLw
  have k:=YM (XW (E*pA) D) q
  rw[Yt,Yt]at k
  rw[JO,JO,Kb,Kc]
  exact k) (by
  unfold kHi
  have h0:E*pA<=(E*pA/D+1)*D:=by
   have:=KO (E*pA) D
   have:=Kj (E*pA) hD
   rw[YN,Kc,Yk (E*pA/D)];omega
  have k:=YM h0 q
  rw[Yt,Yt]at k
  rw[JO,JO,Kb,Kc]
  exact k)
 intro i hi hg
 have h9:=this i hi (by rw[KL];exact hg)
 rw[KL]at h9
 exact h9
def KN(c1 c2 ln h a n:Nat):Bool:=
 Nat.rec true (fun i ih=>QN (U7 c1 c2 (Kx c2 h) (Kx c1 h) ln (Kf a i) (Nat.succ (K5 22 (Kf a i)))) ih) n
theorem Yac{c1 c2 ln h a:Nat}(hc2:0<c2)(ha:0<a):∀n,KN c1 c2 ln h a n=true->∀i,i<n->∀r,r<22*(a+i)+1->YG r (a+i)=1->Gap pV pG (a+i) (c2^(h*(a+i)+r)) (c1^(h*(a+i)+r))
 |0,_,i,hi,_,_,_=>absurd hi (QC _)
 |n+1,hk,i,hi,r,hr,hg=>by
  have hk:(U7 c1 c2 (c2^h) (c1^h) ln (a+n) (22*(a+n)+1)&&KN c1 c2 ln h a n)=true:=hk
  rw[YS]at hk
  rcases YV i n with hin|hin
  ·exact Yac hc2 ha n hk.2 i hin r hr hg
  ·have e:i=n:=by omega
   subst e
   have g:=Yad (YD hc2) hc2 (by omega) hk.1 r hr hg
   rw[<-Yl,<-Yl,<-Yo,<-Yo,Nat.add_comm r]at g
   exact g
theorem Gap.symm{V G q α β:Nat}(h:Gap V G q α β):Gap V G q β α:=by
 intro u v hu0 hv0 hu hv
 obtain⟨h1,h2⟩:=h v u hv0 hu0 hv hu
 rw[Yk (v^q) α,Yk β (u^q)]at h1 h2
 exact⟨h2,h1⟩
theorem Ykm{α β K:Nat}(hK:K=1048576)(ha:α<=K*pV)(hb:β<=K*pV):Gap pV pG 1 α β:=by
 have hG:K*pV*pV<=pG:=by
  have h20:ePt 20=1048576:=rfl
  have e:ePt 20*ePt 120*ePt 120=ePt 260:=by rw[ePt_add,ePt_add]
  have e2:ePt 260<=ePt 270:=ePt_le (by decide)
  rw[h20,<-hK]at e
  unfold pV pG
  omega
 intro u v hu0 hv0 hu hv
 simp only[Wg]
 have a1:=YP hu ha
 have a2:=YP hb hv
 rw[Yk pV]at a1
 constructor
 ·intro h
  have k:=Yu pG (show u*α+1<=β*v from h)
  rw[YN,Kc]at k
  rw[Y9,Kb]
  omega
 ·intro h
  have k:=Yu pG (show β*v+1<=u*α from h)
  rw[YN,Kc]at k
  rw[Y9,Kb]
  omega
theorem kOne{c1 c2 ln L n:Nat}(hc2:0<c2)(h:U7 c1 c2 (Kx c2 L) (Kx c1 L) ln 1 n=true){i:Nat}(hi:i<n):Gap pV pG 1 (c2^(L+i)) (c1^(L+i)):=by
 have h:U7 c1 c2 (c2^L) (c1^L) ln 1 n=true:=h
 have g:=Yad (YD hc2) hc2 (by decide) h i hi (Nat.gcd_one_right _)
 rw[Wg,Wg,<-Yo,<-Yo,Nat.add_comm i]at g
 exact g
end Go.Proofs.YtlhmikjnholpnaaGreatDoor.LB
