/- Powers of a number, evaluated: its logarithm's places do not end in nothing but zeros or ones. -/
import Derived.Test.YtlhmikjnholpnaaGreatDoorMgX53f
import Derived.Test.YtlhmikjnholpnaaGreatDoorMgX53j
import Derived.Test.YtlhmikjnholpnaaGreatDoorMgX53k
import Derived.Test.YtlhmikjnholpnaaGreatDoorMgX53l
import Derived.Test.YtlhmikjnholpnaaGreatDoorMgX53m
import Derived.Test.YtlhmikjnholpnaaGreatDoorMgX53h
import Derived.Test.YtlhmikjnholpnaaGreatDoorMgX53g
import Derived.Test.YtlhmikjnholpnaaGreatDoorMgX53d
import Derived.Test.YtlhmikjnholpnaaGreatDoorMgX53e
open And renaming intro->YC
open Bool renaming and_eq_false_iff->Wn,and_eq_true->YS,or_eq_false_iff->K5,or_eq_true->Qj
open Int renaming add_zero->Zb,mul_comm->KM,mul_le_mul_of_nonneg_right->XC,mul_neg->KN,mul_nonneg->ZZ,natCast_add->VH,natCast_mul->Qr,neg_neg->Jx,tdiv_eq_ediv_of_nonneg->Wo,tmod_eq_emod_of_nonneg->UX,toNat_natCast->Yj,toNat_of_nonneg->K7
open Go.IntWalk renaming i64_in->Yg,up_tmod->VI
open List renaming all_eq_true->VJ,append_nil->Wr,cons_append->Ws,getD_eq_getElem?_getD->Kh,getElem?_append_left->QY,getElem?_append_right->Z0,length_append->JO,length_cons->XS,length_map->VN,length_nil->Z1,map_cons->KH,mem_append->Ky,mem_cons->Kz,mem_cons_of_mem->KX,mem_cons_self->KR,mem_map->QM,mem_singleton->Jj,nil_append->VP,not_mem_nil->Z3,take_length->Xt
open Nat renaming add_assoc->Zk,add_mul->YM,add_zero->KO,ble->Y7,div_add_mod->KP,dvd_trans->JY,eq_zero_or_pos->Jc,gcd->YI,gcd_dvd_left->WI,le_of_ble_eq_true->KC,le_of_eq->Yx,le_of_lt->JZ,le_of_mul_le_mul_left->Vg,le_of_mul_le_mul_right->Ki,le_of_not_lt->XF,le_refl->Yt,le_trans->Yh,lt_of_le_of_lt->JC,lt_of_lt_of_le->Qt,lt_of_not_le->WJ,lt_or_ge->YY,mod_lt->Kj,mul_add->Ka,mul_assoc->YA,mul_comm->Yl,mul_le_mul->YX,mul_le_mul_left->Yz,mul_le_mul_right->Yp,mul_left_comm->Jd,mul_lt_mul_of_pos_right->ZB,mul_one->Y0,mul_pos->Y1,mul_pow->Yq,mul_right_comm->Vh,mul_zero->ZD,not_lt_zero->J8,one_mul->Y2,pow->KI,pow_add->Yo,pow_le_pow_iff_left->ZF,pow_le_pow_left->YG,pow_le_pow_right->Kp,pow_mul->Ym,pow_pos->YB,pow_succ->YH,pow_zero->Jk,reduceAdd->Ya,reduceBEq->Yk,reduceEqDiff->Yc,reduceLeDiff->Ye,two_pow_pos->QC,zero_add->KJ,zero_le->JJ,zero_mul->JP
open Or renaming inl->KD,inr->KK
open Go.Proofs.Tryz renaming prog->Yb
set_option linter.all false
namespace Go.Proofs.YtlhmikjnholpnaaGreatDoor
open Go Go.Vx
def UD(J n:Nat):Prop:=∀m,¬Near (2^4160) (2^2160) J n m
theorem BW{J n:Nat}(hJ:J<=500)(h1:1<=n)(h2:n<2^61)(h:(∃q,n=2^q)\/UD J n):Qw J n:=by
 rcases Ykc h1 (Nat.lt_trans h2 (by decide)) hJ with hn| ⟨hp,m,hm⟩
 ·exact hn
 ·exfalso
  rcases h with⟨q,hq⟩ |h
  ·have hq2:q<61:=(Nat.pow_lt_pow_iff_right (show 1<2 by decide)).1 (by rw[<-hq];exact h2)
   rw[hq,II q (by omega)]at hp
   cases hp
  ·exact h m hm
end Go.Proofs.YtlhmikjnholpnaaGreatDoor
set_option maxRecDepth 100000
namespace Go.Proofs.YtlhmikjnholpnaaGreatDoor.LB
theorem Ycy{M W:Nat}:∀k,k*W<=M->(M-k*W)*(M+W)^k<=M^k*M
 |0,_=>by simp
 |k+1,h=>by
  rw[YM,Y2]at h
  have ih:=Ycy (M:=M) (W:=W) k (by omega)
  rw[YH,YH]
  obtain⟨x,hx⟩:∃x,M=(k+1)*W+x:=⟨M-(k+1)*W,by rw[YM,Y2];omega⟩
  have e1:M-(k+1)*W=x:=by omega
  have e2:M-k*W=W+x:=by rw[YM,Y2]at hx;omega
  rw[e1]
  rw[e2]at ih
  have h3:x*(M+W)<=(W+x)*M:=by
   have:x*(M+W)=x*M+x*W:=Ka ..
   have:(W+x)*M=W*M+x*M:=YM ..
   have:x*W<=W*M:=by rw[Yl];exact Yz W (by omega)
   omega
  have h4:=Yz ((M+W)^k) h3
  have h5:=Yp M ih
  generalize(M+W)^k=p at*
  generalize M^k=r at*
  have e3:x*(p*(M+W))=p*(x*(M+W)):=by rw[Jd]
  have e4:p*((W+x)*M)=(W+x)*p*M:=by rw[Jd,YA]
  omega
theorem Ti{M W:Nat}(hWM:W<=M):∀k,k*W<=M->M^k*(M-k*W)<=(M-W)^k*M
 |0,_=>by simp
 |k+1,h=>by
  rw[YM,Y2]at h
  have ih:=Ti hWM k (by omega)
  rw[YH,YH]
  obtain⟨V,hV⟩:∃V,M=W+V:=⟨M-W,by omega⟩
  have e0:M-W=V:=by omega
  obtain⟨x,hx⟩:∃x,M=(k+1)*W+x:=⟨M-(k+1)*W,by rw[YM,Y2];omega⟩
  have e1:M-(k+1)*W=x:=by omega
  have e2:M-k*W=W+x:=by rw[YM,Y2]at hx;omega
  rw[e1,e0]
  rw[e2,e0]at ih
  have h3:M*x<=(W+x)*V:=by
   have:M*x=W*x+V*x:=by rw[hV,YM]
   have:(W+x)*V=W*V+x*V:=YM ..
   have:W*x<=W*V:=Yz W (by rw[YM,Y2]at hx;omega)
   have:V*x=x*V:=Yl ..
   omega
  have h4:=Yz (M^k) h3
  have h5:=Yp V ih
  generalize V^k=p at*
  generalize M^k=r at*
  have e3:r*M*x=r*(M*x):=YA ..
  have e4:r*((W+x)*V)=r*(W+x)*V:=by rw[YA]
  have e5:p*V*M=p*M*V:=Vh ..
  omega
theorem near_pow{M W Z P m:Nat}(hM:2*(P*W)<=M)(hP:1<=P)(hM0:0<M)(h1:2^m*M<=Z*M+2^m*W)(h2:Z*M<=2^m*(M+W)):2^(m*P)<=2*Z^P/\Z^P<=2*2^(m*P):=by
 have hPW:W<=P*W:=Nat.le_mul_of_pos_left W hP
 have u:=Ycy (M:=M) (W:=W) P (by omega)
 have d:=Ti (M:=M) (W:=W) (by omega) P (by omega)
 have hMP:0<M^P:=YB hM0
 have h1':2^m*(M-W)<=Z*M:=by rw[Nat.mul_sub];omega
 have k1:=YG h1' P
 have k2:=YG h2 P
 rw[Yq,Yq,<-Ym]at k1 k2
 generalize 2^(m*P)=A at*
 generalize Z^P=B at*
 generalize(M+W)^P=C at*
 generalize(M-W)^P=D at*
 generalize M^P=E at*
 constructor
 ·refine Ki (c:=E*M) ?_ (Y1 hMP hM0)
  have a1:M<=2*(M-P*W):=by omega
  have a2:=Yz (A*E) a1
  have a3:=Yz A d
  have a4:=Yp M k1
  generalize M-P*W=V at*
  grind
 ·refine Ki (c:=E*M) ?_ (Y1 hMP hM0)
  have a1:M<=2*(M-P*W):=by omega
  have a2:=Yz (A*C) a1
  have a3:=Yz A u
  have a4:=Yp M k2
  generalize M-P*W=V at*
  grind
theorem pow_of_le{a b:Nat}(h:2^a<=2^b):a<=b:=(Nat.pow_le_pow_iff_right (show 1<2 by decide)).1 h
theorem Yg0{J n:Nat}(h:UD J (2*n)):UD J n:=by
 intro m hm
 refine h (2^J+m) ?_
 obtain⟨h1,h2⟩:=hm
 unfold Near
 rw[Yq,Yo]
 generalize(2:Nat)^4160=M at*
 generalize(2:Nat)^2160=W at*
 generalize 2^2^J=Q at*
 generalize n^2^J=X at*
 generalize 2^m=R at*
 have k1:=Yz Q h1
 have k2:=Yz Q h2
 constructor
 ·grind
 ·grind
theorem RU{J:Nat}(h:∀n,2^28<n->n<2^29->UD J n):∀k n,2^28<=n*2^k->n*2^k<2^29->(∃q,n=2^q)\/UD J n
 |0,n,h1,h2=>by
  by_cases c:n=2^28
  ·exact KD ⟨28,c⟩
  ·exact KK (h n (by omega) (by omega))
 |k+1,n,h1,h2=>by
  have e:n*2^(k+1)=2*n*2^k:=by rw[YH];grind
  rw[e]at h1 h2
  rcases RU h k (2*n) h1 h2 with⟨q,hq⟩ |hf
  ·cases q with
   |zero=>omega
   |succ q=>exact KD ⟨q,by rw[YH]at hq;omega⟩
  ·exact KK (Yg0 hf)
theorem YeZ{J:Nat}(h:∀n,2^28<n->n<2^29->UD J n){n:Nat}(h1:1<=n)(h2:n<2^29):(∃q,n=2^q)\/UD J n:=by
 have hlog:∃k,2^28<=n*2^k/\n*2^k<2^29:=by
  have:∀j,j<=29->∀n,1<=n->n<2^29->2^(29-j)<=2*n->∃k,2^28<=n*2^k/\n*2^k<2^29:=by
   intro j
   induction j with
   |zero=>intro _ n _ h2 h3;exact⟨0,by omega,by omega⟩
   |succ j ih=>
    intro hj n h1 h2 h3
    by_cases c:2^28<=n
    ·exact⟨0,by omega,by omega⟩
    ·obtain⟨k,k1,k2⟩:=ih (by omega) (2*n) (by omega) (by omega) (by
      have:29-j=29-(j+1)+1:=by omega
      rw[this,YH];omega)
     exact⟨k+1,by rw[YH];grind,by rw[YH];grind⟩
  exact this 29 (Yt _) n h1 h2 (by simp;omega)
 obtain⟨k,k1,k2⟩:=hlog
 exact RU h k n k1 k2
theorem YlI{i:Nat}(h:i<524):LT.rR i=true:=by
 by_cases ca:i<132
 ·have g:=LT.a132 (i-0) (by omega)
  rwa [show 0+(i-0)=i by omega]at g
 by_cases cb:i<264
 ·have g:=LT.b132 (i-132) (by omega)
  rwa [show 132+(i-132)=i by omega]at g
 by_cases cc:i<394
 ·have g:=LT.c130 (i-264) (by omega)
  rwa [show 264+(i-264)=i by omega]at g
 have g:=LT.d130 (i-394) (by omega)
 rwa [show 394+(i-394)=i by omega]at g
theorem YoB{m:Nat}(h1:2^28<m)(h2:m<2^29):LT.Tgt (2^(274+(166+44))) (166+44) m:=by
 have e28:(2:Nat)^28=268435456:=rfl
 have e29:(2:Nat)^29=536870912:=rfl
 rw[e28]at h1
 rw[e29]at h2
 by_cases c:(536870911-m)/512000<524
 ·have g:LT.r1 1000 (536870911-512000*((536870911-m)/512000))=true:=YlI c
  have hd:=KP (536870911-m) 512000
  have hm:=Kj (536870911-m) (show 512000>0 by decide)
  generalize(536870911-m)/512000=i at*
  exact LT.r1_is (by omega) g (by omega) (by omega)
 ·have hd:=KP (536870911-m) 512000
  exact LT.r1_is (by decide) LT.dl (by omega) (by omega)
theorem YoC{J P x y m n:Nat}(hxy:y+P+1<=x)(hP:2<=P)(h:LT.Tgt (2^(J+P)) P n)(hm:Near (2^x) (2^y) J n m):False:=by
 obtain⟨a,b,q,l,u,h1,h2⟩:=h
 have l:2^a<=n^(2^(J+P)):=l
 have u:n^(2^(J+P))<=2^b:=u
 have e:n^(2^(J+P))=(n^(2^J))^(2^P):=by rw[<-Ym,Yo]
 rw[e]at l u
 have hbig:2*(2^P*2^y)<=2^x:=by
  rw[<-Yo,<-Nat.pow_succ']
  exact Kp (by decide) (by omega)
 obtain⟨g1,g2⟩:=near_pow (P:=2^P) hbig (QC P) (Jh x) hm.1 hm.2
 have c1:2^a<=2^(m*2^P+1):=by rw[YH];omega
 have c2:2^(m*2^P)<=2^(b+1):=by rw[YH];omega
 have d1:=pow_of_le c1
 have d2:=pow_of_le c2
 have hQ:=Jh P
 generalize 2^P=Q at*
 rcases YY q m with h|h
 ·have:=Yp Q (show q+1<=m from h)
  omega
 ·have:=Yp Q h
  omega
theorem far274{J P n:Nat}(hJ:J=274)(hP:P=166+44)(h1:1<=n)(h2:n<2^29):(∃q,n=2^q)\/UD J n:=
 YeZ (fun n a b m hm=>YoC (P:=P) (by omega) (by omega) (by rw[hJ,hP];exact YoB a b) hm) h1 h2
end Go.Proofs.YtlhmikjnholpnaaGreatDoor.LB
namespace Go.Proofs.YtlhmikjnholpnaaGreatDoor
theorem OI{n:Nat}(h1:1<=n)(h2:n<2^29):Qw 274 n:=BW (by decide) h1 (Nat.lt_trans h2 (by decide)) (LB.far274 rfl rfl h1 h2)
theorem Ykb{J J' n:Nat}(h:Qw J n)(hJ:J'<=J):Qw J' n:=Yh h (Nat.add_le_add_left (Kp (by decide) (by omega)) _)
theorem OJ{n:Nat}(h1:1<=n)(h2:n<2^29):Qw 48 n:=Ykb (OI h1 h2) (by decide)
end Go.Proofs.YtlhmikjnholpnaaGreatDoor
namespace Go.Proofs.YtlhmikjnholpnaaGreatDoor
open Go Go.Vx
set_option maxRecDepth 100000
theorem Yg1{n J P a b q x y m:Nat}(hxy:y+P+1<=x)(hP:2<=P)(l:2^a<=n^(2^(J+P)))(u:n^(2^(J+P))<=2^b)(h1:q*2^P+2<=a)(h2:b+2<=(q+1)*2^P)(hm:Near (2^x) (2^y) J n m):False:=by
 have e:n^(2^(J+P))=(n^(2^J))^(2^P):=by rw[<-Ym,Yo]
 rw[e]at l u
 have hbig:2*(2^P*2^y)<=2^x:=by
  rw[<-Yo,<-Nat.pow_succ']
  exact Kp (by decide) (by omega)
 obtain⟨g1,g2⟩:=LB.near_pow (P:=2^P) hbig (QC P) (Jh x) hm.1 hm.2
 have c1:2^a<=2^(m*2^P+1):=by rw[YH];omega
 have c2:2^(m*2^P)<=2^(b+1):=by rw[YH];omega
 have d1:=LB.pow_of_le c1
 have d2:=LB.pow_of_le c2
 have hQ:=Jh P
 generalize 2^P=Q at*
 rcases YY q m with h|h
 ·have:=Yp Q (show q+1<=m from h)
  omega
 ·have:=Yp Q h
  omega
def glT(D f n:Nat):Nat×Nat:=gl (2^D) false f (n*2^(D-lgK n)) (n*2^(D-lgK n)) (lgK n)
theorem Yhs{D f n:Nat}(h1:1<=n)(hD:lgK n<=D):2^(glT D f n).1<=n^(2^f)/\n^(2^f)<=2^(glT D f n).2:=by
 obtain⟨m1,m2,m3⟩:=Gx (D:=D) h1 hD
 exact Bz _ false (YB (by decide)) f _ _ _ n (Yx m3) (Yx m3.symm) m1 (JZ m2)
def ET(D f P n:Nat):Bool:=Y7 ((glT D f n).1/2^P*2^P+2) (glT D f n).1&&Y7 ((glT D f n).2+2) (((glT D f n).1/2^P+1)*2^P)&&Y7 (lgK n) D
theorem Yhr{D J P n:Nat}(hP:2<=P/\P<=1000)(h1:1<=n)(h:ET D (J+P) P n=true):UD J n:=by
 intro m hm
 simp only[ET,YS]at h
 have a:=KC h.1.1
 have b:=KC h.1.2
 have c:=KC h.2
 obtain⟨l,u⟩:=Yhs (f:=J+P) h1 c
 exact Yg1 (by omega) hP.1 l u a b hm
theorem Gz{D J P n:Nat}(hP:2<=P/\P<=1000)(hJ:J<=500)(h1:1<=n)(h2:n<2^61)(h:ET D (J+P) P n=true):Qw J n:=BW hJ h1 h2 (KK (Yhr hP h1 h))
theorem Yj7:Qw 100 3:=Gz (D:=400) (J:=100) (P:=70) (by decide) (by decide) (by decide) (by decide) (by decide+kernel)
theorem Yj8:Qw 100 5:=Gz (D:=400) (J:=100) (P:=70) (by decide) (by decide) (by decide) (by decide) (by decide+kernel)
theorem Yj9:Qw 100 7:=Gz (D:=400) (J:=100) (P:=70) (by decide) (by decide) (by decide) (by decide) (by decide+kernel)
theorem Yj5:Qw 100 11:=Gz (D:=400) (J:=100) (P:=70) (by decide) (by decide) (by decide) (by decide) (by decide+kernel)
theorem Yj6:Qw 100 13:=Gz (D:=400) (J:=100) (P:=70) (by decide) (by decide) (by decide) (by decide) (by decide+kernel)
theorem Yka:Qw 48 331300000000:=Gz (D:=400) (J:=48) (P:=70) (by decide) (by decide) (by decide) (by decide) (by decide+kernel)
theorem Yhd:∀n m:Nat,n^4=2^m->∃q,n=2^q:=by
 intro n
 induction n using Nat.strongRecOn with
 |_ n ih=>
  intro m h
  by_cases h1:n<=1
  ·refine⟨0,?_⟩
   rcases(show n=0\/n=1 by omega)with rfl|rfl
   ·have:=Jh m
    simp at h
    omega
   ·rfl
  ·have hm:4<=m:=by
    refine XF fun hh=>?_
    have a:=YG (show 2<=n by omega) 4
    have b:(2:Nat)^m<2^4:=(Nat.pow_lt_pow_iff_right (by decide)).2 hh
    omega
   obtain⟨d,rfl⟩:∃d,m=d+4:=⟨m-4,by omega⟩
   rw[Yo]at h
   have hev:n%2=0:=by
    refine Classical.byContradiction fun ho=>?_
    obtain⟨j,rfl⟩:∃j,n=2*j+1:=⟨n/2,by omega⟩
    have e:(2*j+1)^4=2*(8*j^4+16*j^3+12*j^2+4*j)+1:=by grind
    omega
   obtain⟨j,rfl⟩:∃j,n=2*j:=⟨n/2,by omega⟩
   rw[Yq]at h
   have h2:j^4=2^d:=by omega
   obtain⟨q,hq⟩:=ih j (by omega) d h2
   exact⟨q+1,by rw[hq,YH,Yl]⟩
theorem Yg2{n x y d m:Nat}(hx:x=y+d)(hd:250<=d)(h2:n<2^41)(hm:Near (2^x) (2^y) 2 n m):∃q,n=2^q:=by
 obtain⟨a,b⟩:=hm
 have hW:=Jh y
 have e:(2:Nat)^x=2^y*2^d:=by rw[hx,Yo]
 rw[e]at a b
 have h4:n^2^2=n^4:=rfl
 rw[h4]at a b
 have hn4:n^4<2^164:=by
  have:=Nat.pow_lt_pow_left h2 (show 4≠0 by decide)
  rwa [<-Ym]at this
 have hD:(2:Nat)^250<=2^d:=Kp (by decide) hd
 have h3:(2:Nat)^165*2^85=2^250:=rfl
 generalize hN:n^4=N at*
 generalize 2^y=W at*
 generalize hDD:(2:Nat)^d=D at*
 generalize hR:(2:Nat)^m=R at*
 have a':R*D<=N*D+R:=by
  refine Vg (c:=W) ?_ hW
  grind
 have b':N*D<=R*D+R:=by
  refine Vg (c:=W) ?_ hW
  grind
 have hRs:R<2^165:=by
  refine WJ fun hh=>?_
  have k1:=Yp D (show N+1<=2^164 from hn4)
  have k2:=Yp D hh
  have k3:2*R<=R*D:=by
   have:2<=D:=by omega
   rw[Yl R D];exact Yp R this
  have e1:(N+1)*D=N*D+D:=by rw[YM,Y2]
  have e2:(2:Nat)^165*D=2*(2^164*D):=by rw[YH,Vh,Yl 2]
  have:0<D:=by omega
  omega
 have c1:R<=N:=by
  refine XF fun hh=>?_
  have:=Yp D (show N+1<=R from hh)
  rw[YM,Y2]at this
  omega
 have c2:N<=R:=by
  refine XF fun hh=>?_
  have:=Yp D (show R+1<=N from hh)
  rw[YM,Y2]at this
  omega
 exact Yhd n m (by rw[hN,hR];omega)
theorem OH{n:Nat}(h1:1<=n)(h2:n<2^41):Qw 2 n:=by
 by_cases h:∃q,n=2^q
 ·exact BW (by decide) h1 (Nat.lt_trans h2 (by decide)) (KD h)
 ·exact BW (by decide) h1 (Nat.lt_trans h2 (by decide)) (KK fun m hm=>h (Yg2 (x:=4160) (y:=2160) (d:=2000) rfl (by decide) h2 hm))
def wP(n:Nat):Nat:=if n=2 then 0 else if n=3\/n=5\/n=7\/n=11\/n=13 then 1 else if n<2^29\/n=331300000000 then 2^52 else 2^98
theorem E5:Qa ((2:Nat):Int)=true:=by decide
theorem I0{n p:Nat}(h:Qa (n:Int)=true):(lN n p).2=(lN n p).1:=by
 unfold lN
 rw[if_pos h]
theorem Yq9{n:Nat}(h1:1<=n)(h2:n<2^41):hiN n<=loN n+wP n*DD:=by
 unfold wP
 split
 ·rename_i e
  subst e
  have e:hiN 2=loN 2:=I0 E5
  rw[e]
  exact Nat.le_add_right _ _
 ·split
  ·rename_i h
   rw[Y2]
   rcases h with rfl|rfl|rfl|rfl|rfl
   ·exact MZ Yj7
   ·exact MZ Yj8
   ·exact MZ Yj9
   ·exact MZ Yj5
   ·exact MZ Yj6
  ·split
   ·rename_i h
    have hn:Qw 48 n:=by
     rcases h with h|rfl
     ·exact OJ h1 h
     ·exact Yka
    rw[<-KB_is.2]
    exact OG hn
   ·have:=LD (J':=100) (OH h1 h2) (by decide) (by decide)
    rw[show 100-2=98 from rfl]at this
    unfold hiN loN DD
    exact this
theorem Ydv{n:Nat}(h1:1<=n)(h2:n<2^41):(lN n 2048).2<=(lN n 2048).1+wP n*2^(2048-100):=by
 have h:=Yq9 h1 h2
 unfold hiN loN DD at h
 exact h
theorem JN(g:Nat->Nat):∀a b:List (Int×Int),upS g (a++b)=upS g a+upS g b/\dnS g (a++b)=dnS g a+dnS g b
 | [],b=>by simp [upS,dnS]
 |x::a,b=>by
  obtain⟨h1,h2⟩:=JN g a b
  rw[Ws,upS,dnS,upS,dnS,h1,h2]
  omega
theorem Xp:∀a b:List (Int×Int),upP (a++b)=upP a*upP b/\dnP (a++b)=dnP a*dnP b
 | [],b=>by simp [upP,dnP]
 |x::a,b=>by
  obtain⟨h1,h2⟩:=Xp a b
  rw[Ws,upP,dnP,upP,dnP,h1,h2]
  simp only[YA,and_self]
theorem Z6(g:Nat->Nat){l:List (Int×Int)}{s den k:Nat}(hd:1<=den):upS g (atF (l++[((s:Int),(den:Int))]) den k)=upS g l+g s*den/\dnS g (atF (l++[((s:Int),(den:Int))]) den k)=dnS g l+g k*den:=by
 unfold atF
 rw[(JN g _ _).1,(JN g _ _).2,(JN g _ _).1,(JN g _ _).2]
 have h1:¬((den:Int)<0):=by omega
 have h2:(-(den:Int))<0:=by omega
 simp only[upS,dnS,if_neg h1,if_pos h2,Yj,Jx]
 omega
theorem JQ{l:List (Int×Int)}{s den k:Nat}(hd:1<=den):upP (atF (l++[((s:Int),(den:Int))]) den k)=upP l*s^den/\dnP (atF (l++[((s:Int),(den:Int))]) den k)=dnP l*k^den:=by
 unfold atF
 rw[(Xp _ _).1,(Xp _ _).2,(Xp _ _).1,(Xp _ _).2]
 have h1:¬((den:Int)<0):=by omega
 have h2:(-(den:Int))<0:=by omega
 simp only[upP,dnP,if_neg h1,if_pos h2,Yj,Jx,Y0,Y2,and_self]
def isS(l:List (Int×Int))(s den k:Nat):Prop:=dnS loN l+loN k*den<=upS hiN l+hiN s*den
theorem U6{l:List (Int×Int)}{s den k:Nat}(hl:∀x,x∈l->okU x)(hs:1<=s/\s<=1000000000000)(hd:1<=den/\den<=1000000)(hk:1<=k/\k<=1000000000001):∀x,x∈atF (l++[((s:Int),(den:Int))]) den k->okU x:=by
 intro x hx
 simp only[atF,Ky,Jj]at hx
 rcases hx with(hx|rfl) |rfl
 ·exact hl x hx
 ·unfold okU;simp only;omega
 ·unfold okU;simp only;omega
theorem IG{l:List (Int×Int)}{s den k:Nat}(hl:∀x,x∈l->okU x)(hn:l.length<=16)(hs:1<=s/\s<=1000000000000)(hd:1<=den/\den<=1000000)(hk:1<=k/\k<=1000000000001):isF (l++[((s:Int),(den:Int))]) den k=true↔isS l s den k:=by
 have h:=AR (U6 hl hs hd hk) (by simp [atF];omega)
 rw[(Z6 hiN hd.1).1,(Z6 loN hd.1).2]at h
 unfold isF isS
 rw[Qj,decide_eq_true_eq,decide_eq_true_eq,h]
 omega
def QJ:Nat:=2^100
theorem Us:QJ=2^100:=rfl
theorem LV{x:Int×Int}(h:okU x):x.1.toNat<2^41:=by
 have:=h.2.1
 omega
theorem YhY{l:List (Int×Int)}{s den k:Nat}(hl:∀x,x∈l->okU x)(hn:l.length<=16)(hs:1<=s/\s<=1000000000000)(hd:1<=den/\den<=1000000)(hk:1<=k/\k<=1000000000001)(h:isS l s den k):
 (dnP l*k^den)^QJ<=(upP l*s^den)^QJ*2^(upS wP l+dnS wP l+(wP s+wP k)*den):=by
 have hl2:=U6 hl hs hd hk
 by_cases c:dnP l*k^den<=upP l*s^den
 ·exact Yh (YG c _) (Nat.le_mul_of_pos_right _ (Jh _))
 ·have hu:Und (atF (l++[((s:Int),(den:Int))]) den k) 2048:=by
   refine⟨XF fun hh=>?_,?_⟩
   ·obtain⟨⟨a1,a2⟩,b1,b2⟩:=VG (K:=KB) (g:=loN) (h:=hiN) (fun n k1 k2=>Ho k1 k2) _ hl2
    have:=Vp b2 a1 hh
    rw[(JQ hd.1).1,(JQ hd.1).2]at this
    omega
   ·show dnS loN _<=upS hiN _
    rw[(Z6 hiN hd.1).1,(Z6 loN hd.1).2]
    exact h
  have:=P9 (J:=100) (w:=wP) (by decide) hl2 (fun x hx=>Ydv (W8 (hl2 x hx)).1 (LV (hl2 x hx))) hu
  rw[(JQ hd.1).1,(JQ hd.1).2,(Z6 wP hd.1).1,(Z6 wP hd.1).2,<-Us]at this
  rw[YM,show upS wP l+dnS wP l+(wP s*den+wP k*den)=upS wP l+wP s*den+(dnS wP l+wP k*den)by omega]
  exact this
theorem LG{X Y k den Q e t c:Nat}(hQ:1<=Q)(het:e*t<=Q)(ht:1<=t)(h:(Y*k^den)^Q<=X^Q*2^(den*(c*Q+e))):Y*(k*t)^den<=X*(2^c*(t+1))^den:=by
 have h1:2^e*t^Q<=(t+1)^Q:=by
  have a:=YG (P6 t ht) e
  rw[Yq,<-Ym,<-Ym,Yl t e]at a
  obtain⟨d,hd⟩:∃d,Q=e*t+d:=⟨Q-e*t,by omega⟩
  rw[hd,Yo,Yo,<-YA]
  exact YX a (YG (Nat.le_succ t) d)
 have h2:=YG h1 den
 rw[Yq,<-Ym,<-Ym,<-Ym]at h2
 refine(ZF (show Q≠0 by omega)).1 ?_
 have h3:=Yp (t^(Q*den)) h
 have e1:(Y*(k*t)^den)^Q=(Y*k^den)^Q*t^(Q*den):=by
  rw[Yq k,<-YA,Yq _ (t^den),<-Ym t,Yl den Q]
 have e2:(X*(2^c*(t+1))^den)^Q=X^Q*(2^(den*(c*Q))*(t+1)^(Q*den)):=by
  rw[Yq X,<-Ym,Yq (2^c),<-Ym,Yl den Q]
  congr 3
  rw[Yl Q den,Jd]
 rw[e1,e2]
 refine Yh h3 ?_
 rw[YA]
 refine Yz _ ?_
 rw[Ka,Yo,YA]
 refine Yz _ ?_
 rw[Yl den e]
 exact h2
theorem YjX{k a b c:Nat}(hk:k<=2^a)(h:a+(b+1)<=c):k*(2^b+1)<=2^c:=by
 have e1:2^b+1<=2^(b+1):=by have:=Jh b;rw[YH];omega
 have e2:=YX hk e1
 rw[<-Yo]at e2
 exact Yh e2 (Kp (by decide) h)
theorem YjQ{k K m c lo hi:Nat}(h1:1<=k)(hmc:m=c+1)(hk:k*m<=K)(g1:2^lo<=k^K)(g2:(k+1)^K<=2^hi):lo+c<hi:=by
 have a:=YG (P6 k h1) m
 rw[Yq,<-Ym,<-Ym]at a
 obtain⟨d,hd⟩:∃d,K=k*m+d:=⟨K-k*m,by omega⟩
 have b:2^m*k^K<=(k+1)^K:=by
  rw[hd,Yo,Yo,<-YA]
  exact YX a (YG (Nat.le_succ k) d)
 have c1:2^(m+lo)<=2^hi:=by
  rw[Yo]
  exact Yh (Yz _ g1) (Yh b g2)
 have:=LB.pow_of_le c1
 omega
theorem YdJ{k:Nat}(h:k<=2^29):k*(C48+1)<=KB:=by
 have h:=YjX (b:=2048-48) (c:=2048) h (by decide)
 unfold C48 KB
 exact h
theorem Yjl{k:Nat}(h1:1<=k)(h2:k+1<2^29):loN k+C48<hiN (k+1):=
 YjQ h1 rfl (YdJ (by omega)) (Ho h1 (by omega)).1 (Ho (Nat.le_add_left 1 k) (by omega)).2
theorem Yjk{k:Nat}(h1:1<=k)(h2:k+1<2^29):loN k<=loN (k+1):=by
 have s:=Yjl h1 h2
 have hn:=OG (OJ (n:=k+1) (Nat.le_add_left 1 k) h2)
 omega
theorem Oh:∀{d k:Nat},1<=k->k+d<2^29->loN k<=loN (k+d)
 |0,_,_,_=>Yt _
 |d+1,k,h1,h2=>Yh (Oh (d:=d) h1 (by omega)) (Yjk (k:=k+d) (by omega) (by omega))
theorem IL{l:List (Int×Int)}{s den k m:Nat}(hk:1<=k)(hkm:k<=m)(hm:m<2^29)(h:isS l s den m):isS l s den k:=by
 obtain⟨d,rfl⟩:∃d,m=k+d:=⟨m-k,by omega⟩
 have:=Yp den (Oh hk hm)
 unfold isS at*
 omega
def GV(l:List (Int×Int))(s den:Nat):Prop:=upS wP l+dnS wP l+wP s*den<=den*(2^54+2^20)
theorem IN{l:List (Int×Int)}{s den k B:Nat}(hl:∀x,x∈l->okU x)(hn:l.length<=16)(hs:1<=s/\s<=1000000000000)(hd:1<=den/\den<=1000000)(hk:1<=k/\k<=1000000000001)(hw:GV l s den)(hY:0<dnP l)
 (hB:upP l*s^den<dnP l*B^den)(hB2:B<=450000000)(h:isS l s den k):k<2^29/\(dnP l*k^den)^QJ<=(upP l*s^den)^QJ*2^(den*2^55):=by
 have h0:=YhY hl hn hs hd hk h
 have wk:wP k<=2^98:=by
  unfold wP
  split
  ·decide
  ·split
   ·decide
   ·split
    ·decide
    ·decide
 have hk2:k<2^29:=by
  have e1:upS wP l+dnS wP l+(wP s+wP k)*den<=den*(2^98+2^55):=by
   have:=Yz den wk
   unfold GV at hw
   rw[YM,Ka,Yl (wP k)]
   omega
  have h1:=Yh h0 (Yz _ (Kp (show 1<=2 by decide) e1))
  obtain⟨q,hq⟩:∃q,q=2^98:=⟨_,rfl⟩
  have hQ4:QJ=4*q:=by rw[hq,Us]
  have h1':(dnP l^4*(k^4)^den)^q<=(upP l^4*(s^4)^den)^q*2^(den*(1*q+2^55)):=by
   have e2:∀u v:Nat,(u^4*(v^4)^den)^q=(u*v^den)^QJ:=fun u v=>by
    rw[hQ4,Ym (u*v^den),Yq u,<-Ym v,<-Ym v,Yl 4 den]
   rw[e2,e2,Y2,hq]
   exact h1
  have h2:=LG (t:=2^40) (by rw[hq];decide) (by rw[hq];decide) (by decide) h1'
  have h3:dnP l^4*(k^4*2^40)^den<dnP l^4*(B^4*(2^1*(2^40+1)))^den:=by
   refine JC h2 ?_
   rw[Yq (B^4),<-YA]
   refine ZB ?_ (YB (by decide))
   have e3:∀u v:Nat,u^4*(v^4)^den=(u*v^den)^4:=fun u v=>by
    rw[Yq u,<-Ym v,<-Ym v,Yl 4 den]
   rw[e3,e3]
   exact Nat.pow_lt_pow_left hB (by decide)
  have h4:=Nat.lt_of_mul_lt_mul_left h3
  have h5:=(Nat.pow_lt_pow_iff_left (by omega)).1 h4
  have h6:=YG hB2 4
  have h7:k^4<(2^29)^4:=by
   have:(450000000:Nat)^4*(2^1*(2^40+1))<=(2^29)^4*2^40:=by decide
   have:=Yp (2^1*(2^40+1)) h6
   omega
  exact(Nat.pow_lt_pow_iff_left (show 4≠0 by decide)).1 h7
 refine⟨hk2,?_⟩
 have wk2:wP k<=2^52:=by
  unfold wP
  split
  ·decide
  ·split
   ·decide
   ·rw[if_pos (KD hk2)]
    exact Yt _
 have e1:upS wP l+dnS wP l+(wP s+wP k)*den<=den*2^55:=by
  have:=Yz den wk2
  unfold GV at hw
  rw[YM,Yl (wP k)]
  omega
 exact Yh h0 (Yz _ (Kp (show 1<=2 by decide) e1))
structure PowR (l:List (Int×Int)) (s den B r:Nat) (ex:Bool):Prop where
 lt:r+1<2^29
 leB:r<=B
 seg:∀k,1<=k->k<2^29->(isS l s den k↔k<=r)
 up:upP l*s^den<dnP l*(r+1)^den
 tru:∀k,1<=k->k<2^29->dnP l*k^den<=upP l*s^den->k<=r
 near:1<=r->(dnP l*r^den)^QJ<=(upP l*s^den)^QJ*2^(den*2^55)
 ex_iff:ex=true↔1<=r/\upP l*s^den=dnP l*r^den
theorem IJ{l:List (Int×Int)}{s den k:Nat}(hl:∀x,x∈l->okU x)(hs:1<=s/\s<=1000000000000)(hd:1<=den/\den<=1000000)(hk:1<=k/\k<=1000000000001)(h:¬isS l s den k):upP l*s^den<dnP l*k^den:=by
 have hl2:=U6 hl hs hd hk
 obtain⟨⟨a1,a2⟩,b1,b2⟩:=VG (K:=KB) (g:=loN) (h:=hiN) (fun n k1 k2=>Ho k1 k2) _ hl2
 have hlt:upS hiN (atF (l++[((s:Int),(den:Int))]) den k)<dnS loN (atF (l++[((s:Int),(den:Int))]) den k):=by
  rw[(Z6 hiN hd.1).1,(Z6 loN hd.1).2]
  exact WJ h
 have:=Vp a2 b1 hlt
 rwa [(JQ hd.1).1,(JQ hd.1).2]at this
theorem Dh{t:Int->Bool}:∀(f:Nat)(a b:Int),a<b->b-a<=2^f->(KY f t a b=a\/t (KY f t a b)=true)/\(KY f t a b+1=b\/t (KY f t a b+1)=false):=by
 intro f
 induction f with
 |zero=>
  intro a b h1 h2
  rw[Int.pow_zero]at h2
  rw[KY]
  exact⟨KD rfl,KD (by omega)⟩
 |succ f ih=>
  intro a b h1 h2
  rw[KY]
  by_cases c:1<b-a
  ·rw[if_pos c]
   have e:(2:Int)^(f+1)=2*2^f:=by rw[Int.pow_succ];omega
   rw[e]at h2
   by_cases d:t (a+(b-a)/2)=true
   ·rw[if_pos d]
    obtain⟨i1,i2⟩:=ih (a+(b-a)/2) b (by omega) (by omega)
    refine⟨?_,i2⟩
    rcases i1 with i1|i1
    ·exact KK (by rw[i1];exact d)
    ·exact KK i1
   ·rw[if_neg d]
    obtain⟨i1,i2⟩:=ih a (a+(b-a)/2) (by omega) (by omega)
    refine⟨i1,?_⟩
    rcases i2 with i2|i2
    ·exact KK (by rw[i2];simpa using d)
    ·exact KK i2
  ·rw[if_neg c]
   exact⟨KD rfl,KD (by omega)⟩
theorem Dg{t:Int->Bool}:∀(f:Nat)(a b:Int),a<b->a<=KY f t a b/\KY f t a b<b:=by
 intro f
 induction f with
 |zero=>intro a b h;rw[KY];omega
 |succ f ih=>
  intro a b h
  rw[KY]
  by_cases c:1<b-a
  ·rw[if_pos c]
   by_cases d:t (a+(b-a)/2)=true
   ·rw[if_pos d]
    have:=ih (a+(b-a)/2) b (by omega)
    omega
   ·rw[if_neg d]
    have:=ih a (a+(b-a)/2) (by omega)
    omega
  ·rw[if_neg c];omega
theorem Yas{l:List (Int×Int)}{s den B:Nat}(hc:QG l=0)(hl:∀x,x∈l->okU x)(hs:1<=s/\s<=1000000000000)(hd:1<=den/\den<=1000000)(hw:GV l s den)(hY:0<dnP l)
 (hB:upP l*s^den<dnP l*B^den)(hB2:B<=450000000):∃r:Nat,(X3 s l den).1=(r:Int)/\PowR l s den B r (X3 s l den).2.1:=by
 have hn:=(Ea hc).2
 obtain⟨f,hf⟩:∃f,f=isF (l++[((s:Int),(den:Int))]) (den:Int):=⟨_,rfl⟩
 have hfk:∀k:Nat,1<=k->k<=1000000000001->(f (k:Int)=true↔isS l s den k):=fun k h1 h2=>by
  rw[hf];exact IG hl hn hs hd ⟨h1,h2⟩
 have htop:f 1000000000001=false:=by
  cases hh:f 1000000000001 with
  |false=>rfl
  |true=>
   have:=IN hl hn hs hd (k:=1000000000001) (by decide) hw hY hB hB2 ((hfk 1000000000001 (by decide) (by decide)).1 hh)
   exact absurd this.1 (by decide)
 have hbad:Uu (s:Int) (den:Int)=false:=by
  simp only[Uu,K5,decide_eq_false_iff_not];omega
 have e1:X3 (s:Int) l (den:Int)=(KY 64 f 0 1000000000001,decide (0<KY 64 f 0 1000000000001)&&WG (atF (l++[((s:Int),(den:Int))]) den (KY 64 f 0 1000000000001)),0):=by
  unfold X3
  rw[if_neg (by rw[hc];decide),if_neg (by rw[hbad];decide)]
  unfold Ai
  rw[<-hf,if_neg (by rw[htop];decide)]
 obtain⟨s1,s2⟩:=Dh (t:=f) 64 0 1000000000001 (by decide) (by decide)
 have hr:=Dg (t:=f) 64 0 1000000000001 (by decide)
 rw[e1]
 generalize KY 64 f 0 1000000000001=b at*
 obtain⟨r,rfl⟩:∃r:Nat,b=(r:Int):=⟨b.toNat,by omega⟩
 have hr1:1<=r->isS l s den r:=fun h=>by
  rcases s1 with c|c
  ·omega
  ·exact(hfk r h (by omega)).1 c
 have hlt:r<2^29/\(1<=r->(dnP l*r^den)^QJ<=(upP l*s^den)^QJ*2^(den*2^55)):=by
  rcases Jc r with h0|h0
  ·exact⟨by omega,fun h=>by omega⟩
  ·have:=IN hl hn hs hd ⟨h0,by omega⟩ hw hY hB hB2 (hr1 h0)
   exact⟨this.1,fun _=>this.2⟩
 have hr2:¬isS l s den (r+1):=fun hh=>by
  have:=(hfk (r+1) (by omega) (by omega)).2 hh
  rcases s2 with c|c
  ·omega
  ·rw[VH,show((1:Nat):Int)=1 from rfl,c]at this
   cases this
 have hup:=IJ hl hs hd (k:=r+1) (by omega) hr2
 have hleB:r<=B:=by
  rcases Jc r with h0|h0
  ·omega
  ·have h1:=hlt.2 h0
   have h1':(dnP l*r^den)^QJ<=(upP l*s^den)^QJ*2^(den*(0*QJ+2^55)):=by rw[JP,KJ];exact h1
   have h2:=LG (t:=2^40) (show 1<=QJ by rw[Us];decide) (by rw[Us];decide) (by decide) h1'
   have h3:dnP l*(r*2^40)^den<dnP l*(B*(2^0*(2^40+1)))^den:=by
    refine JC h2 ?_
    rw[Yq B,<-YA]
    exact ZB hB (YB (by decide))
   have h5:=(Nat.pow_lt_pow_iff_left (by omega)).1 (Nat.lt_of_mul_lt_mul_left h3)
   omega
 have hlt2:r+1<2^29:=by omega
 have hseg:∀k,1<=k->k<2^29->isS l s den k->k<=r:=fun k k1 k2 hk=>by
  refine XF fun hh=>hr2 ?_
  exact IL (by omega) (show r+1<=k from hh) k2 hk
 refine⟨r,rfl,⟨hlt2,hleB,fun k k1 k2=>⟨hseg k k1 k2,fun hk=>?_⟩,hup,fun k k1 k2 hk=>?_,hlt.2,?_⟩⟩
 ·exact IL k1 hk hlt.1 (hr1 (by omega))
 ·refine Classical.byContradiction fun hh=>?_
  have:¬isS l s den k:=fun h=>hh (hseg k k1 k2 h)
  have:=IJ hl hs hd (k:=k) (by omega) this
  omega
 ·rw[YS,decide_eq_true_eq]
  by_cases h0:1<=r
  ·rw[YkE (U6 hl hs hd ⟨h0,by omega⟩) (by simp [atF];omega),(JQ hd.1).1,(JQ hd.1).2]
   omega
  ·omega
def UP(a b c:Int):Nat:=2^a.toNat*3^b.toNat*5^c.toNat
theorem KE(a b c:Int):0<UP a b c:=Y1 (Y1 (YB (by decide)) (YB (by decide))) (YB (by decide))
def Le0(a b c:Int):Prop:=UP a b c<=UP (-a) (-b) (-c)
theorem G3(a b c x y z:Int):UP (a+x) (b+y) (c+z)*(UP (-a) (-b) (-c)*UP (-x) (-y) (-z))=UP (-(a+x)) (-(b+y)) (-(c+z))*(UP a b c*UP x y z):=by
 have key:∀(p:Nat)(u v:Int),p^(u+v).toNat*(p^(-u).toNat*p^(-v).toNat)=p^(-(u+v)).toNat*(p^u.toNat*p^v.toNat):=fun p u v=>by
  rw[<-Yo,<-Yo,<-Yo,<-Yo];congr 1;omega
 have k2:=key 2 a x
 have k3:=key 3 b y
 have k5:=key 5 c z
 unfold UP
 generalize 2^(a+x).toNat=a1 at*
 generalize 2^(-(a+x)).toNat=a2 at*
 generalize 2^(-a).toNat=a3 at*
 generalize 2^(-x).toNat=a4 at*
 generalize 2^a.toNat=a5 at*
 generalize 2^x.toNat=a6 at*
 generalize 3^(b+y).toNat=b1 at*
 generalize 3^(-(b+y)).toNat=b2 at*
 generalize 3^(-b).toNat=b3 at*
 generalize 3^(-y).toNat=b4 at*
 generalize 3^b.toNat=b5 at*
 generalize 3^y.toNat=b6 at*
 generalize 5^(c+z).toNat=c1 at*
 generalize 5^(-(c+z)).toNat=c2 at*
 generalize 5^(-c).toNat=c3 at*
 generalize 5^(-z).toNat=c4 at*
 generalize 5^c.toNat=c5 at*
 generalize 5^z.toNat=c6 at*
 have e1:a1*b1*c1*(a3*b3*c3*(a4*b4*c4))=(a1*(a3*a4))*(b1*(b3*b4))*(c1*(c3*c4)):=by grind
 rw[e1,k2,k3,k5];grind
theorem BJ{a b c x y z:Int}(h1:Le0 a b c)(h2:Le0 x y z):Le0 (a+x) (b+y) (c+z):=by
 unfold Le0 at*
 have e:=G3 a b c x y z
 have p1:=KE (-a) (-b) (-c)
 have p2:=KE (-x) (-y) (-z)
 refine Ki (c:=UP (-a) (-b) (-c)*UP (-x) (-y) (-z)) ?_ (Y1 p1 p2)
 rw[e]
 exact Yz _ (YX h1 h2)
theorem QD(m:Nat)(a b c:Int):UP (m*a) (m*b) (m*c)=UP a b c^m:=by
 have key:∀(p:Nat)(u:Int),p^((m:Int)*u).toNat=(p^u.toNat)^m:=fun p u=>by
  rw[<-Ym]
  congr 1
  rcases Int.le_total 0 u with h|h
  ·obtain⟨v,rfl⟩:∃v:Nat,u=v:=⟨u.toNat,by omega⟩
   rw[<-Qr,Yj,Yj,Yl]
  ·have h1:(m:Int)*u<=0:=Int.mul_nonpos_of_nonneg_of_nonpos (by omega) h
   rw[show u.toNat=0 by omega,show((m:Int)*u).toNat=0 by omega,JP]
 unfold UP
 rw[key,key,key,Yq,Yq]
theorem V7{m:Nat}(hm:1<=m){a b c:Int}:Le0 (m*a) (m*b) (m*c)↔Le0 a b c:=by
 unfold Le0
 rw[<-KN,<-KN,<-KN,QD,QD]
 exact ZF (by omega)
theorem Gp{a b c:Int}(h:Le0 a b c):15*a<=24*(b.natAbs:Int)+35*(c.natAbs:Int):=by
 rcases Int.le_total a 0 with h0|h0
 ·omega
 ·unfold Le0 UP at h
  rw[show(-a).toNat=0 by omega,Jk,Y2]at h
  have h1:2^a.toNat<=3^(-b).toNat*5^(-c).toNat:=by
   refine Yh ?_ h
   rw[YA]
   exact Nat.le_mul_of_pos_right _ (Y1 (YB (by decide)) (YB (by decide)))
  have h2:=YG h1 15
  rw[Yq,<-Ym,<-Ym,<-Ym,Yl _ 15,Yl _ 15,Yl _ 15,Ym 3,Ym 5]at h2
  have h3:(3^15)^(-b).toNat<=(2^24)^(-b).toNat:=YG (by decide) _
  have h5:(5^15)^(-c).toNat<=(2^35)^(-c).toNat:=YG (by decide) _
  have h6:=Yh h2 (YX h3 h5)
  rw[<-Ym,<-Ym,<-Yo]at h6
  have:=LB.pow_of_le h6
  omega
theorem Rb(p:Nat)(n:Int):upP (tm1 (p:Int) n)=p^n.toNat/\dnP (tm1 (p:Int) n)=p^(-n).toNat:=by
 unfold tm1
 split
 ·rename_i h
  rw[h]
  simp [upP,dnP]
 ·by_cases c:n<0
  ·simp only[upP,dnP,if_pos c,Yj,Y0]
   exact⟨by rw[show n.toNat=0 by omega,Jk],trivial⟩
  ·simp only[upP,dnP,if_neg c,Yj,Y0]
   exact⟨trivial,by rw[show(-n).toNat=0 by omega,Jk]⟩
theorem NN{L:Int}{r:Rt}{a b c:Int}(h:Rep L r a b c):upP (Yu r)=UP r.a r.b r.c/\dnP (Yu r)=UP (-r.a) (-r.b) (-r.c):=by
 have z:∀p:Int,tm1 p 0=[]:=fun p=>rfl
 unfold Yu
 rw[h.hd,h.he,h.hf,z,z,z]
 simp only[Wr]
 rw[(Xp _ _).1,(Xp _ _).1,(Xp _ _).2,(Xp _ _).2]
 have t2:=Rb 2 r.a
 have t3:=Rb 3 r.b
 have t5:=Rb 5 r.c
 unfold UP
 rw[<-t2.1,<-t2.2,<-t3.1,<-t3.2,<-t5.1,<-t5.2]
 exact⟨(YA ..).symm,(YA ..).symm⟩
theorem FN(w:Nat->Nat)(p:Nat)(n:Int):upS w (tm1 (p:Int) n)+dnS w (tm1 (p:Int) n)=w p*n.natAbs:=by
 unfold tm1
 split
 ·rename_i h
  rw[h]
  simp [upS,dnS]
 ·by_cases c:n<0
  ·simp only[upS,dnS,if_pos c,Yj]
   rw[show(-n).toNat=n.natAbs by omega];omega
  ·simp only[upS,dnS,if_neg c,Yj]
   rw[show n.toNat=n.natAbs by omega];omega
theorem wP_2:wP 2=0:=rfl
theorem wP_3:wP 3=1:=rfl
theorem wP_5:wP 5=1:=rfl
theorem Ydz{L:Int}{r:Rt}{a b c:Int}(h:Rep L r a b c):upS wP (Yu r)+dnS wP (Yu r)<=200000:=by
 have z:∀p:Int,tm1 p 0=[]:=fun p=>rfl
 unfold Yu
 rw[h.hd,h.he,h.hf,z,z,z]
 simp only[Wr]
 rw[(JN wP _ _).1,(JN wP _ _).1,(JN wP _ _).2,(JN wP _ _).2]
 have t2:=FN wP 2 r.a
 have t3:=FN wP 3 r.b
 have t5:=FN wP 5 r.c
 rw[wP_2]at t2
 rw[wP_3]at t3
 rw[wP_5]at t5
 obtain⟨_,b1,b2,b3,_⟩:=VW h.ok
 have b2:=QZ b2
 have b3:=QZ b3
 have e2:((2:Nat):Int)=2:=rfl
 have e3:((3:Nat):Int)=3:=rfl
 have e5:((5:Nat):Int)=5:=rfl
 rw[e2]at t2
 rw[e3]at t3
 rw[e5]at t5
 omega
theorem YnP{l:List (Int×Int)}(hl:∀x,x∈l->okU x)(hn:l.length<=20)(h:0<=Qf l):dnP l^QJ<=upP l^QJ*2^(upS wP l+dnS wP l):=by
 have h2:=(AR hl hn).1 h
 by_cases c:dnP l<=upP l
 ·exact Yh (YG c _) (Nat.le_mul_of_pos_right _ (Jh _))
 ·have hu:Und l 2048:=by
   refine⟨XF fun hh=>?_,h2⟩
   obtain⟨⟨a1,a2⟩,b1,b2⟩:=VG (K:=KB) (g:=loN) (h:=hiN) (fun n k1 k2=>Ho k1 k2) _ hl
   have:=Vp b2 a1 hh
   omega
  have:=P9 (J:=100) (w:=wP) (by decide) hl (fun x hx=>Ydv (W8 (hl x hx)).1 (LV (hl x hx))) hu
  rw[<-Us]at this
  exact this
theorem YnQ{l:List (Int×Int)}(hl:∀x,x∈l->okU x)(hn:l.length<=20)(h:¬0<=Qf l):upP l<dnP l:=by
 obtain⟨⟨a1,a2⟩,b1,b2⟩:=VG (K:=KB) (g:=loN) (h:=hiN) (fun n k1 k2=>Ho k1 k2) _ hl
 exact Vp a2 b1 (WJ fun hh=>h ((AR hl hn).2 hh))
end Go.Proofs.YtlhmikjnholpnaaGreatDoor
set_option maxRecDepth 100000
namespace Go.Proofs.YtlhmikjnholpnaaGreatDoor.LB
open Go.Proofs.YtlhmikjnholpnaaGreatDoor
theorem If{c1 c2 ln L:Nat}(hc2:0<c2)(t:∀h,(h=0\/h=22)->KV c1 c2 ln h 2 38=true/\KV c1 c2 ln h 40 19=true/\KV c1 c2 ln h 59 15=true/\KV c1 c2 ln h 74 13=true/\KV c1 c2 ln h 87 12=true/\KV c1 c2 ln h 99 11=true/\KV c1 c2 ln h 110 11=true)
 (one:Gm c1 c2 (KI c2 L) (KI c1 L) ln 1 (45-L)=true)(hs:∀r,r<L->c2^r<=2*pV/\c1^r<=2*pV){q r:Nat}(hq:1<=q/\q<=120)(hr:r<=44*q)(hg:YI r q=1):Gap pV pG q (c2^r) (c1^r):=by
 rcases YY q 2 with h1|h2
 ·have e:q=1:=by omega
  subst e
  rcases YY r L with hl|hl
  ·obtain⟨K,hK⟩:∃K,K=1048576:=⟨_,rfl⟩
   obtain⟨e1,e2⟩:=hs r hl
   have e5:2*pV<=K*pV:=Yp _ (by omega)
   exact Yhn hK (Yh e1 e5) (Yh e2 e5)
  ·have g:=kOne hc2 one (i:=r-L) (by omega)
   rwa [show L+(r-L)=r by omega]at g
 ·have key:∀h:Nat,(h=0\/h=22)->∀i,i<22*q+1->YI i q=1->Gap pV pG q (c2^(h*q+i)) (c1^(h*q+i)):=by
   intro h hh i hi hgi
   have go:∀a n,0<a/\a<=q/\q<a+n->KV c1 c2 ln h a n=true->Gap pV pG q (c2^(h*q+i)) (c1^(h*q+i)):=fun a n ha ht=>by
    have e:a+(q-a)=q:=by omega
    have g:=IT hc2 ha.1 n ht (q-a) (by omega) i (by rw[e];exact hi) (by rw[e];exact hgi)
    rwa [e]at g
   obtain⟨t1,t2,t3,t4,t5,t6,t7⟩:=t h hh
   rcases(show q<40\/(40<=q/\q<59)\/(59<=q/\q<74)\/(74<=q/\q<87)\/(87<=q/\q<99)\/(99<=q/\q<110)\/110<=q by omega)with c|c|c|c|c|c|c
   ·exact go _ _ (by omega) t1
   ·exact go _ _ (by omega) t2
   ·exact go _ _ (by omega) t3
   ·exact go _ _ (by omega) t4
   ·exact go _ _ (by omega) t5
   ·exact go _ _ (by omega) t6
   ·exact go _ _ (by omega) t7
  rcases YY r (22*q)with hl|hl
  ·have g:=key 0 (KD rfl) r (by omega) hg
   rwa [JP,KJ]at g
  ·have e:r=r-22*q+22*q:=by omega
   have g:=key 22 (KK rfl) (r-22*q) (by omega) (by rw[e,Nat.gcd_add_mul_right_left]at hg;exact hg)
   rwa [show 22*q+(r-22*q)=r by omega]at g
theorem gapP{q r:Nat}:(1<=q/\q<=120)->r<=44*q->YI r q=1->Gap pV pG q (524288^r) (531441^r):=
 If (L:=7) (by decide) (fun h hh=>by
  rcases hh with rfl|rfl
  ·exact⟨Yh4,Yh5,Yh6,Yh7,Yh8,Yh9,Yh3⟩
  ·exact⟨Yib,Yic,Yid,Yie,Yif,Yig,Yia⟩) kP1 fun r hr=>⟨Yh (Kp (by decide) (Nat.le_of_lt_succ hr)) (KC smP),Yh (Kp (by decide) (Nat.le_of_lt_succ hr)) (KC snP)⟩
theorem gapS{q r:Nat}:(1<=q/\q<=120)->r<=44*q->YI r q=1->Gap pV pG q (80^r) (81^r):=
 If (L:=20) (by decide) (fun h hh=>by
  rcases hh with rfl|rfl
  ·exact⟨Yii,Yij,Yik,Yil,Yim,Yin,Yih⟩
  ·exact⟨Yip,Yiq,Yir,Yis,Yit,Yiu,Yio⟩) kS1 fun r hr=>⟨Yh (Kp (by decide) (Nat.le_of_lt_succ hr)) (KC smS),Yh (Kp (by decide) (Nat.le_of_lt_succ hr)) (KC snS)⟩
def Sep(G n U D:Nat):Prop:=(U<D->U*(G+1)^n<=D*G^n)/\(D<U->D*(G+1)^n<=U*G^n)
theorem Sep.symm{G n U D:Nat}(h:Sep G n U D):Sep G n D U:=⟨h.2,h.1⟩
theorem YbG{G q L n N U D x y:Nat}(hL:0<L)(hx:0<x)(hy:0<y)(hN:N*q=L*n)(hR:U^L*y^N=D^L*x^N)(h1:x<y->x*(G+1)^q<=y*G^q)(h:U<D):U*(G+1)^n<=D*G^n:=by
 have hlt:x<y:=by
  refine WJ fun hh=>?_
  have a:=Yz (U^L) (YG hh N)
  have b:=ZB (Nat.pow_lt_pow_left h (show L≠0 by omega)) (YB (n:=N) hx)
  omega
 have g:=YG (h1 hlt) N
 rw[Yq,Yq,<-Ym,<-Ym,Yl q N,hN]at g
 refine(ZF (show L≠0 by omega)).1 ?_
 rw[Yq,Yq,<-Ym,<-Ym,Yl n L]
 refine Ki (c:=y^N) ?_ (YB hy)
 have e1:U^L*(G+1)^(L*n)*y^N=D^L*(x^N*(G+1)^(L*n)):=by rw[Vh,hR,YA]
 have e2:D^L*G^(L*n)*y^N=D^L*(y^N*G^(L*n)):=by rw[YA,Yl (G^(L*n))]
 rw[e1,e2]
 exact Yz _ g
theorem sep_end{G S n Q e U D:Nat}(hU:0<U)(hG:0<G)(hQ:Q=G*S)(he:e<n*S)(h:U*(G+1)^n<=D*G^n)(hlog:D^Q<=U^Q*2^e):False:=by
 have h1:=YG h Q
 rw[Yq,Yq,<-Ym,<-Ym]at h1
 have h2:=Yh h1 (Yp (G^(n*Q)) hlog)
 rw[YA]at h2
 have h3:=Vg h2 (YB hU)
 have h4:=YG (P6 G hG) (n*S)
 rw[Yq,<-Ym,<-Ym,show G*(n*S)=n*Q by rw[hQ];ac_rfl]at h4
 have h5:=Ki (Yh h4 h3) (YB hG)
 have:=(Nat.pow_le_pow_iff_right (by decide)).1 h5
 omega
def Tab(c1 c2:Nat):Prop:=∀q r,1<=q->q<=120->r<=44*q->YI r q=1->Gap pV pG q (c2^r) (c1^r)
theorem Tab.symm{c1 c2:Nat}(h:Tab c1 c2):Tab c2 c1:=fun q r a b c d=>(h q r a b c d).symm
theorem tabP:Tab 531441 524288:=fun q r a b c d=>gapP ⟨a,b⟩ c d
theorem tabS:Tab 81 80:=fun q r a b c d=>gapS ⟨a,b⟩ c d
theorem sep_tab{c1 c2 U D L n u v w:Nat}(hg:Tab c1 c2)(hc1:0<c1)(hc2:0<c2)(hL:1<=L/\L<=120)(hw:w<=44*L)(hu:0<u/\u<=pV)(hv:0<v/\v<=pV)
 (hR:U^L*(v^L*c1^w)^n=D^L*(u^L*c2^w)^n):Sep pG n U D:=by
 obtain⟨g,hgd⟩:∃g,g=YI w L:=⟨_,rfl⟩
 have hg0:0<g:=by rw[hgd];exact Nat.gcd_pos_of_pos_right _ (by omega)
 obtain⟨r,hr⟩:g∣w:=by rw[hgd];exact WI ..
 obtain⟨q,hq⟩:g∣L:=by rw[hgd];exact Nat.gcd_dvd_right ..
 have hco:YI r q=1:=by
  have e:=Nat.gcd_mul_left g r q
  rw[<-hr,<-hq,<-hgd]at e
  exact Nat.eq_of_mul_eq_mul_left hg0 (by omega)
 have hq1:1<=q:=by
  refine Nat.pos_of_ne_zero fun h=>?_
  rw[h]at hq;omega
 have hq2:q<=120:=Yh (Yh (Nat.le_mul_of_pos_left q hg0) (Yx hq.symm)) hL.2
 have hr2:r<=44*q:=by
  rw[hr,hq,Jd]at hw
  exact Vg hw hg0
 obtain⟨h1,h2⟩:=hg q r hq1 hq2 hr2 hco u v hu.1 hv.1 hu.2 hv.2
 have ex:(u^q*c2^r)^(g*n)=(u^L*c2^w)^n:=by rw[Ym,Yq,<-Ym,<-Ym,Yl q,Yl r,<-hq,<-hr]
 have ey:(c1^r*v^q)^(g*n)=(v^L*c1^w)^n:=by rw[Ym,Yq,<-Ym,<-Ym,Yl q,Yl r,<-hq,<-hr,Yl (c1^w)]
 rw[<-ex,<-ey]at hR
 have hx:0<u^q*c2^r:=Y1 (YB hu.1) (YB hc2)
 have hy:0<c1^r*v^q:=Y1 (YB hc1) (YB hv.1)
 have hN:g*n*q=L*n:=by rw[hq,Vh]
 exact⟨YbG (by omega) hx hy hN hR h1,YbG (by omega) hy hx hN hR.symm h2⟩
def Rat4(U D x y:Nat):Prop:=U*y=D*x
theorem Rat4.mul{U D x y U' D' x' y':Nat}(h:Rat4 U D x y)(h':Rat4 U' D' x' y'):Rat4 (U*U') (D*D') (x*x') (y*y'):=by
 unfold Rat4 at*
 have:U*U'*(y*y')=(U*y)*(U'*y'):=by ac_rfl
 rw[this,h,h'];ac_rfl
theorem Rat4.pow{U D x y:Nat}(h:Rat4 U D x y)(n:Nat):Rat4 (U^n) (D^n) (x^n) (y^n):=by
 unfold Rat4 at*
 rw[<-Yq,h,Yq]
theorem Rat4.trans{U D x y p q:Nat}(hy:0<y)(h:Rat4 U D x y)(h':Rat4 x y p q):Rat4 U D p q:=by
 unfold Rat4 at*
 refine Nat.eq_of_mul_eq_mul_right hy ?_
 have e1:U*q*y=(U*y)*q:=by ac_rfl
 have e2:D*p*y=D*(y*p):=by ac_rfl
 rw[e1,h,e2,<-h'];ac_rfl
theorem Rat4.refl(U D:Nat):Rat4 U D U D:=Yl ..
theorem YmR(a b c x y z:Int):Rat4 (UP (a+x) (b+y) (c+z)) (UP (-(a+x)) (-(b+y)) (-(c+z))) (UP a b c*UP x y z) (UP (-a) (-b) (-c)*UP (-x) (-y) (-z)):=G3 ..
theorem rat_comma{a b c X Y p1 p2 p3:Int}{L m:Nat}(ea:a=L*X-m*p1)(eb:b=L*Y-m*p2)(ec:c= -(m*p3)):
 Rat4 (UP a b c) (UP (-a) (-b) (-c)) (UP X Y 0^L*UP (-p1) (-p2) (-p3)^m) (UP (-X) (-Y) 0^L*UP p1 p2 p3^m):=by
 have h:=YmR (L*X) (L*Y) (L*0) (m* -p1) (m* -p2) (m* -p3)
 have e1:∀t:Int, -((L:Int)*t)=(L:Int)* -t:=fun t=>(KN _ _).symm
 have e2:∀t:Int, -((m:Int)* -t)=(m:Int)*t:=fun t=>by rw[KN,Jx]
 have ea':(L:Int)*X+m* -p1=a:=by rw[ea,KN];omega
 have eb':(L:Int)*Y+m* -p2=b:=by rw[eb,KN];omega
 have ec':(L:Int)*0+m* -p3=c:=by rw[ec,KN];omega
 rw[ea',eb',ec',e1,e1,e1,e2,e2,e2,QD,QD,QD,QD]at h
 exact h
end Go.Proofs.YtlhmikjnholpnaaGreatDoor.LB
namespace Go.Proofs.YtlhmikjnholpnaaGreatDoor
open Go Go.Vx
set_option maxRecDepth 100000
theorem Tu(n:Nat):LB.ePt n=2^n:=rfl
def wQb:Nat:=LB.ePt (300-2)
def wQ(n:Nat):Nat:=if n=2 then 0 else if n=3\/n=5 then 1 else if n<536870912 then 67108864 else wQb
theorem Yj3:Qw 300 3:=Gz (D:=900) (J:=300) (P:=70) (by decide) (by decide) (by decide) (by decide) (by decide+kernel)
theorem Yj4:Qw 300 5:=Gz (D:=900) (J:=300) (P:=70) (by decide) (by decide) (by decide) (by decide) (by decide+kernel)
theorem Yra{n J:Nat}(hJ:J=300)(h1:1<=n)(h2:n<2^41):(lN n 2048).2<=(lN n 2048).1+wQ n*2^(2048-J):=by
 unfold wQ
 split
 ·rename_i e
  subst e
  rw[I0 E5]
  exact Nat.le_add_right _ _
 ·split
  ·rename_i h
   have h3:Qw J n:=by
    rw[hJ]
    rcases h with rfl|rfl
    ·exact Yj3
    ·exact Yj4
   rw[Y2]
   exact h3
  ·split
   ·rename_i h
    have g:=LD (J':=J) (OI h1 h) (by omega) (by omega)
    rw[show J-274=26 by omega]at g
    exact g
   ·have g:=LD (J':=J) (OH h1 h2) (by omega) (by omega)
    have e:(2:Nat)^(J-2)=wQb:=by rw[hJ];unfold wQb;rw[Tu]
    rw[e]at g
    exact g
theorem Yrb{n:Nat}(h1:1<=n)(h2:n<2^41):(lN n 2048).2<=(lN n 2048).1+wQ n*2^(2048-300):=Yra (J:=300) rfl h1 h2
theorem Cg:wQ 2=0:=rfl
theorem Rn:wQ 3=1:=rfl
theorem Ro:wQ 5=1:=rfl
theorem Wm{n:Nat}(h:n<536870912):wQ n<=67108864:=by
 unfold wQ
 split
 ·decide
 ·split
  ·decide
  ·first|exact Yt _| (rw[if_pos h];exact Yt _)
theorem Yrc:67108864<=wQb:=by
 have h:LB.ePt 26<=LB.ePt (300-2):=LB.ePt_le (by decide)
 exact h
theorem Rp(n:Nat):wQ n<=wQb:=by
 have:=Yrc
 unfold wQ
 split
 ·omega
 ·split
  ·omega
  ·split
   ·exact this
   ·exact Yt _
theorem N0:∀l:List (Int×Int),(∀x,x∈l->okU x)->0<upP l/\0<dnP l
 | [],_=>⟨Nat.one_pos,Nat.one_pos⟩
 |x::l,h=>by
  obtain⟨h1,h2⟩:=N0 l fun y hy=>h y (KX _ hy)
  obtain⟨k1,_,_⟩:=W8 (h x (KR ..))
  rw[upP,dnP]
  constructor
  ·refine Y1 ?_ h1
   split
   ·exact Nat.one_pos
   ·exact YB k1
  ·refine Y1 ?_ h2
   split
   ·exact YB k1
   ·exact Nat.one_pos
theorem Q300{S Q:Nat}(hS:S=1073741824)(hQ:Q=LB.ePt 300):Q=LB.pG*S:=by
 have h30:LB.ePt 30=1073741824:=rfl
 have h:=LB.ePt_add 270 30
 rw[h30,show 270+30=300 from rfl]at h
 rw[hS,hQ]
 unfold LB.pG
 exact h.symm
theorem Ycx{l:List (Int×Int)}(hl:∀x,x∈l->okU x)(hu:Und l 2048):
 dnP l^LB.ePt 300<=upP l^LB.ePt 300*2^(upS wQ l+dnS wQ l)/\upP l^LB.ePt 300<=dnP l^LB.ePt 300*2^(upS wQ l+dnS wQ l):=by
 have hw:∀x,x∈l->(lN x.1.toNat 2048).2<=(lN x.1.toNat 2048).1+wQ x.1.toNat*2^(2048-300):=fun x hx=>Yrb (W8 (hl x hx)).1 (LV (hl x hx))
 have g1:=P9 (J:=300) (w:=wQ) (by decide) hl hw hu
 have g2:=YoG (J:=300) (w:=wQ) (by decide) hl hw hu
 rw[<-Tu 300]at g1 g2
 exact⟨g1,g2⟩
theorem Mh{l:List (Int×Int)}{n S:Nat}(hS:S=1073741824)(hl:∀x,x∈l->okU x)(hs:LB.Sep LB.pG n (upP l) (dnP l))(hw:upS wQ l+dnS wQ l<n*S):Dec l:=by
 unfold Dec
 refine Classical.byContradiction fun hcon=>?_
 have hne:¬upP l=dnP l:=fun e=>hcon (KD e)
 have hu:Und l 2048:=Classical.byContradiction fun hh=>hcon (KK hh)
 obtain⟨g1,g2⟩:=Ycx hl hu
 obtain⟨p1,p2⟩:=N0 l hl
 have hQ:=Q300 hS rfl
 have hG:0<LB.pG:=by unfold LB.pG;exact LB.ePt_pos 270
 generalize LB.ePt 300=Q at*
 rcases Nat.lt_or_gt_of_ne hne with hlt|hlt
 ·exact LB.sep_end p1 hG hQ hw (hs.1 hlt) g1
 ·exact LB.sep_end p2 hG hQ hw (hs.2 hlt) g2
theorem TO{U D Q m s:Nat}(hU:0<U)(h:U*2^m<=D)(hs:s<m*Q)(g:D^Q<=U^Q*2^s):False:=by
 have h1:=Yh (YG h Q) g
 rw[Yq,<-Ym]at h1
 have h2:=Vg h1 (YB hU)
 have:=(Nat.pow_le_pow_iff_right (by decide)).1 h2
 omega
theorem HV{l:List (Int×Int)}{m:Nat}(hl:∀x,x∈l->okU x)(hf:upP l*2^m<=dnP l\/dnP l*2^m<=upP l)(hw:upS wQ l+dnS wQ l<m*LB.ePt 300):Dec l:=by
 unfold Dec
 refine Classical.byContradiction fun hcon=>?_
 have hu:Und l 2048:=Classical.byContradiction fun hh=>hcon (KK hh)
 obtain⟨g1,g2⟩:=Ycx hl hu
 obtain⟨p1,p2⟩:=N0 l hl
 rcases hf with hf|hf
 ·exact TO p1 hf hw g1
 ·exact TO p2 hf hw g2
theorem Rep.cast{L:Int}{r:Rt}{a b c a' b' c':Int}(h:Rep L r a b c)(ea:a=a')(eb:b=b')(ec:c=c'):Rep L r a' b' c':=by
 subst ea eb ec;exact h
theorem Gq{a b c a' b' c':Int}(h:Le0 a b c)(ea:a=a')(eb:b=b')(ec:c=c'):Le0 a' b' c':=by
 subst ea eb ec;exact h
theorem U0(n:Nat):UP n 0 0=2^n/\UP (-(n:Int)) 0 0=1:=by
 unfold UP
 rw[show(-(n:Int)).toNat=0 by omega]
 simp
theorem YiC{x y z:Int}{n:Nat}(h:UP (-x) (-y) (-z)<=UP x y z*2^n):Le0 (-x+ -(n:Int)) (-y) (-z):=by
 have e:=G3 (-x) (-y) (-z) (-(n:Int)) 0 0
 rw[Jx,Jx,Jx,Jx,Int.neg_zero,Zb,Zb,(U0 n).1,(U0 n).2,Y0]at e
 unfold Le0
 refine Ki (c:=UP x y z*2^n) ?_ (Y1 (KE _ _ _) (Jh n))
 rw[e]
 exact Yz _ h
theorem UT(l:List (Int×Int))(e:Int):upP (l++[(2,e)])=upP l*UP e 0 0/\dnP (l++[(2,e)])=dnP l*UP (-e) 0 0:=by
 rw[(Xp _ _).1,(Xp _ _).2]
 have h:upP [(2,e)]=UP e 0 0/\dnP [(2,e)]=UP (-e) 0 0:=by
  unfold UP
  by_cases c:e<0
  ·simp only[upP,dnP,if_pos c]
   rw[show e.toNat=0 by omega]
   simp
  ·simp only[upP,dnP,if_neg c]
   rw[show(-e).toNat=0 by omega]
   simp
 rw[h.1,h.2]
 exact⟨rfl,rfl⟩
theorem P1{r:Rt}(h:Y4 r=0):∀x,x∈Yu r->2<=x.1/\x.1<=13/\ -100000<=x.2/\x.2<=100000:=by
 intro x hx
 have h2:=A4 h x hx
 have key:∀(p n:Int),x∈tm1 p n->x.1=p:=fun p n hx=>by
  unfold tm1 at hx
  split at hx
  ·cases hx
  ·rw[Jj]at hx;rw[hx]
 simp only[Yu,Ky]at hx
 rcases hx with hx|hx|hx|hx|hx|hx
 all_goals (have:=key _ _ hx;omega)
theorem Yco{r:Rt}(h:Y4 r=0):QG (Yu r)=0:=by
 unfold QG
 have:=Uj r
 rw[if_neg (by omega),if_neg]
 rw[List.any_eq_true]
 rintro⟨x,hx,ho⟩
 have:=P1 h x hx
 simp only[JB,Qj,decide_eq_true_eq]at ho
 omega
theorem YnK(l:List (Int×Int)):l.map (J5 1)=l:=by
 have:J5 1=id:=by funext x;unfold J5;simp
 rw[this,List.map_id]
theorem Yhc{L:Int}{r:Rt}{a b c:Int}(hL:1<=L/\L<=1000)(h:Rep L r a b c)(sa:sm a)(sb:sm b)(sc:sm c)(hz:24*(b.natAbs:Int)+35*(c.natAbs:Int)<=15*(100000-L)):
 ∃k:Int,(JF r).2.2=0/\Rep L (JF r).1 (a-k*L) b c/\Le0 (a-k*L-L) b c/\Le0 (8* -(a-k*L)-L) (8* -b) (8* -c):=by
 have hn:=h.n_rng
 obtain⟨tu,td⟩:=NN h
 have tw:=Ydz h
 have hlen:=Uj r
 obtain⟨n,hnn⟩:∃n:Nat,r.n=n:=⟨r.n.toNat,by omega⟩
 obtain⟨M,hM⟩:∃M:Nat,L=M:=⟨L.toNat,by omega⟩
 --what the sign says
 have okl:∀m:Int, -1000000000000<=m->m<=1000000000001->∀x,x∈atG (Yu r) r.n m->okU x:=fun m m1 m2 x hx=>by
  rw[atG,Ky,Jj]at hx
  rcases hx with hx|rfl
  ·have:=P1 h.ok x hx
   unfold okU;omega
  ·have:=Jv (x:= -m) (y:=r.n) (X:=1000000000001) (Y:=1000) (by omega) (by omega)
   unfold okU;simp only;omega
 have lenl:∀m:Int,(atG (Yu r) r.n m).length<=20:=fun m=>by rw[atG,JO];simp;omega
 have idn:∀e:Int,UP (r.a+e) r.b r.c*(dnP (Yu r++[(2,e)]))=UP (-(r.a+e)) (-r.b) (-r.c)*upP (Yu r++[(2,e)]):=fun e=>by
  have:=G3 r.a r.b r.c e 0 0
  rw[Zb,Zb,Int.neg_zero]at this
  rw[(UT _ _).1,(UT _ _).2,tu,td]
  exact this
 have pos:∀e:Int,0<upP (Yu r++[(2,e)])/\0<dnP (Yu r++[(2,e)]):=fun e=>by
  rw[(UT _ _).1,(UT _ _).2,tu,td]
  exact⟨Y1 (KE _ _ _) (KE _ _ _),Y1 (KE _ _ _) (KE _ _ _)⟩
 have scale:∀m x:Int,x*L=(a-m*L)*r.n->∀{y z:Int},y*L=b*r.n->z*L=c*r.n->(Le0 x y z->Le0 (a-m*L) b c):=fun m x hx y z hy hz h0=>by
  have h1:=(V7 (m:=M) (by omega)).2 h0
  rw[<-hM,KM L x,KM L y,KM L z,hx,hy,hz,KM _ r.n,KM _ r.n,KM _ r.n,hnn]at h1
  exact(V7 (m:=n) (by omega)).1 h1
 have neg:∀m:Int, -1000000000000<=m->m<=1000000000001->isG (Yu r) r.n m=false->Le0 (a-m*L) b c:=fun m m1 m2 hm=>by
  rw[isG,decide_eq_false_iff_not]at hm
  have h1:=YnQ (okl m m1 m2) (lenl m) hm
  refine scale m (r.a+ -m*r.n) ?_ h.hb h.hc ?_
  ·have:=h.ha;grind
  ·unfold Le0
   have e:=idn (-m*r.n)
   have p:=pos (-m*r.n)
   refine Ki (c:=upP (Yu r++[(2, -m*r.n)])) ?_ p.1
   rw[<-e]
   exact Yz _ (JZ h1)
 have posi:∀m:Int, -1000000000000<=m->m<=1000000000001->isG (Yu r) r.n m=true->Le0 (8* -(a-m*L)-L) (8* -b) (8* -c):=fun m m1 m2 hm=>by
  rw[isG,decide_eq_true_eq]at hm
  have h1:=YnP (okl m m1 m2) (lenl m) hm
  have hE:upS wP (atG (Yu r) r.n m)+dnS wP (atG (Yu r) r.n m)<=200000:=by
   rw[atG,(JN wP _ _).1,(JN wP _ _).2]
   have:upS wP [(2, -m*r.n)]+dnS wP [(2, -m*r.n)]=0:=by
    unfold upS dnS upS dnS
    have:wP (2:Int).toNat=0:=rfl
    simp only[this,JP,ite_self]
   omega
  have e:=idn (-m*r.n)
  have p:=pos (-m*r.n)
  have hu:upP (atG (Yu r) r.n m)=upP (Yu r++[(2, -m*r.n)]):=rfl
  have hd:dnP (atG (Yu r) r.n m)=dnP (Yu r++[(2, -m*r.n)]):=rfl
  rw[hu,hd]at h1
  have h2:UP (-(8*(r.a+ -m*r.n))) (-(8*r.b)) (-(8*r.c))<=UP (8*(r.a+ -m*r.n)) (8*r.b) (8*r.c)*2^n:=by
   have e8:∀x y z:Int,UP (8*x) (8*y) (8*z)=UP x y z^8:=fun x y z=>QD 8 x y z
   rw[<-KN,<-KN,<-KN,e8,e8]
   have hQ0:QJ≠0:=by rw[Us];have:=Jh 100;omega
   rw[<-ZF hQ0]
   refine Ki (c:=(upP (Yu r++[(2, -m*r.n)])^QJ)^8) ?_ (YB (YB p.1))
   have h3:(2^(upS wP (atG (Yu r) r.n m)+dnS wP (atG (Yu r) r.n m)))^8<=(2^n)^QJ:=by
    rw[<-Ym,<-Ym]
    refine Kp (by decide) (Yh (Yp 8 hE) ?_)
    have:1*QJ<=n*QJ:=Yp QJ (by omega)
    have:1600000<=QJ:=by rw[Us];decide
    omega
   have h4:=YG h1 8
   rw[Yq]at h4
   have e2:=congrArg (fun z=>(z^QJ)^8) e
   simp only[Yq]at e2
   have c1:∀x:Nat,(x^8)^QJ=(x^QJ)^8:=fun x=>by rw[<-Ym,<-Ym,Yl]
   rw[c1,Yq,c1]
   have e3:=Yz ((UP (r.a+ -m*r.n) r.b r.c^QJ)^8) (Yh h4 (Yz _ h3))
   rw[e2]at e3
   refine Yh e3 (Yx ?_)
   rw[<-YA,Vh]
  have h5:=YiC h2
  have h6:=(V7 (m:=M) (by omega)).2 h5
  refine(V7 (m:=n) (by omega)).1 (Gq h6 ?_ ?_ ?_)
  ·rw[<-hM,<-hnn];have:=h.ha;grind
  ·rw[<-hM,<-hnn];have:=h.hb;grind
  ·rw[<-hM,<-hnn];have:=h.hc;grind
 have bd:=fun m hm1 hm2 hx=>Gp (neg m hm1 hm2 hx)
 have bp:=fun m hm1 hm2 hx=>Gp (posi m hm1 hm2 hx)
 unfold sm at*
 have htop:isG (Yu r) r.n 1000000000001=false:=by
  cases hh:isG (Yu r) r.n 1000000000001 with
  |false=>rfl
  |true=>
   have:=bp 1000000000001 (by decide) (by decide) hh
   omega
 have hbot:isG (Yu r) r.n (-1000000000000)=true:=by
  cases hh:isG (Yu r) r.n (-1000000000000)with
  |true=>rfl
  |false=>
   have:=bd (-1000000000000) (by decide) (by decide) hh
   omega
 have hfl:JE (Yu r) r.n 1=(KY 64 (isG (Yu r) r.n) (-1000000000000) 1000000000001,WG (atG (Yu r) r.n (KY 64 (isG (Yu r) r.n) (-1000000000000) 1000000000001)),0):=by
  unfold JE
  rw[if_neg (by rw[Yco h.ok];decide),if_neg,YnK]
  ·unfold Gh
   rw[if_neg (by rw[htop,hbot];decide)]
  ·simp only[G8,Qj,decide_eq_true_eq];omega
 obtain⟨s1,s2⟩:=Dh (t:=isG (Yu r) r.n) 64 (-1000000000000) 1000000000001 (by decide) (by decide)
 have hr:=Dg (t:=isG (Yu r) r.n) 64 (-1000000000000) 1000000000001 (by decide)
 generalize KY 64 (isG (Yu r) r.n) (-1000000000000) 1000000000001=k at*
 have hk:isG (Yu r) r.n k=true:=by
  rcases s1 with e|e
  ·rw[e];exact hbot
  ·exact e
 have hk1:isG (Yu r) r.n (k+1)=false:=by
  rcases s2 with e|e
  ·rw[e];exact htop
  ·exact e
 have l1:=neg (k+1) (by omega) (by omega) hk1
 have l2:=posi k (by omega) (by omega) hk
 have b1:=bd (k+1) (by omega) (by omega) hk1
 have b2:=bp k (by omega) (by omega) hk
 rw[Int.add_mul,Int.one_mul]at b1 l1
 have hm:=Ly (x:=W7 r k) (a:=a-k*L) hL hn.1 (by show(r.a-k*r.n)*L=(a-k*L)*r.n;have:=h.ha;grind) h.hb h.hc h.hd h.he h.hf (by unfold sm;omega) sb sc
 refine⟨k,?_⟩
 unfold JF
 rw[if_neg (by rw[h.ok];decide),hfl]
 simp only
 rw[if_neg (by rw[hm.1];decide)]
 exact⟨rfl,hm.2,Gq l1 (by omega) rfl rfl,l2⟩
set_option maxHeartbeats 4000000
def v21:VF:=⟨19,[.cell 6 true 2],(ZR [u1 6 (.alloc Z2) []] (ZR [Zm 10 0,Zm 11 1,Zd 12 46 10 11,Zm 9 12,Ze 13 0 9,Ze 14 1 9,Zm 7 13,Zm 8 14] (ZR [Zm 15 2,Zm 16 8,Zm 17 7,u1 18 (.call 25) [.tm 15,.tm 16,.tm 17],Zs 2 6 18] .ret)))⟩
theorem YpG:Yn Yb Tryz.f21=some v21:=by kernel_rfl
def v41:VF:=⟨31,[.cell 8 true 2,.tmp 9],(ZR [u1 4 .box [.tm 0],u1 5 .box [.tm 1],u1 8 (.alloc Z2) [],Zi 9 0] (ZR [Zt 13 3 4,Zt 14 27 5,Zd 15 19 13 14,Zm 12 15,Ze 16 0 12,Ze 17 1 12,Zm 10 16,Zm 11 17] (.seq (.block 0 (ZR [Zm 19 11,Zq 20 .neq 19 0,Zm 18 20] (ZC 18 (ZR [u1 21 (.build Z2 []) [],Zm 22 11,Zs 2 8 21,Zm 9 22] .ret) (ZR [Zm 24 2,Zc 25 20 24,u1 26 .not [.tm 25],Zm 23 26] (ZC 23 (ZR [u1 27 (.build Z2 []) [],Zs 2 8 27,Zi 9 2] .ret) .skip))))) (ZR [Zm 28 3,Zm 29 10,u1 30 .callv [.tm 28,.tm 29],Zs 2 8 30,Zi 9 0] .ret))))⟩
theorem YpV:Yn Yb Tryz.f41=some v41:=by kernel_rfl
def v19:VF:=⟨26,[.tmp 4,.tmp 5],(ZR [u1 2 .box [.tm 0],u1 3 .box [.tm 1],u1 4 .mov [.cn (.val (.pointer none))],Zi 5 0] (.seq (ZR [Zt 9 3 2,Zc 10 30 9,Zm 6 10] (ZR [Zm 11 6,Zq 12 .neq 11 0] (ZC 12 (ZR [Zm 13 6,u1 4 .mov [.cn (.val (.pointer none))],Zm 5 13] .ret) .skip))) (ZR [Zt 15 27 3,Zc 16 45 15,Zm 14 16,Ze 17 0 14,Ze 18 1 14,Zm 7 17,Zm 8 18] (.seq (ZR [Zm 19 8,Zq 20 .neq 19 0] (ZC 20 (ZR [Zm 21 8,u1 4 .mov [.cn (.val (.pointer none))],Zm 5 21] .ret) .skip)) (ZR [Zt 22 3 2,Zm 23 7,u1 24 (.build [(.int .i64 0),(.int .i64 0),(.int .i64 0),.nil] [(0,3),(3,1)]) [.tm 22,.tm 23],u1 25 .box [.tm 24],Zm 4 25,Zi 5 0] .ret)))))⟩
theorem Ydl:Yn Yb Tryz.f19=some v19:=by kernel_rfl
def v20:VF:=⟨9,[.tmp 2],(ZR [u1 2 .mov [.cn (.bool false)]] (ZR [Zm 3 0,Zq 4 .geq 3 0,Zm 5 4,Zg 6 5 true 0,u2 7 5 true (.cmp .leq) [.tm 6,.cn (.int .i64 139)],u1 8 .and [.tm 5,.tm 7],Zm 2 8] .ret))⟩
theorem Ydm:Yn Yb Tryz.f20=some v20:=by kernel_rfl
theorem QA(T:Tm):YP 27 (YZ T)=YZ T:=rfl
theorem J4(T:Tm):YK (YZ T)=27:=rfl
def X0(L:Nat->Rt)(t0 t note u:Int):Int×Int:=GI u (ZW L t0 t note).1 (ZW L t0 t note).2
def freqC:Ctr:={ alias:=false,of:=fun l=>match l with
 | [.xp _ [.int .i64 _,.int .i64 t0,.int .i64 t,.vs _ _ n sz get],.int .i64 note,.int .i64 u]=> .ex (Nat->Rt) fun L=> .pre ((n=12/\sz=7/\∀k,k<12->QK (get k) (Yr (L k)))/\(0<=note/\note<=139)/\KG t0=true/\KG t=true)
     (.fin (.agg [.int .i64 (X0 L t0 t note u).1,.int .i64 (X0 L t0 t note u).2]) [])
 |_=>noC}
theorem Yoy(L:Nat->Rt)(t0 t note:Int):3<=(ZW L t0 t note).1.length/\(ZW L t0 t note).1.length<=9:=by
 have:(FM (JW L note)).length<=6:=by
  unfold FM;split
  ·exact Uj _
  ·simp
 simp only[ZW,JO,VN,XS,Z1]
 omega
def TJ0:Env:=mkE [(46,termC),(25,pspC)] []
theorem YeD:YD Yb TJ0:=eo (by kernel_rfl) ⟨⟨Yoz,_,Tryz.func46,rfl,rfl⟩,⟨YaH,_,Tryz.func25,rfl,rfl⟩,trivial⟩ trivial
theorem T4:freqC.ok Yb 21:=by
 refine Yy Tryz.func21 YpG YeD 600 freqC fun args k h=>?_
 simp only[freqC]at h
 split at h
 ·rename_i tt a t0 t tv zv n sz get note u
  obtain⟨L,⟨⟨rfl,rfl,hg⟩,hn,h0,h1⟩,h⟩:=h
  refine⟨[.xp tt [.int .i64 a,.int .i64 t0,.int .i64 t,.vs tv zv 12 7 (fun k=>Yr (L k))],.int .i64 note,.int .i64 u],?_,?_⟩
  ·simp only[BL,BM,Lj,BN,and_true,true_and]
   exact⟨id,⟨rfl,rfl⟩,⟨rfl,rfl⟩,⟨rfl,rfl⟩,⟨id,rfl,rfl,rfl,hg⟩,trivial⟩
  have hl:=Yoy L t0 t note
  dsimp only[v21,TJ0,Yk,termC,pspC,go_sem,reduceIte,Ya]
  simp only[Yd,Ya,Ye,reduceCtorEq,Yc]
  refine⟨L,⟨fun q _=>YW _,hn,h0,h1⟩,by decide,by decide,(ZW L t0 t note).1,⟨⟨rfl,rfl,fun q _=>YW _⟩,by omega,by omega⟩,?_⟩
  exact HK (show k _ []from h)
 ·exact h.1.elim
theorem WO{a t0 t:Int}(h:J0 a t0 t=0):(100000<=a/\a<=1000000)/\KG t0=true/\KG t=true:=by
 unfold J0 at h
 split at h
 ·cases h
 ·rename_i hn
  simp only[not_or,Bool.not_eq_false]at hn
  exact⟨by omega,hn.2.2.1,hn.2.2.2⟩
abbrev Iv:=Int×Int
def B6(x:Int):Bool:=decide (-4611686018427387904<=x)&&decide (x<=4611686018427387904)
def ivE(l:List Iv):Int:=if l.all (fun a=>B6 a.1&&B6 a.2)then(if l.all (fun a=>decide (a.1<=a.2))then 0 else 2)else 7
def rndT(up:Bool)(x d:Int):Int:=if up then -((-x)/d)else x/d
def rndB(t:Int):Int×Bool:=if -4611686018427387904<=t/\t<=4611686018427387904 then(t,true)else(0,false)
def Ybu(up:Bool)(x d:Int):Int×Bool:=rndB (rndT up x d)
def Yn2(a b:Int×Bool):Iv×Int:=if a.2&&b.2 then((a.1,b.1),0)else((0,0),7)
def lowI(x:Int)(r:List Int):Int:=r.foldl (fun low y=>if y<low then y else low) x
def YhE(x:Int)(r:List Int):Int:=r.foldl (fun high y=>if high<y then y else high) x
def Yn1(d:Int)(x:Int)(r:List Int):Iv×Int:=Yn2 (Ybu false (lowI x r) d) (Ybu true (YhE x r) d)
def fitF(lo hi:Int):Iv×Int:=if B6 lo&&B6 hi then((lo,hi),0)else((0,0),7)
def TM(e:Int):Iv×Int:=((0,0),e)
def addF(a b:Iv):Iv×Int:=if ivE [a,b]≠0 then TM (ivE [a,b])else fitF (a.1+b.1) (a.2+b.2)
def mulF(a b:Iv):Iv×Int:=if ivE [a,b]≠0 then TM (ivE [a,b])else Yn1 1 (a.1*b.1) [a.1*b.2,a.2*b.1,a.2*b.2]
def IR(f:Iv->Iv->Iv×Int):Ctr:={ alias:=false,of:=fun a=>match a with
 | [.agg [.int .i64 x,.int .i64 y],.agg [.int .i64 z,.int .i64 w]]=> .fin (.tup [.agg (Yw (f (x,y) (z,w)).1),.int .i64 (f (x,y) (z,w)).2]) []
 |_=>noC}
def addC:=IR addF
def mulC:=IR mulF
structure Prt where
 a:Iv
 b:Iv
 e:Int
def v27:VF:=⟨9,[.tmp 2],(ZR [u1 2 .mov [.cn (.bool false)]] (ZR [Zm 3 0,Zq 4 .geq 3 (-20000),Zm 5 4,Zg 6 5 true 0,u2 7 5 true (.cmp .leq) [.tm 6,.cn (.int .i64 50000)],u1 8 .and [.tm 5,.tm 7],Zm 2 8] .ret))⟩
theorem Ydq:Yn Yb Tryz.f27=some v27:=by kernel_rfl
def v32:VF:=⟨23,[.tmp 2],(ZR [u1 1 .box [.tm 0],Zi 2 0] (.seq (ZR [Za 3 0 1,Zf 4 1 3,Zq 5 .lss 4 100000,Zm 6 5,Zj 7 6 false 0 1,Zh 8 6 false 1 7,u2 9 6 false (.cmp .gtr) [.tm 8,.cn (.int .i64 1000000)],u1 10 .or [.tm 6,.tm 9],Zm 11 10,Zj 12 11 false 1 1,Zh 13 11 false 1 12,u2 14 11 false (.call 27) [.tm 13],u2 15 11 false .not [.tm 14],u1 16 .or [.tm 11,.tm 15],Zm 17 16,Zj 18 17 false 2 1,Zh 19 17 false 1 18,u2 20 17 false (.call 27) [.tm 19],u2 21 17 false .not [.tm 20],u1 22 .or [.tm 17,.tm 21]] (ZC 22 (ZR [Zi 2 2] .ret) .skip)) (ZR [Zi 2 0] .ret)))⟩
theorem YpN:Yn Yb Tryz.f32=some v32:=by kernel_rfl
def v61:VF:=⟨12,[.tmp 4],(ZR [Zi 4 0] (.seq (.block 0 (.loop (.seq (ZR [Zm 5 1,Zq 6 .neq 5 0] (ZC 6 .skip (.exit 0))) (.block 1 (.draw [] [Zu 7 1,Zu 8 0,Zu 9 1,w1 10 .rem [.tm 8,.tm 9],Zu 0 7,Zu 1 10]))))) (ZR [Zm 11 0,Zm 4 11] .ret)))⟩
theorem Yqf:Yn Yb Tryz.f61=some v61:=by kernel_rfl
def v34:VF:=⟨92,[.tmp 2],(ZR [u1 1 .box [.tm 0],Zi 2 0] (.seq (ZR [Za 8 2 1,Zf 9 1 8,Zq 10 .lss 9 0,Zm 11 10,Zj 12 11 false 2 1,Zh 13 11 false 1 12,u2 14 11 false (.cmp .gtr) [.tm 13,.cn (.int .i64 11)],u1 15 .or [.tm 11,.tm 14]] (ZC 15 (ZR [Zi 2 2] .ret) .skip)) (.seq (ZR [Zi 3 0] (.block 0 (.loop (.seq (ZR [Zm 16 3,Zq 17 .lss 16 12] (ZC 17 .skip (.exit 0))) (.seq (.block 1 (ZR [Zm 20 3,Za 21 3 1,u1 22 (.idxArr 12 2) [.tm 21,.tm 20],Zt 23 2 22,u1 4 (.alloc Z2) [],Zs 2 4 23] (ZR [Za 24 1 4,Zf 25 1 24,Zq 26 .lss 25 1,Zm 27 26,Zj 28 27 false 1 4,Zh 29 27 false 1 28,u2 30 27 false (.cmp .gtr) [.tm 29,.cn (.int .i64 24)],u1 31 .or [.tm 27,.tm 30],Zm 32 31,Zj 33 32 false 0 4,Zh 34 32 false 1 33,Zj 35 32 false 1 4,Zh 36 32 false 1 35,u2 37 32 false (.ari .mul) [.cn (.int .i64 (-2)),.tm 36],u2 38 32 false (.cmp .lss) [.tm 34,.tm 37],u1 39 .or [.tm 32,.tm 38],Zm 40 39,Zj 41 40 false 0 4,Zh 42 40 false 1 41,Zj 43 40 false 1 4,Zh 44 40 false 1 43,u2 45 40 false (.ari .mul) [.cn (.int .i64 2),.tm 44],u2 46 40 false (.cmp .gtr) [.tm 42,.tm 45],u1 47 .or [.tm 40,.tm 46]] (ZC 47 (ZR [Zi 2 2] .ret) .skip)))) (.region [Zm 18 3,Zp 19 18 1,Zm 3 19])))))) (.seq (ZR [Za 48 0 1,Zf 49 1 48,Zc 50 60 49,u1 51 .not [.tm 50],Zm 52 51,Zj 53 52 false 2 1,Zh 54 52 false 1 53,Zj 55 52 false 3 1,u2 56 52 false (.idxArr 12 2) [.tm 55,.tm 54],u2 57 52 false (.load true 2) [.tm 56],u2 58 52 false (.build Z2 [(0,1),(1,1)]) [.cn (.int .i64 0),.cn (.int .i64 1)],u2 59 52 false (.eqv true [true,true]) [.tm 57,.tm 58],u1 60 .or [.tm 52,.tm 59]] (ZC 60 (ZR [Zi 2 6] .ret) .skip)) (ZR [Zi 5 1] (.seq (ZR [Zi 6 0] (.block 2 (.loop (.seq (ZR [Zm 61 6,Zq 62 .lss 61 12] (ZC 62 .skip (.exit 2))) (.seq (.block 3 (ZR [Zm 65 6,Za 66 3 1,u1 67 (.idxArr 12 2) [.tm 66,.tm 65],Zt 68 2 67,u1 7 (.alloc Z2) [],Zs 2 7 68] (.seq (ZR [Za 69 0 7,Zf 70 1 69,Za 71 0 7,Zf 72 1 71,u1 73 .neg [.tm 72],u1 74 .max [.tm 70,.tm 73],Za 75 1 7,Zf 76 1 75,Zd 77 61 74 76,Zq 78 .neq 77 1] (ZC 78 (ZR [Zi 2 6] .ret) .skip)) (ZR [Zm 79 5,Zq 80 .leq 79 120] (ZC 80 (.draw [] [Zu 81 5,Zu 82 5,Zy 83 1 7,Zv 84 1 83,Zy 87 1 7,Zv 88 1 87,Zz 85 61 82 84,w1 86 .quo [.tm 81,.tm 85],w1 89 (.ari .mul) [.tm 86,.tm 88],Zu 5 89]) .skip))))) (.region [Zm 63 6,Zp 64 63 1,Zm 6 64])))))) (.seq (ZR [Zm 90 5,Zq 91 .gtr 90 120] (ZC 91 (ZR [Zi 2 7] .ret) .skip)) (ZR [Zi 2 0] .ret))))))))⟩
theorem YpP:Yn Yb Tryz.f34=some v34:=by kernel_rfl
def TT0:Env:=mkE [] []
theorem RI:YD Yb TT0:=eo (by kernel_rfl) trivial trivial
theorem YoD:valdC.ok Yb 27:=by
 refine Yy Tryz.func27 Ydq RI 300 valdC fun args k h=>?_
 simp only[valdC]at h
 split at h
 ·rename_i t
  refine⟨[.int .i64 t],by simp [leL,le],?_⟩
  dsimp only[v27,go_sem,reduceIte,Ya]
  simp only[Yd,Ya,Ye,reduceCtorEq,Yc]
  exact QF h
 ·exact h.1.elim
def TT1:Env:=mkE [(27,valdC)] []
theorem YeG:YD Yb TT1:=eo (by kernel_rfl) ⟨⟨YoD,_,Tryz.func27,rfl,rfl⟩,trivial⟩ trivial
theorem C7:chkSC.ok Yb 32:=by
 refine Yy Tryz.func32 YpN YeG 300 chkSC fun args k h=>?_
 simp only[chkSC]at h
 split at h
 ·rename_i a t0 t
  refine⟨[.agg [.int .i64 a,.int .i64 t0,.int .i64 t]],by simp [leL,le],?_⟩
  dsimp only[v32,TT1,Yk,valdC,go_sem,reduceIte,Ya]
  simp only[Yd,Ya,Ye,reduceCtorEq,Yc]
  have h:k (.int .i64 (J0 a t0 t)) []:=h
  refine⟨fun hc=>?_,fun hc=>?_⟩
  ·rw[J0,if_pos (by simpa [or_assoc]using hc)]at h;exact Kb h
  ·rw[J0,if_neg (by simpa [or_assoc,and_assoc]using hc)]at h;exact Kb h
 ·exact h.1.elim
theorem Yho:tgcdC.ok Yb 61:=by
 refine Yy Tryz.func61 Yqf RI 100 tgcdC fun args k h=>?_
 simp only[tgcdC]at h
 split at h
 ·rename_i a b
  obtain⟨x,y,⟨rfl,rfl,hx,hy⟩,h⟩:=h
  refine⟨[.int .i64 x,.int .i64 y],by simp [leL,le],?_⟩
  dsimp only[v61,go_sem,reduceIte,Ya]
  simp only[Yd,Ya,Ye,reduceCtorEq,Yc]
  refine Loop.keep [4] (Nat×Nat) (fun s=>[(0,.int .i64 s.1),(1,.int .i64 s.2)]) (fun _=>[]) [] (fun s=>YI s.1 s.2=YI x y/\s.1<=9223372036854775807/\s.2<=9223372036854775807) (fun s=>s.2) ?_ ?_
  ·refine⟨(x,y),⟨rfl,hx,hy⟩,?_⟩
   dsimp only[go_sem,reduceIte,Ya]
   simp only[Yf]
  ·rintro⟨p,q⟩ ⟨he,hp,hq⟩
   dsimp only at he hp hq
   dsimp only[go_sem,reduceIte,Ya]
   simp only[Yd,Ya,Ye,reduceCtorEq,Yc]
   refine⟨fun hc=>⟨hc,(q,p%q),⟨?_,by simp only;omega,?_⟩,?_,?_⟩,fun hc=>Kb ?_⟩
   ·rw[<-he,Nat.gcd_comm p q]
    show YI q (p%q)=YI q p
    rw[Nat.gcd_comm q (p%q),<-Nat.gcd_rec]
   ·have:=Kj p (by omega:0<q)
    simp only;omega
   ·exact Kj p (by omega:0<q)
   ·have e:(p:Int).tmod q=((p%q:Nat):Int):=VI rfl rfl
    rw[e]
    simp only[Yf]
   ·obtain rfl:q=0:=by omega
    rw[Nat.gcd_zero_right]at he
    rw[he];exact h
 ·exact h.1.elim
theorem VX{T:Tm}(h:Ke T=0):(0<=T.wolf/\T.wolf<=11)/\(∀j,j<12->XU (T.p j)=false)/\XM T.nm=true/\(∀j,j<12->UG (T.p j)=1)/\(T.p T.wolf.toNat).1=0/\YT T 12<=120:=by
 unfold Ke at h
 split at h
 ·exact absurd h (by decide)
 rename_i h1
 split at h
 ·exact absurd h (by decide)
 rename_i h2
 split at h
 ·exact absurd h (by decide)
 rename_i h3
 split at h
 ·exact absurd h (by decide)
 rename_i h4
 have h5:XM T.nm=true/\WY T 12=true/\(T.p T.wolf.toNat).1=0:=by
  refine⟨?_,?_,?_⟩
  ·cases hn:XM T.nm
   ·exact absurd (.inl hn) h3
   ·rfl
  ·cases hn:WY T 12
   ·exact absurd (.inr (.inl hn)) h3
   ·rfl
  ·exact Classical.byContradiction fun hn=>h3 (.inr (.inr hn))
 refine⟨by omega,fun j hj=>?_,h5.1,fun j hj=>?_,h5.2.2,by omega⟩
 ·cases hb:XU (T.p j)
  ·rfl
  ·exact absurd (Df hj hb) h2
 ·have:=VJ.1 h5.2.1 j (List.mem_range.2 hj)
  exact of_decide_eq_true this
theorem Ev(T:Tm){i:Nat}(h:i<12):YP 2 (YF (3+Kw (i:Int) 2) (YZ T))=[.int .i64 (T.p i).1,.int .i64 (T.p i).2]:=by
 rcases Uk h with rfl|rfl|rfl|rfl|rfl|rfl|rfl|rfl|rfl|rfl|rfl|rfl <;> rfl
theorem Ew(T:Tm){i:Nat}(h:i<12):2<=YK (YF (3+Kw (i:Int) 2) (YZ T)):=by
 rcases Uk h with rfl|rfl|rfl|rfl|rfl|rfl|rfl|rfl|rfl|rfl|rfl|rfl <;> exact KC rfl
theorem RT{T:Tm}:∀{k i:Nat},i<k->YT T k<=120->(T.p i).2.toNat∣YT T k
 |k+1,i,hi,h=>by
  rw[YT]at h⊢
  by_cases c:YT T k<=120
  ·rw[if_pos c]at h⊢
   by_cases e:i=k
   ·rw[e];exact Nat.dvd_mul_left ..
   ·have ih:=RT (T:=T) (show i<k by omega) c
    refine JY ih ?_
    obtain⟨x,hx⟩:=WI (YT T k) (T.p k).2.toNat
    obtain⟨y,hy⟩:=Nat.gcd_dvd_right (YT T k) (T.p k).2.toNat
    generalize YI (YT T k) (T.p k).2.toNat=g at*
    refine⟨y,?_⟩
    rcases Jc g with h0|h0
    ·rw[h0,JP]at hx hy
     rw[hx,hy,h0]
     simp
    ·rw[hx,hy,Nat.mul_div_cancel_left _ h0]
     simp only[YA,Jd]
  ·rw[if_neg c]at h
   exact absurd h c
def Lm(T:Tm):Int:=YT T 12
def tI(T:Tm)(i:Nat):Int:=(T.p i).1*(Lm T/(T.p i).2)
def cA(T:Tm):Int:=if T.syn=true then -4 else -19
def cB(T:Tm):Int:=if T.syn=true then 4 else 12
def cC(T:Tm):Int:=if T.syn=true then -1 else 0
def bB(T:Tm):Int:=if T.syn=true then 9 else 25
def bC(T:Tm):Int:=if T.syn=true then 2 else 0
theorem S0(T:Tm):Wa T=⟨cA T,cB T,cC T,0,0,0,1⟩:=by
 unfold Wa cA cB cC
 split
 ·decide+kernel
 ·decide+kernel
theorem Yky:(K1 3 2).1=⟨-1,1,0,0,0,0,1⟩:=by decide+kernel
theorem OY:(K1 128 1).1=⟨7,0,0,0,0,0,1⟩:=by decide+kernel
theorem Ykx:(K1 1 1).1=⟨0,0,0,0,0,0,1⟩:=by decide+kernel
theorem Qk{T:Tm}(h:Ke T=0):1<=Lm T/\Lm T<=120:=by
 obtain⟨_,h1,_,_,_,h2⟩:=VX h
 have:=(HJ (T:=T) (i:=12) h1).1
 unfold Lm;omega
theorem PU{T:Tm}(h:Ke T=0){i:Nat}(hi:i<12): -2*Lm T<=tI T i/\tI T i<=2*Lm T/\(Lm T/(T.p i).2)*(T.p i).2=Lm T:=by
 obtain⟨_,h1,_,_,_,h2⟩:=VX h
 obtain⟨b1,b2,b3⟩:=HN (h1 i hi)
 have hL:=Qk h
 have hd:(T.p i).2∣Lm T:=by
  have:=Int.natCast_dvd_natCast.2 (RT hi h2)
  rwa [K7 (by omega)]at this
 have he:=Int.ediv_mul_cancel hd
 have hm:0<=Lm T/(T.p i).2:=Int.ediv_nonneg (by omega) (by omega)
 unfold tI
 generalize Lm T/(T.p i).2=m at*
 have k1:=XC b2 hm
 have k2:=XC b3 hm
 have e1: -2*(T.p i).2*m= -2*Lm T:=by rw[<-he];grind
 have e2:2*(T.p i).2*m=2*Lm T:=by rw[<-he];grind
 exact⟨by omega,by omega,he⟩
theorem Yk0{T:Tm}(h:Ke T=0){i:Nat}(hi:i<12):Rep (Lm T) (Xm (Wa T) (T.p i).1 (T.p i).2).1 (cA T*tI T i) (cB T*tI T i) (cC T*tI T i):=by
 have hL:=Qk h
 obtain⟨t1,t2,t3⟩:=PU h hi
 obtain⟨_,h1,_,_,_,h2⟩:=VX h
 obtain⟨b1,b2,b3⟩:=HN (h1 i hi)
 have hk:Y4 (Wa T)=0:=by
  rw[S0];unfold cA cB cC;cases T.syn <;> decide+kernel
 have hbad:Uv (T.p i).1 (T.p i).2=false:=by
  simp only[Uv,K5,decide_eq_false_iff_not];omega
 have e:Xm (Wa T) (T.p i).1 (T.p i).2=GF (Wa T) (T.p i).1 (T.p i).2:=by
  unfold Xm
  rw[if_neg (by rw[hk];decide),if_neg (by rw[hbad];decide),if_neg (by omega)]
 rw[e,GF,S0]
 have key:∀v:Int,v*(T.p i).1*Lm T=v*tI T i*(1*(T.p i).2):=fun v=>by
  unfold tI
  have e1:v*(T.p i).1*Lm T=v*(T.p i).1*(Lm T/(T.p i).2*(T.p i).2):=by rw[t3]
  rw[e1];grind
 have smv:∀v:Int, -19<=v->v<=19->sm (v*tI T i):=fun v v1 v2=>by
  have:=Jv (x:=v) (y:=tI T i) (X:=19) (Y:=240) ⟨v1,v2⟩ (by omega)
  unfold sm;omega
 have rA: -19<=cA T/\cA T<=19:=by unfold cA;split <;> omega
 have rB: -19<=cB T/\cB T<=19:=by unfold cB;split <;> omega
 have rC: -19<=cC T/\cC T<=19:=by unfold cC;split <;> omega
 exact(Ly (L:=Lm T) (by omega) (by simp only;omega) (key _) (key _) (key _) (by simp) (by simp) (by simp) (smv _ rA.1 rA.2) (smv _ rB.1 rB.2) (smv _ rC.1 rC.2)).2
def fA(T:Tm)(i:Nat):Int:= -Lm T-cA T*tI T i
def fB(T:Tm)(i:Nat):Int:=Lm T-cB T*tI T i
def fC(T:Tm)(i:Nat):Int:= -(cC T*tI T i)
theorem Bj{T:Tm}(h:Ke T=0){i:Nat}(hi:i<12):(-(39*Lm T)<=fA T i/\fA T i<=39*Lm T)/\(-(bB T*Lm T)<=fB T i/\fB T i<=bB T*Lm T)/\ -(bC T*Lm T)<=fC T i/\fC T i<=bC T*Lm T:=by
 have hL:=Qk h
 obtain⟨t1,t2,_⟩:=PU h hi
 unfold fA fB fC cA cB cC bB bC
 split <;> omega
theorem TQ{T:Tm}(h:Ke T=0){i:Nat}(hi:i<12):Rep (Lm T) (WR T i) (fA T i) (fB T i) (fC T i):=by
 have hL:=Qk h
 have r32:Rep (Lm T) (K1 3 2).1 (-Lm T) (Lm T) 0:=by
  rw[Yky]
  exact⟨by decide+kernel,by simp,by simp,by simp,rfl,rfl,rfl⟩
 have hf:=Bj h hi
 have hb:bB T<=25/\bC T<=2/\0<=bB T/\0<=bC T:=by unfold bB bC;split <;> omega
 have m1:=XC hb.1 (show 0<=Lm T by omega)
 have m2:=XC hb.2.1 (show 0<=Lm T by omega)
 have e1: -Lm T+ -1*(cA T*tI T i)=fA T i:=by unfold fA;omega
 have e2:Lm T+ -1*(cB T*tI T i)=fB T i:=by unfold fB;omega
 have e3:0+ -1*(cC T*tI T i)=fC T i:=by unfold fC;omega
 have:=(Hj (s:= -1) (by omega) r32 (Yk0 h hi) (by rw[e1];unfold sm;omega) (by rw[e2];unfold sm;omega) (by rw[e3];unfold sm;omega)).2
 exact this.cast e1 e2 e3
def Ja(f:Nat->Int)(w:Int):Nat->Int
 |0=>0
 |i+1=>Ja f w i+(if(i:Int)=w then 0 else f i)
theorem NJ{f:Nat->Int}{w B:Int}(hB:0<=B)(h:∀i,i<12-> -B<=f i/\f i<=B)(i:Nat):∀d,i+d<=12-> -(B*d)<=Ja f w (i+d)-Ja f w i/\Ja f w (i+d)-Ja f w i<=B*d
 |0,_=>by simp
 |d+1,hd=>by
  have ih:=NJ hB h (w:=w) i d (by omega)
  rw[<-Zk,Ja]
  have:=h (i+d) (by omega)
  have e:B*((d+1:Nat):Int)=B*d+B:=by rw[VH,Int.mul_add];simp
  rw[e]
  split <;> omega
def gA(T:Tm)(i:Nat):Int:=Ja (fA T) T.wolf i
def gB(T:Tm)(i:Nat):Int:=Ja (fB T) T.wolf i
def gC(T:Tm)(i:Nat):Int:=Ja (fC T) T.wolf i
theorem U7{T:Tm}(h:Ke T=0):0<=bB T*Lm T/\bB T*Lm T<=3000/\0<=bC T*Lm T/\bC T*Lm T<=240:=by
 have hL:=Qk h
 have hb:bB T<=25/\bC T<=2/\0<=bB T/\0<=bC T:=by unfold bB bC;split <;> omega
 have m1:=XC hb.1 (show 0<=Lm T by omega)
 have m2:=XC hb.2.1 (show 0<=Lm T by omega)
 exact⟨ZZ hb.2.2.1 (by omega),by omega,ZZ hb.2.2.2 (by omega),by omega⟩
theorem Bu{T:Tm}(h:Ke T=0)(i d:Nat)(hd:i+d<=12):(-(39*Lm T*d)<=gA T (i+d)-gA T i/\gA T (i+d)-gA T i<=39*Lm T*d)/\(-(bB T*Lm T*d)<=gB T (i+d)-gB T i/\gB T (i+d)-gB T i<=bB T*Lm T*d)/\ -(bC T*Lm T*d)<=gC T (i+d)-gC T i/\gC T (i+d)-gC T i<=bC T*Lm T*d:=by
 have hL:=Qk h
 have hb:=U7 h
 exact⟨NJ (by omega) (fun j hj=>(Bj h hj).1) i d hd,NJ hb.1 (fun j hj=>(Bj h hj).2.1) i d hd,NJ hb.2.2.1 (fun j hj=>(Bj h hj).2.2) i d hd⟩
theorem WE{B:Int}{d n:Nat}(hB:0<=B)(h:d<=n):B*d<=B*n:=Int.mul_le_mul_of_nonneg_left (by omega) hB
theorem Ybr{T:Tm}(h:Ke T=0):∀i,i<=12->Rep (Lm T) (K6 T i) (7*Lm T-gA T i) (-gB T i) (-gC T i)
 |0,_=>by
  rw[K6,OY]
  exact⟨by decide+kernel,by show 7*Lm T=(7*Lm T-0)*1;omega,by show 0*Lm T=(-0)*1;simp,by show 0*Lm T=(-0)*1;simp,rfl,rfl,rfl⟩
 |i+1,hi=>by
  have ih:=Ybr h i (by omega)
  have hL:=Qk h
  have hb:=U7 h
  have bd:=Bu h 0 (i+1) (by omega)
  have z:gA T 0=0/\gB T 0=0/\gC T 0=0:=⟨rfl,rfl,rfl⟩
  rw[KJ,z.1,z.2.1,z.2.2]at bd
  have m1:=WE (show 0<=39*Lm T by omega) hi
  have m2:=WE hb.1 hi
  have m3:=WE hb.2.2.1 hi
  rw[K6]
  by_cases c:(i:Int)=T.wolf
  ·rw[if_pos c]
   refine ih.cast ?_ ?_ ?_
   ·unfold gA;rw[Ja,if_pos c];omega
   ·unfold gB;rw[Ja,if_pos c];omega
   ·unfold gC;rw[Ja,if_pos c];omega
  ·rw[if_neg c]
   have e1:7*Lm T-gA T i+ -1*fA T i=7*Lm T-gA T (i+1):=by unfold gA;rw[Ja,if_neg c];omega
   have e2: -gB T i+ -1*fB T i= -gB T (i+1):=by unfold gB;rw[Ja,if_neg c];omega
   have e3: -gC T i+ -1*fC T i= -gC T (i+1):=by unfold gC;rw[Ja,if_neg c];omega
   have:=(Hj (s:= -1) (by omega) ih (TQ h (show i<12 by omega)) (by rw[e1];unfold sm;omega) (by rw[e2];unfold sm;omega) (by rw[e3];unfold sm;omega)).2
   exact this.cast e1 e2 e3
def sA(T:Tm)(i:Nat):Int:=gA T i+(if T.wolf<i then 7*Lm T-gA T 12 else 0)
def sB(T:Tm)(i:Nat):Int:=gB T i+(if T.wolf<i then -gB T 12 else 0)
def sC(T:Tm)(i:Nat):Int:=gC T i+(if T.wolf<i then -gC T 12 else 0)
theorem FE{T:Tm}(h:Ke T=0){i m:Nat}(hi:i<=12)(hm:i<=T.wolf->i<=m)(hm2:T.wolf<i->12-i<=m):(-(39*Lm T*12)-7*Lm T<=sA T i/\sA T i<=39*Lm T*12+7*Lm T)/\(-(bB T*Lm T*m)<=sB T i/\sB T i<=bB T*Lm T*m)/\ -(bC T*Lm T*m)<=sC T i/\sC T i<=bC T*Lm T*m:=by
 have hL:=Qk h
 have hb:=U7 h
 unfold sA sB sC
 by_cases c:T.wolf<i
 ·have bd:=Bu h i (12-i) (by omega)
  rw[show i+(12-i)=12 by omega]at bd
  rw[if_pos c,if_pos c,if_pos c]
  have m1:=WE (show 0<=39*Lm T by omega) (show 12-i<=12 by omega)
  have m2:=WE hb.1 (hm2 c)
  have m3:=WE hb.2.2.1 (hm2 c)
  omega
 ·have bd:=Bu h 0 i (by omega)
  have z:gA T 0=0/\gB T 0=0/\gC T 0=0:=⟨rfl,rfl,rfl⟩
  rw[KJ,z.1,z.2.1,z.2.2]at bd
  rw[if_neg c,if_neg c,if_neg c]
  have m1:=WE (show 0<=39*Lm T by omega) hi
  have m2:=WE hb.1 (hm (by omega))
  have m3:=WE hb.2.2.1 (hm (by omega))
  omega
theorem TR{T:Tm}(h:Ke T=0){k:Nat}(hk:k<12):Rep (Lm T) (ZN T k) (sA T (k+1)-sA T k) (sB T (k+1)-sB T k) (sC T (k+1)-sC T k):=by
 obtain⟨hw,_⟩:=VX h
 unfold ZN
 by_cases c:k=T.wolf.toNat
 ·rw[if_pos c]
  have c2:(k:Int)=T.wolf:=by omega
  have w1:T.wolf<((k+1:Nat):Int):=by omega
  have w2:¬T.wolf<(k:Int):=by omega
  have gw:∀f:Nat->Int,Ja f T.wolf (k+1)=Ja f T.wolf k:=fun f=>by rw[Ja,if_pos c2,Zb]
  refine(Ybr h 12 (by decide)).cast ?_ ?_ ?_
  ·unfold sA;rw[if_pos w1,if_neg w2];unfold gA;rw[gw];omega
  ·unfold sB;rw[if_pos w1,if_neg w2];unfold gB;rw[gw];omega
  ·unfold sC;rw[if_pos w1,if_neg w2];unfold gC;rw[gw];omega
 ·rw[if_neg c,QI,if_pos hk]
  have c2:¬(k:Int)=T.wolf:=by omega
  rw[if_neg c2]
  refine(TQ h hk).cast ?_ ?_ ?_
  ·unfold sA gA;rw[Ja,if_neg c2];split <;> split <;> omega
  ·unfold sB gB;rw[Ja,if_neg c2];split <;> split <;> omega
  ·unfold sC gC;rw[Ja,if_neg c2];split <;> split <;> omega
theorem Ak{T:Tm}(h:Ke T=0):∀i,i<=12->Rep (Lm T) (Jq T i).2 (sA T i) (sB T i) (sC T i)
 |0,_=>by
  obtain⟨hw,_⟩:=VX h
  rw[Jq]
  show Rep (Lm T) (K1 1 1).1 _ _ _
  rw[Ykx]
  have c:¬T.wolf<((0:Nat):Int):=by omega
  refine⟨by decide+kernel,?_,?_,?_,rfl,rfl,rfl⟩
  ·show 0*Lm T=sA T 0*1
   unfold sA;rw[if_neg c];unfold gA Ja;simp
  ·show 0*Lm T=sB T 0*1
   unfold sB;rw[if_neg c];unfold gB Ja;simp
  ·show 0*Lm T=sC T 0*1
   unfold sC;rw[if_neg c];unfold gC Ja;simp
 |i+1,hi=>by
  have ih:=Ak h i (by omega)
  have hL:=Qk h
  have hb:=U7 h
  have bd:=FE h (i:=i+1) (m:=12) (by omega) (by omega) (by omega)
  rw[Jq]
  show Rep (Lm T) (KQ (Jq T i).2 (ZN T i) 1).1 _ _ _
  have e1:sA T i+1*(sA T (i+1)-sA T i)=sA T (i+1):=by omega
  have e2:sB T i+1*(sB T (i+1)-sB T i)=sB T (i+1):=by omega
  have e3:sC T i+1*(sC T (i+1)-sC T i)=sC T (i+1):=by omega
  have:=(Hj (s:=1) (by omega) ih (TR h (show i<12 by omega)) (by rw[e1];unfold sm;omega) (by rw[e2];unfold sm;omega) (by rw[e3];unfold sm;omega)).2
  exact this.cast e1 e2 e3
theorem OQ(T:Tm):∀i j,j<i->i<=12->(Jq T i).1 (7*j%12)=(JF (Jq T j).2).1
 |i+1,j,hj,hi=>by
  rw[Jq]
  show UQ (Jq T i).1 (7*i%12) (JF (Jq T i).2).1 (7*j%12)=_
  unfold UQ
  by_cases c:j=i
  ·subst c;rw[if_pos rfl]
  ·rw[if_neg (by omega)]
   exact OQ T i j (by omega) (by omega)
theorem B4{T:Tm}(h:Ke T=0){j:Nat}(hj:j<12):∃k:Int,Rep (Lm T) (YR T (7*j%12)) (sA T j-k*Lm T) (sB T j) (sC T j)/\Le0 (sA T j-k*Lm T-Lm T) (sB T j) (sC T j)/\Le0 (8* -(sA T j-k*Lm T)-Lm T) (8* -sB T j) (8* -sC T j):=by
 obtain⟨hw,_⟩:=VX h
 have hL:=Qk h
 have hb:=U7 h
 have bd:=FE h (i:=j) (m:=11) (by omega) (by omega) (by omega)
 obtain⟨k,_,h1,h2,h3⟩:=Yhc (by omega) (Ak h j (by omega)) (by unfold sm;omega) (by unfold sm;omega) (by unfold sm;omega) (by omega)
 refine⟨k,?_,h2,h3⟩
 rw[YR,OQ T 12 j hj (Yt _)]
 exact h1
theorem SU{c:Nat}(hc:c<12):∃j,j<12/\7*j%12=c:=⟨7*c%12,by omega,by omega⟩
theorem Yko{T:Tm}(h:Ke T=0){note:Int}(hn:0<=note):∃a b c:Int,Rep (Lm T) (JW (YR T) note) a b c/\Le0 (8*a-9*Lm T) (8*b) (8*c)/\Le0 (8* -a-9*Lm T) (8* -b) (8* -c):=by
 obtain⟨hw,_⟩:=VX h
 have hL:=Qk h
 have hb:=U7 h
 obtain⟨j,hj,hjc⟩:=SU (c:=(note%12).toNat) (by omega)
 obtain⟨k,r1,l1,l2⟩:=B4 h hj
 obtain⟨k9,r9,m1,m2⟩:=B4 h (show 3<12 by decide)
 rw[hjc]at r1
 rw[show 7*3%12=9 from rfl]at r9
 have bd:=FE h (i:=j) (m:=11) (by omega) (by omega) (by omega)
 have b9:=FE h (i:=3) (m:=9) (by omega) (by omega) (by omega)
 have u:=BJ ((V7 (m:=8) (by decide)).2 l1) m2
 have d:=BJ l2 ((V7 (m:=8) (by decide)).2 m1)
 have u2:Le0 (8*(sA T j-k*Lm T+ -1*(sA T 3-k9*Lm T))-9*Lm T) (8*(sB T j+ -1*sB T 3)) (8*(sC T j+ -1*sC T 3)):=Gq u (by omega) (by omega) (by omega)
 have d2:Le0 (8* -(sA T j-k*Lm T+ -1*(sA T 3-k9*Lm T))-9*Lm T) (8* -(sB T j+ -1*sB T 3)) (8* -(sC T j+ -1*sC T 3)):=Gq d (by omega) (by omega) (by omega)
 have q1:=Gp u2
 have q2:=Gp d2
 have hbc:(bB T=25/\bC T=0)\/(bB T=9/\bC T=2):=by unfold bB bC;split <;> simp
 have hab: -98000<=sA T j-k*Lm T+ -1*(sA T 3-k9*Lm T)/\sA T j-k*Lm T+ -1*(sA T 3-k9*Lm T)<=98000:=by
  rcases hbc with⟨e1,e2⟩ | ⟨e1,e2⟩
  ·rw[e1,e2]at bd b9;omega
  ·rw[e1,e2]at bd b9;omega
 have hj2:=(Hj (s:= -1) (by omega) r1 r9 (by unfold sm;omega) (by unfold sm;rcases hbc with⟨e1,e2⟩ | ⟨e1,e2⟩ <;> (rw[e1,e2]at bd b9;omega)) (by unfold sm;rcases hbc with⟨e1,e2⟩ | ⟨e1,e2⟩ <;> (rw[e1,e2]at bd b9;omega))).2
 exact⟨_,_,_,hj2,u2,d2⟩
theorem Le{x y z:Int}{n:Nat}(h:Le0 (x+ -(n:Int)) y z):UP x y z<=UP (-x) (-y) (-z)*2^n:=by
 have e:=G3 x y z (-(n:Int)) 0 0
 rw[Jx,Int.neg_zero,Zb,Zb,(U0 n).1,(U0 n).2,Y0]at e
 unfold Le0 at h
 have p:=KE (x+ -(n:Int)) y z
 have p2:=KE (-(x+ -(n:Int))) (-y) (-z)
 refine Vg (c:=UP (-(x+ -(n:Int))) (-y) (-z)) ?_ p2
 rw[<-e]
 exact Yp _ h
theorem Ykn{T:Tm}(h:Ke T=0){note:Int}(hn:0<=note):∃(r:Rt) (n:Nat),JW (YR T) note=r/\r.n=n/\(1<=n/\n<=1000)/\(∃L a b c,Rep L r a b c)/\UP r.a r.b r.c^8<=UP (-r.a) (-r.b) (-r.c)^8*2^(9*n)/\UP (-r.a) (-r.b) (-r.c)^8<=UP r.a r.b r.c^8*2^(9*n):=by
 obtain⟨a,b,c,hr,hu,hd⟩:=Yko h hn
 have hL:=Qk h
 have hnr:=hr.n_rng
 obtain⟨r,hre⟩:∃r,r=JW (YR T) note:=⟨_,rfl⟩
 rw[<-hre]at hr hnr
 obtain⟨n,hnn⟩:∃n:Nat,r.n=n:=⟨r.n.toNat,by omega⟩
 obtain⟨M,hM⟩:∃M:Nat,Lm T=M:=⟨(Lm T).toNat,by omega⟩
 have ha:=hr.ha
 have hb:=hr.hb
 have hc:=hr.hc
 rw[hM,hnn]at ha hb hc
 rw[hM]at hu hd
 have scale:∀{x y z x' y' z':Int},x'*M=x*n->y'*M=y*n->z'*M=z*n->Le0 x y z->Le0 x' y' z':=fun h1 h2 h3 h0=>by
  have h4:=(V7 (m:=n) (by omega)).2 h0
  refine(V7 (m:=M) (by omega)).1 (Gq h4 ?_ ?_ ?_)
  ·rw[KM,<-h1,KM]
  ·rw[KM,<-h2,KM]
  ·rw[KM,<-h3,KM]
 have u:Le0 (8*r.a+ -((9*n:Nat):Int)) (8*r.b) (8*r.c):=scale (by rw[Qr];grind) (by grind) (by grind) hu
 have d:Le0 (8* -r.a+ -((9*n:Nat):Int)) (8* -r.b) (8* -r.c):=scale (by rw[Qr];grind) (by grind) (by grind) hd
 have e8:∀x y z:Int,UP (8*x) (8*y) (8*z)=UP x y z^8:=fun x y z=>QD 8 x y z
 have u3:=Le u
 have d3:=Le d
 rw[<-KN,<-KN,<-KN,e8,e8]at u3
 rw[<-KN,<-KN,<-KN,Jx,Jx,Jx,e8,e8]at d3
 exact⟨r,n,hre.symm,hnn,by omega,⟨_,_,_,_,hr⟩,u3,d3⟩
def gT(T:Tm)(i:Nat):Int:=Ja (fun _=>1) T.wolf i
def gW(T:Tm)(i:Nat):Int:=Ja (tI T) T.wolf i
theorem EK(T:Tm):∀i,gA T i= -(Lm T*gT T i)-cA T*gW T i/\gB T i=Lm T*gT T i-cB T*gW T i/\gC T i= -(cC T*gW T i)
 |0=>by unfold gA gB gC gT gW Ja;simp
 |i+1=>by
  obtain⟨h1,h2,h3⟩:=EK T i
  unfold gA gB gC gT gW at*
  rw[Ja,Ja,Ja,Ja,Ja,h1,h2,h3]
  unfold fA fB fC
  by_cases c:(i:Int)=T.wolf
  ·simp only[if_pos c,Zb,and_self]
  ·simp only[if_neg c,Int.mul_add,Int.mul_one]
   omega
def sX(T:Tm)(i:Nat):Int:= -gT T i+(if T.wolf<i then 7+gT T 12 else 0)
def sT(T:Tm)(i:Nat):Int:=gT T i+(if T.wolf<i then -gT T 12 else 0)
def sW(T:Tm)(i:Nat):Int:=gW T i+(if T.wolf<i then -gW T 12 else 0)
theorem PA(T:Tm)(i:Nat):sA T i=Lm T*sX T i-cA T*sW T i/\sB T i=Lm T*sT T i-cB T*sW T i/\sC T i= -(cC T*sW T i):=by
 obtain⟨h1,h2,h3⟩:=EK T i
 obtain⟨k1,k2,k3⟩:=EK T 12
 unfold sA sB sC sX sT sW
 rw[h1,h2,h3,k1,k2,k3]
 by_cases c:T.wolf<i
 ·simp only[if_pos c,Int.mul_add,KN]
  omega
 ·simp only[if_neg c,Int.mul_add,KN]
  omega
theorem H8{T:Tm}(hw:0<=T.wolf):∀i:Nat,gT T i=if T.wolf<i then(i:Int)-1 else i
 |0=>by rw[if_neg (by omega)];rfl
 |i+1=>by
  have ih:=H8 hw i
  unfold gT at ih⊢
  rw[Ja,ih]
  by_cases c:T.wolf<i
  ·rw[if_pos c,if_neg (by omega),if_pos (by omega)];omega
  ·by_cases d:(i:Int)=T.wolf
   ·rw[if_neg c,if_pos d,if_pos (by omega)];omega
   ·rw[if_neg c,if_neg d,if_neg (by omega)];omega
theorem Yhm{T:Tm}(h:Ke T=0)(i d:Nat)(hd:i+d<=12): -(2*Lm T*d)<=gW T (i+d)-gW T i/\gW T (i+d)-gW T i<=2*Lm T*d:=by
 have hL:=Qk h
 exact NJ (by omega) (fun j hj=>by have:=PU h hj;omega) i d hd
theorem V6{T:Tm}(h:Ke T=0){i j:Nat}(hij:i<=j)(hj:j<=12){m:Nat}(hm:j-i<=m): -(2*Lm T*m)<=gW T j-gW T i/\gW T j-gW T i<=2*Lm T*m:=by
 have hL:=Qk h
 have b:=Yhm h i (j-i) (by omega)
 rw[show i+(j-i)=j by omega]at b
 have:=WE (show 0<=2*Lm T by omega) hm
 omega
theorem YnH{T:Tm}(h:Ke T=0){j:Nat}(hj:j<12):(-11<=sT T j-sT T 3/\sT T j-sT T 3<=11)/\ -(22*Lm T)<=sW T j-sW T 3/\sW T j-sW T 3<=22*Lm T:=by
 obtain⟨hw,_⟩:=VX h
 have hL:=Qk h
 have e1:=H8 hw.1 j
 have e2:=H8 hw.1 3
 have e3:=H8 hw.1 12
 unfold sT sW
 rw[e1,e2,e3,if_pos (show T.wolf<((12:Nat):Int)by omega)]
 by_cases c:T.wolf<j
 ·by_cases d:T.wolf<((3:Nat):Int)
  ·simp only[if_pos c,if_pos d]
   refine⟨by omega,?_⟩
   rcases Nat.le_total 3 j with g|g
   ·have:=V6 h g (by omega) (m:=11) (by omega)
    omega
   ·have:=V6 h g (by omega) (m:=11) (by omega)
    omega
  ·simp only[if_pos c,if_neg d]
   refine⟨by omega,?_⟩
   have a:=V6 h (show j<=12 by omega) (Yt _) (m:=8) (by omega)
   have b:=V6 h (show 0<=3 by omega) (by omega) (m:=3) (by omega)
   have z:gW T 0=0:=rfl
   omega
 ·by_cases d:T.wolf<((3:Nat):Int)
  ·simp only[if_neg c,if_pos d]
   refine⟨by omega,?_⟩
   have a:=V6 h (show 3<=12 by omega) (Yt _) (m:=9) (by omega)
   have b:=V6 h (show 0<=j by omega) (by omega) (m:=2) (by omega)
   have z:gW T 0=0:=rfl
   omega
  ·simp only[if_neg c,if_neg d]
   refine⟨by omega,?_⟩
   rcases Nat.le_total 3 j with g|g
   ·have:=V6 h g (by omega) (m:=11) (by omega)
    omega
   ·have:=V6 h g (by omega) (m:=11) (by omega)
    omega
theorem YnI{T:Tm}(h:Ke T=0){j:Nat}(hj:j<12):(-11<=sT T j/\sT T j<=11)/\ -(22*Lm T)<=sW T j/\sW T j<=22*Lm T:=by
 obtain⟨hw,_⟩:=VX h
 have hL:=Qk h
 have e1:=H8 hw.1 j
 have e3:=H8 hw.1 12
 unfold sT sW
 rw[e1,e3,if_pos (show T.wolf<((12:Nat):Int)by omega)]
 by_cases c:T.wolf<j
 ·simp only[if_pos c]
  refine⟨by omega,?_⟩
  have a:=V6 h (show j<=12 by omega) (Yt _) (m:=11) (by omega)
  omega
 ·simp only[if_neg c]
  refine⟨by omega,?_⟩
  have b:=V6 h (show 0<=j by omega) (by omega) (m:=11) (by omega)
  have z:gW T 0=0:=rfl
  omega
theorem OR{T:Tm}(h:Ke T=0){note:Int}(hn:0<=note):∃x t w:Int,Rep (Lm T) (JW (YR T) note) (Lm T*x-cA T*w) (Lm T*t-cB T*w) (-(cC T*w))/\(-11<=t/\t<=11)/\(-(22*Lm T)<=w/\w<=22*Lm T)/\
 Le0 (8*(Lm T*x-cA T*w)-9*Lm T) (8*(Lm T*t-cB T*w)) (8* -(cC T*w))/\Le0 (8* -(Lm T*x-cA T*w)-9*Lm T) (8* -(Lm T*t-cB T*w)) (8* - -(cC T*w)):=by
 obtain⟨hw,_⟩:=VX h
 have hL:=Qk h
 have hb:=U7 h
 obtain⟨j,hj,hjc⟩:=SU (c:=(note%12).toNat) (by omega)
 obtain⟨k,r1,l1,l2⟩:=B4 h hj
 obtain⟨k9,r9,m1,m2⟩:=B4 h (show 3<12 by decide)
 rw[hjc]at r1
 rw[show 7*3%12=9 from rfl]at r9
 have bd:=FE h (i:=j) (m:=11) (by omega) (by omega) (by omega)
 have b9:=FE h (i:=3) (m:=9) (by omega) (by omega) (by omega)
 have u:=BJ ((V7 (m:=8) (by decide)).2 l1) m2
 have d:=BJ l2 ((V7 (m:=8) (by decide)).2 m1)
 have u2:Le0 (8*(sA T j-k*Lm T+ -1*(sA T 3-k9*Lm T))-9*Lm T) (8*(sB T j+ -1*sB T 3)) (8*(sC T j+ -1*sC T 3)):=Gq u (by omega) (by omega) (by omega)
 have d2:Le0 (8* -(sA T j-k*Lm T+ -1*(sA T 3-k9*Lm T))-9*Lm T) (8* -(sB T j+ -1*sB T 3)) (8* -(sC T j+ -1*sC T 3)):=Gq d (by omega) (by omega) (by omega)
 have q1:=Gp u2
 have q2:=Gp d2
 have hbc:(bB T=25/\bC T=0)\/(bB T=9/\bC T=2):=by unfold bB bC;split <;> simp
 have hab: -98000<=sA T j-k*Lm T+ -1*(sA T 3-k9*Lm T)/\sA T j-k*Lm T+ -1*(sA T 3-k9*Lm T)<=98000:=by
  rcases hbc with⟨e1,e2⟩ | ⟨e1,e2⟩
  ·rw[e1,e2]at bd b9;omega
  ·rw[e1,e2]at bd b9;omega
 have hj2:=(Hj (s:= -1) (by omega) r1 r9 (by unfold sm;omega) (by unfold sm;rcases hbc with⟨e1,e2⟩ | ⟨e1,e2⟩ <;> (rw[e1,e2]at bd b9;omega)) (by unfold sm;rcases hbc with⟨e1,e2⟩ | ⟨e1,e2⟩ <;> (rw[e1,e2]at bd b9;omega))).2
 obtain⟨s1,s2⟩:=YnH h hj
 obtain⟨a1,a2,a3⟩:=PA T j
 obtain⟨c1,c2,c3⟩:=PA T 3
 have ea:sA T j-k*Lm T+ -1*(sA T 3-k9*Lm T)=Lm T*(sX T j-k-(sX T 3-k9))-cA T*(sW T j-sW T 3):=by
  rw[a1,c1];simp only[Int.mul_sub,KM k,KM k9];omega
 have eb:sB T j+ -1*sB T 3=Lm T*(sT T j-sT T 3)-cB T*(sW T j-sW T 3):=by
  rw[a2,c2];simp only[Int.mul_sub];omega
 have ec:sC T j+ -1*sC T 3= -(cC T*(sW T j-sW T 3)):=by
  rw[a3,c3];simp only[Int.mul_sub];omega
 rw[ea,eb,ec]at hj2 u2 d2
 exact⟨_,_,_,hj2,s1,s2,u2,d2⟩
def v78:VF:=⟨41,[.cell 10 true 27],(ZR [u1 10 (.alloc Z27) []] (ZR [Zm 14 0,Zm 15 1,Zm 16 2,u1 17 (.build Z27 [(0,1),(1,1),(2,1)]) [.tm 14,.tm 15,.tm 16],u1 11 (.alloc Z27) [],Zs 27 11 17] (.seq (ZR [Zi 12 0] (.block 0 (.loop (.seq (ZR [Zm 18 12,Zq 19 .lss 18 12] (ZC 19 .skip (.exit 0))) (.seq (.block 1 (.region [Zm 22 12,u1 23 (.build Z2 [(0,1),(1,1)]) [.cn (.int .i64 0),.cn (.int .i64 1)],Za 24 3 11,u1 25 (.idxArr 12 2) [.tm 24,.tm 22],Zs 2 25 23])) (.region [Zm 20 12,Zp 21 20 1,Zm 12 21])))))) (.seq (ZR [Zi 13 0] (.block 2 (.loop (.seq (ZR [Zm 26 13,Zm 27 4,Zl 28 27,Zr 29 .lss 26 28] (ZC 29 .skip (.exit 2))) (.seq (.block 3 (.region [Zm 32 4,Zm 33 13,Zx 34 1 32 33,Zf 35 1 34,Zm 36 3,u1 37 (.build Z2 [(0,1),(1,1)]) [.cn (.int .i64 1),.tm 36],Za 38 3 11,u1 39 (.idxArr 12 2) [.tm 38,.tm 35],Zs 2 39 37])) (.region [Zm 30 13,Zp 31 30 1,Zm 13 31])))))) (ZR [Zt 40 27 11,Zs 27 10 40] .ret)))))⟩
theorem Yqw:Yn Yb Tryz.f78=some v78:=by kernel_rfl
def v44:VF:=⟨40,[.cell 2 true 27,.tmp 3],(ZR [u1 2 (.alloc Z27) [],Zi 3 0] (.seq (ZR [Zm 4 0] (.block 0 (ZR [u1 6 (.eqStr false) [.tm 4,.cn (.val (.string ⟨#[101,113,117,97,108]⟩))],Zm 5 6] (ZC 5 (ZR [Zm 7 0,u1 8 (.buildSlice 1 11 [(.int .i64 0)] [(0,1),(1,1),(2,1),(3,1),(4,1),(5,1),(6,1),(7,1),(8,1),(9,1),(10,1)]) [.cn (.int .i64 0),.cn (.int .i64 1),.cn (.int .i64 2),.cn (.int .i64 3),.cn (.int .i64 4),.cn (.int .i64 5),.cn (.int .i64 6),.cn (.int .i64 7),.cn (.int .i64 8),.cn (.int .i64 9),.cn (.int .i64 10)],u1 9 (.call 78) [.tm 7,.cn (.bool false),.cn (.int .i64 11),.cn (.int .i64 12),.tm 8],Zs 27 2 9,Zi 3 0] .ret) (ZR [u1 11 (.eqStr false) [.tm 4,.cn (.val (.string ⟨#[112,121,116,104,97,103,111,114,101,97,110]⟩))],Zm 10 11] (ZC 10 (ZR [Zm 12 0,u1 13 (.call 78) [.tm 12,.cn (.bool false),.cn (.int .i64 8),.cn (.int .i64 1),.cn .nil],Zs 27 2 13,Zi 3 0] .ret) (ZR [u1 15 (.eqStr false) [.tm 4,.cn (.val (.string ⟨#[109,101,97,110,116,111,110,101]⟩))],Zm 14 15] (ZC 14 (ZR [Zm 16 0,u1 17 (.buildSlice 1 11 [(.int .i64 0)] [(0,1),(1,1),(2,1),(3,1),(4,1),(5,1),(6,1),(7,1),(8,1),(9,1),(10,1)]) [.cn (.int .i64 0),.cn (.int .i64 1),.cn (.int .i64 2),.cn (.int .i64 3),.cn (.int .i64 4),.cn (.int .i64 5),.cn (.int .i64 6),.cn (.int .i64 7),.cn (.int .i64 9),.cn (.int .i64 10),.cn (.int .i64 11)],u1 18 (.call 78) [.tm 16,.cn (.bool true),.cn (.int .i64 8),.cn (.int .i64 4),.tm 17],Zs 27 2 18,Zi 3 0] .ret) (ZR [u1 20 (.eqStr false) [.tm 4,.cn (.val (.string ⟨#[119,101,114,99,107,109,101,105,115,116,101,114]⟩))],Zm 19 20] (ZC 19 (ZR [Zm 21 0,u1 22 (.buildSlice 1 4 [(.int .i64 0)] [(0,1),(1,1),(2,1),(3,1)]) [.cn (.int .i64 0),.cn (.int .i64 1),.cn (.int .i64 2),.cn (.int .i64 5)],u1 23 (.call 78) [.tm 21,.cn (.bool false),.cn (.int .i64 11),.cn (.int .i64 4),.tm 22],Zs 27 2 23,Zi 3 0] .ret) (ZR [u1 25 (.eqStr false) [.tm 4,.cn (.val (.string ⟨#[107,105,114,110,98,101,114,103,101,114]⟩))],Zm 24 25] (ZC 24 (ZR [Zm 26 0,u1 27 (.buildSlice 1 4 [(.int .i64 0)] [(0,1),(1,1),(2,1),(3,1)]) [.cn (.int .i64 0),.cn (.int .i64 1),.cn (.int .i64 2),.cn (.int .i64 3)],u1 28 (.call 78) [.tm 26,.cn (.bool true),.cn (.int .i64 6),.cn (.int .i64 4),.tm 27],Zs 27 2 28,Zi 3 0] .ret) (ZR [u1 30 (.eqStr false) [.tm 4,.cn (.val (.string ⟨#[118,97,108,108,111,116,116,105]⟩))],Zm 29 30] (ZC 29 (ZR [Zm 31 0,u1 32 (.buildSlice 1 6 [(.int .i64 0)] [(0,1),(1,1),(2,1),(3,1),(4,1),(5,1)]) [.cn (.int .i64 0),.cn (.int .i64 1),.cn (.int .i64 2),.cn (.int .i64 3),.cn (.int .i64 4),.cn (.int .i64 11)],u1 33 (.call 78) [.tm 31,.cn (.bool false),.cn (.int .i64 6),.cn (.int .i64 6),.tm 32],Zs 27 2 33,Zi 3 0] .ret) (ZR [u1 35 (.eqStr false) [.tm 4,.cn (.val (.string ⟨#[121,111,117,110,103]⟩))],Zm 34 35] (ZC 34 (ZR [Zm 36 0,u1 37 (.buildSlice 1 6 [(.int .i64 0)] [(0,1),(1,1),(2,1),(3,1),(4,1),(5,1)]) [.cn (.int .i64 0),.cn (.int .i64 1),.cn (.int .i64 2),.cn (.int .i64 3),.cn (.int .i64 4),.cn (.int .i64 5)],u1 38 (.call 78) [.tm 36,.cn (.bool false),.cn (.int .i64 11),.cn (.int .i64 6),.tm 37],Zs 27 2 38,Zi 3 0] .ret) .skip)))))))))))))))) (ZR [u1 39 (.build Z27 []) [],Zs 27 2 39,Zi 3 4] .ret)))⟩
theorem YpY:Yn Yb Tryz.f44=some v44:=by kernel_rfl
def v18:VF:=⟨11,[.cell 2 true 27],(ZR [u1 2 (.alloc Z27) []] (ZR [Zm 6 0,Zc 7 44 6,Zm 5 7,Ze 8 0 5,Ze 9 1 5,u1 3 (.alloc Z27) [],Zs 27 3 8,Zm 4 9] (ZR [Zt 10 27 3,Zs 27 2 10] .ret)))⟩
theorem YpF:Yn Yb Tryz.f18=some v18:=by kernel_rfl
def v17:VF:=⟨5,[.cell 2 true 3],(ZR [u1 2 (.alloc [(.int .i64 0),(.int .i64 0),(.int .i64 0)]) []] (ZR [Zm 3 0,u1 4 (.build [(.int .i64 0),(.int .i64 0),(.int .i64 0)] [(0,1),(1,1),(2,1)]) [.cn (.int .i64 440000),.cn (.int .i64 15000),.tm 3],Zs 3 2 4] .ret))⟩
theorem YpE:Yn Yb Tryz.f17=some v17:=by kernel_rfl
def AO(p:Nat->Int×Int)(i:Nat)(x:Int×Int):Nat->Int×Int:=fun k=>if k=i then x else p k
theorem TF(nm:ByteArray)(syn:Bool)(w:Int)(p:Nat->Int×Int){i:Nat}(h:i<12)(a b:Int):
 J6 (YZ ⟨nm,syn,w,p⟩) (3+Kw (i:Int) 2) [.int .i64 a,.int .i64 b]=YZ ⟨nm,syn,w,AO p i (a,b)⟩:=by
 rcases Uk h with rfl|rfl|rfl|rfl|rfl|rfl|rfl|rfl|rfl|rfl|rfl|rfl <;> rfl
theorem ID(i:Nat):Kw (i:Int) 2=i*2:=by simp [Kw]
def Bt:Nat->Nat->Int×Int
 |0=>fun _=>(0,0)
 |i+1=>AO (Bt i) i (0,1)
def Gw(den:Int)(l:List Int):Nat->Int×Int:=l.foldl (fun p x=>AO p x.toNat (1,den)) (Bt 12)
def madC:Ctr:={ alias:=false,of:=fun l=>match l with
 | [.val (.string nm),.bool syn,.int .i64 w,.int .i64 den,.vs _ _ n sz get]=> .ex (List Int) fun l=> .pre (lsP 1 UC n sz get l/\l.length<=100/\∀x,x∈l->0<=x/\x<=11) (.fin (.agg (YZ ⟨nm,syn,w,Gw den l⟩)) [])
 |_=>noC}
theorem R2{k:SV->List HO->Prop}{al:Bool}{hp:List HO}{T:Tm}(h:k (.agg (YZ T)) []):Jz al k (.agg (YZ T)) hp:=
 Kv h (JG (.agg (YZ T)) (KU T _)) (fun _=>by simp [Y3,Y5,YZ,XJ])
def TM0:Env:=mkE [] []
theorem RH:YD Yb TM0:=eo (by kernel_rfl) trivial trivial
theorem YjC:madC.ok Yb 78:=by
 refine Yy Tryz.func78 Yqw RH 600 madC fun args k h=>?_
 simp only[madC]at h
 split at h
 ·rename_i nm syn w den tt z n sz get
  obtain⟨l,⟨⟨rfl,rfl,hg⟩,hn,hl⟩,h⟩:=h
  refine⟨[.val (.string nm),.bool syn,.int .i64 w,.int .i64 den,.vs tt z l.length 1 (fun k=>UC (l.getD k default))],⟨⟨rfl,trivial⟩,rfl,⟨rfl,rfl⟩,⟨rfl,rfl⟩,⟨id,rfl,rfl,rfl,hg⟩,trivial⟩,?_⟩
  dsimp only[v78,UC,go_sem,reduceIte,Ya]
  simp only[Yd,Ya,Ye,reduceCtorEq,Yc]
  refine⟨rfl,rfl,?_⟩
  refine Loop.keep [3,0,5,0] Nat (fun i=>[(12,.int .i64 i)]) (fun i=>[(1,.box (YZ ⟨nm,syn,w,Bt i⟩))]) [] (fun i=>i<=12) (fun i=>12-i) ?_ ?_
  ·refine⟨0,by omega,?_⟩
   dsimp only[YZ,XJ,Bt,go_sem,reduceIte,Ya]
   simp only[Yf]
   repeat' apply YC
   all_goals first|exact trivial|decide|rfl|omega|exact(K7 (by omega)).symm|exact YN _ (KU _ _) |simp
  ·rintro i hi
   dsimp only[Yj,go_sem,reduceIte,Ya]
   simp only[Yd,Ya,Ye,reduceCtorEq,Yc]
   refine⟨fun hlt=>?_,fun hge=>?_⟩
   ·have hi12:i<12:=by omega
    rw[TF _ _ _ _ hi12,Yg ((i:Int)+1) (by omega)]
    refine⟨⟨by omega,by omega⟩,by rw[ID,J4];omega,i+1,by omega,by omega,?_⟩
    simp only[Yf]
    refine⟨⟨by decide,by decide,by simp⟩,YN _ (KU _ _)⟩
   ·obtain rfl:i=12:=by omega
    refine Loop.keep [3,0,5,0] Nat (fun i=>[(13,.int .i64 i)]) (fun i=>[(1,.box (YZ ⟨nm,syn,w,Gw den (l.take i)⟩))]) [] (fun i=>i<=l.length) (fun i=>l.length-i) ?_ ?_
    ·refine⟨0,by omega,?_⟩
     dsimp only[go_sem,reduceIte,Ya]
     simp only[Yf]
     refine⟨⟨by decide,by decide,rfl⟩,YN _ (KU _ _)⟩
    ·rintro i hi
     dsimp only[Yj,go_sem,reduceIte,Ya]
     simp only[Yd,Ya,Ye,reduceCtorEq,Yc]
     refine⟨fun hlt=>?_,fun hge=>?_⟩
     ·have hil:i<l.length:=by omega
      have hx:=hl _ (KZ hil)
      obtain⟨m,hm⟩:∃m:Nat,l.getD i default=(m:Int):=⟨(l.getD i default).toNat,by omega⟩
      have hm12:m<12:=by omega
      rw[hm,TF _ _ _ _ hm12,FR hil (by omega)]
      have hS:Gw den (l.take (i+1))=AO (Gw den (l.take i)) m (1,den):=by
       rw[Gw,Vm hil,hm,Yj];rfl
      refine⟨⟨by omega,by omega⟩,⟨by omega,by omega⟩,by rw[ID,J4];omega,i+1,by omega,by omega,?_⟩
      rw[hS]
      simp only[Yf]
      refine⟨⟨by decide,by decide⟩,YN _ (KU _ _)⟩
     ·obtain rfl:i=l.length:=by omega
      rw[Xt]
      exact⟨Yt 27,⟨rfl,QT _⟩,Yt 27,R2 (T:=⟨nm,syn,w,Gw den l⟩) h⟩
 ·exact h.1.elim
theorem A0{a b:ByteArray}:(a.toList==b.toList)=decide (a.data.toList=b.data.toList):=by
 rw[ByteArray.toList_eq,ByteArray.toList_eq]
 by_cases h:a.data.toList=b.data.toList
 ·rw[decide_eq_true h,beq_iff_eq];exact h
 ·rw[decide_eq_false h,beq_eq_false_iff_ne];exact h
def EQ:Tm:=⟨⟨#[101,113,117,97,108]⟩,false,11,Gw 12 [0,1,2,3,4,5,6,7,8,9,10]⟩
def MT:Tm:=⟨⟨#[109,101,97,110,116,111,110,101]⟩,true,8,Gw 4 [0,1,2,3,4,5,6,7,9,10,11]⟩
def nmdC:Ctr:={ alias:=false,of:=fun l=>match l with
 | [.val (.string b)]=> .ex Bool fun m=> .pre (b=if m then MT.nm else EQ.nm) (.fin (.agg (YZ (if m then MT else EQ))) [])
 |_=>noC}
def stdC:Ctr:={ alias:=false,of:=fun l=>match l with
 | [.val (.string b)]=> .ex Bool fun m=> .pre (b=if m then MT.nm else EQ.nm) (.fin (.tup [.agg (YZ (if m then MT else EQ)),.int .i64 0]) [])
 |_=>noC}
theorem R3{k:SV->List HO->Prop}{al:Bool}{hp:List HO}{T:Tm}{e:Int}(h:k (.tup [.agg (YZ T),.int .i64 e]) []):Jz al k (.tup [.agg (YZ T),.int .i64 e]) hp:=
 Kv h (JG (.tup [.agg (YZ T),.int .i64 e]) ⟨KU T _,trivial,trivial⟩) (fun _=>by simp [Y3,Y5,YZ,XJ])
theorem TA{k:Nat}(h:k<11):k=0\/k=1\/k=2\/k=3\/k=4\/k=5\/k=6\/k=7\/k=8\/k=9\/k=10:=by omega
def TM1:Env:=mkE [(78,madC)] []
theorem YeE:YD Yb TM1:=eo (by kernel_rfl) ⟨⟨YjC,_,Tryz.func78,rfl,rfl⟩,trivial⟩ trivial
theorem Yof:stdC.ok Yb 44:=by
 refine Yy Tryz.func44 YpY YeE 600 stdC fun args k h=>?_
 simp only[stdC]at h
 split at h
 ·rename_i b
  obtain⟨m,hb,h⟩:=h
  have h:k (.tup [.agg (YZ (if m then MT else EQ)),.int .i64 0]) []:=h
  refine⟨[.val (.string b)],⟨⟨rfl,trivial⟩,trivial⟩,?_⟩
  subst hb
  dsimp only[v44,TM1,Yk,madC,go_sem,reduceIte,Ya]
  simp only[Yd,Ya,Ye,reduceCtorEq,Yc]
  cases m
  ·refine⟨fun _=>⟨by decide,[0,1,2,3,4,5,6,7,8,9,10],⟨⟨rfl,rfl,fun j hj=>?_⟩,by decide,by decide⟩,⟨rfl,QT _⟩,Yt 27,R3 (T:=EQ) h⟩,fun hf=>?_⟩
   ·rcases TA hj with rfl|rfl|rfl|rfl|rfl|rfl|rfl|rfl|rfl|rfl|rfl <;> exact YW _
   ·exact absurd hf (by rw[A0];decide)
  ·refine⟨fun hf=>?_,fun _=>⟨fun hf=>?_,fun _=>⟨fun _=>⟨by decide,[0,1,2,3,4,5,6,7,9,10,11],⟨⟨rfl,rfl,fun j hj=>?_⟩,by decide,by decide⟩,⟨rfl,QT _⟩,Yt 27,R3 (T:=MT) h⟩,fun hf=>?_⟩⟩⟩
   ·exact absurd hf (by rw[A0];decide)
   ·exact absurd hf (by rw[A0];decide)
   ·rcases TA hj with rfl|rfl|rfl|rfl|rfl|rfl|rfl|rfl|rfl|rfl|rfl <;> exact YW _
   ·exact absurd hf (by rw[A0];decide)
 ·exact h.1.elim
theorem Ye6{k:SV->List HO->Prop}{al:Bool}{hp:List HO}{x y z:Int}(h:k (.agg [.int .i64 x,.int .i64 y,.int .i64 z]) []):Jz al k (.agg [.int .i64 x,.int .i64 y,.int .i64 z]) hp:=
 Kv h (JG (.agg [.int .i64 x,.int .i64 y,.int .i64 z]) ⟨trivial,trivial,trivial,trivial⟩) (fun _=>by simp [Y3,Y5])
def usu6C:Ctr:={ alias:=false,of:=fun l=>match l with
 | [.int .i64 t]=> .fin (.agg [.int .i64 440000,.int .i64 15000,.int .i64 t]) []
 |_=>noC}
theorem YoL:usu6C.ok Yb 17:=by
 refine Yy Tryz.func17 YpE RH 600 usu6C fun args k h=>?_
 simp only[usu6C]at h
 split at h
 ·rename_i t
  refine⟨[.int .i64 t],by simp [leL,le],?_⟩
  dsimp only[v17,go_sem,reduceIte,Ya]
  simp only[Yd,Ya,Ye,reduceCtorEq,Yc]
  exact Ye6 h
 ·exact h.1.elim
def TM2:Env:=mkE [(44,stdC)] []
theorem YeF:YD Yb TM2:=eo (by kernel_rfl) ⟨⟨Yof,_,Tryz.func44,rfl,rfl⟩,trivial⟩ trivial
theorem Ykj:nmdC.ok Yb 18:=by
 refine Yy Tryz.func18 YpF YeF 600 nmdC fun args k h=>?_
 simp only[nmdC]at h
 split at h
 ·rename_i b
  obtain⟨m,hb,h⟩:=h
  have h:k (.agg (YZ (if m then MT else EQ))) []:=h
  refine⟨[.val (.string b)],⟨⟨rfl,trivial⟩,trivial⟩,?_⟩
  dsimp only[v18,TM2,Yk,stdC,go_sem,reduceIte,Ya]
  simp only[Yd,Ya,Ye,reduceCtorEq,Yc]
  exact⟨m,hb,by decide,by decide,⟨rfl,QT _⟩,Yt 27,⟨rfl,QT _⟩,Yt 27,R2 h⟩
 ·exact h.1.elim
def v15:VF:=⟨15,[.cell 6 true 2,.tmp 7],(ZR [u1 3 .box [.tm 0],u1 4 .box [.tm 1],u1 5 .box [.tm 2],u1 6 (.alloc Z2) [],Zi 7 0] (ZR [Zt 8 3 3,Zt 9 27 4,Zf 10 1 5,u1 11 (.mkfn (.func 42) 0) [.tm 5,.tm 3],u1 12 (.call 41) [.tm 8,.tm 9,.tm 10,.tm 11],Ze 13 0 12,Ze 14 1 12,Zs 2 6 13,Zm 7 14] .ret))⟩
theorem YpD:Yn Yb Tryz.f15=some v15:=by kernel_rfl
def v42:VF:=⟨10,[.cell 4 true 2],(ZR [u1 4 (.alloc Z2) []] (ZR [Zm 5 0,Zf 6 1 1,Za 7 0 2,Zf 8 1 7,u1 9 (.call 21) [.tm 5,.tm 6,.tm 8],Zs 2 4 9] .ret))⟩
theorem YpW:Yn Yb Tryz.f42=some v42:=by kernel_rfl
def v10:VF:=⟨26,[.tmp 2,.tmp 3],(ZR [u1 1 .box [.tm 0],Zi 2 0,Zi 3 0] (.seq (ZR [Zt 8 3 1,Zc 9 30 8,Zm 4 9] (ZR [Zm 10 4,Zq 11 .neq 10 0] (ZC 11 (ZR [Zm 12 4,Zi 2 0,Zm 3 12] .ret) .skip))) (.seq (.draw [] [Zy 14 2 1,Zv 15 1 14,Zy 17 1 1,Zv 18 1 17,w1 16 (.call 26) [.tm 15,.cn (.int .i64 1)],w1 19 (.call 26) [.tm 18,.cn (.int .i64 (-1))],w1 20 (.buildSlice 2 2 Z2 [(0,2),(2,2)]) [.tm 16,.tm 19],w1 21 (.call 31) [.tm 20,.cn (.int .i64 1),.cn (.int .i64 600000)],Zu 13 21,ZE 22 0 13,ZE 23 1 13,ZE 24 2 13,Zu 5 22,Zu 6 23,Zu 7 24]) (ZR [Zm 25 5,Zm 2 25,Zi 3 0] .ret))))⟩
theorem YcG:Yn Yb Tryz.f10=some v10:=by kernel_rfl
def frq6C:Ctr:={ alias:=false,of:=fun l=>match l with
 | [.agg [.int .i64 a,.int .i64 t0,.int .i64 t],.agg cs,.int .i64 note]=> .ex Tm fun T=> .pre (cs=YZ T/\T.nm.size<=9223372036854775807/\J0 a t0 t=0/\Ke T=0/\0<=note/\note<=139) (.fin (.tup [.agg [.int .i64 (X0 (YR T) t0 t note a).1,.int .i64 (X0 (YR T) t0 t note a).2],.int .i64 0]) [])
 |_=>noC}
def TW1:Env:=mkE [(21,freqC),(30,chkSC),(45,NotC)] [(41,v41),(19,v19),(20,v20),(42,v42)]
theorem YeI:YD Yb TW1:=eo (by kernel_rfl) ⟨⟨T4,_,Tryz.func21,rfl,rfl⟩,⟨C9,_,Tryz.func30,rfl,rfl⟩,⟨Rz,_,Tryz.func45,rfl,rfl⟩,trivial⟩ ⟨⟨_,Tryz.func41,YpV,_,Tryz.func41,rfl,rfl⟩,⟨_,Tryz.func19,Ydl,_,Tryz.func19,rfl,rfl⟩,⟨_,Tryz.func20,Ydm,_,Tryz.func20,rfl,rfl⟩,⟨_,Tryz.func42,YpW,_,Tryz.func42,rfl,rfl⟩,trivial⟩
theorem Yhe:frq6C.ok Yb 15:=by
 refine Yy Tryz.func15 YpD YeI 900 frq6C fun args k h=>?_
 simp only[frq6C]at h
 split at h
 ·rename_i a t0 t cs note
  obtain⟨T,⟨rfl,hnm,hS,hT,hn0,hn1⟩,h⟩:=h
  refine⟨[.agg [.int .i64 a,.int .i64 t0,.int .i64 t],.agg (YZ T),.int .i64 note],⟨⟨⟨rfl,rfl⟩,⟨rfl,rfl⟩,⟨rfl,rfl⟩,trivial⟩,YN _ (KU T _),⟨rfl,rfl⟩,trivial⟩,?_⟩
  dsimp only[v15,QA,J4,TW1,Yk,freqC,chkSC,NotC,v41,v19,v20,v42,go_sem,reduceIte,Ya]
  simp only[Yd,Ya,Ye,reduceCtorEq,Yc]
  refine⟨QT T,QT T,QT T,fun hs=>absurd hS hs,fun hs=>⟨T,⟨rfl,hnm⟩,?_⟩⟩
  rw[if_neg (fun hh=>hh hT)]
  dsimp only[QA,J4,TW1,Yk,freqC,chkSC,NotC,v41,v19,v20,v42,go_sem,reduceIte,Ya]
  simp only[Yd,Ya,Ye,reduceCtorEq,Yc]
  obtain⟨ha,hb0,hb1⟩:=WO hS
  refine⟨by decide,by decide,fun hh=>absurd trivial hh,by decide,by decide,fun hh=>absurd trivial hh,fun hc=>?_,fun hc=>⟨YR T,⟨fun q _=>YW _,⟨hn0,hn1⟩,hb0,hb1⟩,by decide,by decide,?_⟩⟩
  ·simp only[Wn,decide_eq_false_iff_not]at hc;omega
  ·exact HL (show k _ []from h)
 ·exact h.1.elim
def XZ(t0 t:Int):Int:=(JE [(273150+t,1),(273150+t0, -1)] 1 600000).1
def drfC:Ctr:={ alias:=false,of:=fun l=>match l with
 | [.agg [.int .i64 a,.int .i64 t0,.int .i64 t]]=> .pre (J0 a t0 t=0) (.fin (.tup [.int .i64 (XZ t0 t),.int .i64 0]) [])
 |_=>noC}
def TW2:Env:=mkE [(30,chkSC),(26,warmC),(31,flrC)] []
theorem RJ:YD Yb TW2:=eo (by kernel_rfl) ⟨⟨C9,_,Tryz.func30,rfl,rfl⟩,⟨Ydx,_,Tryz.func26,rfl,rfl⟩,⟨TX,_,Tryz.func31,rfl,rfl⟩,trivial⟩ trivial
theorem Ygx:drfC.ok Yb 10:=by
 refine Yy Tryz.func10 YcG RJ 600 drfC fun args k h=>?_
 simp only[drfC]at h
 split at h
 ·rename_i a t0 t
  obtain⟨hS,h⟩:=h
  have h:k (.tup [.int .i64 (XZ t0 t),.int .i64 0]) []:=h
  refine⟨[.agg [.int .i64 a,.int .i64 t0,.int .i64 t]],by simp [leL,le],?_⟩
  dsimp only[v10,TW2,Yk,chkSC,warmC,flrC,go_sem,reduceIte,Ya]
  simp only[Yd,Ya,Ye,reduceCtorEq,Yc]
  obtain⟨ha,hb0,hb1⟩:=WO hS
  refine⟨fun hh=>absurd hS hh,fun _=>⟨hb1,hb0,by decide,[(273150+t,1),(273150+t0, -1)],⟨rfl,rfl,fun q hq=>?_⟩,by decide,by decide,by decide,WL h⟩⟩
  rcases(show q=0\/q=1 by omega)with rfl|rfl <;> exact YW _
 ·exact h.1.elim
def W2:Nat:=KB
theorem lo_2:loN 2=W2/\hiN 2=W2:=by
 have e:lgK 2=1:=by
  obtain⟨a,b⟩:=MS (n:=2) (by decide)
  have key:∀{x y:Nat},2^x<2^y->x<y:=fun h=>(Nat.pow_lt_pow_iff_right (by decide)).1 h
  have h1:2^lgK 2<2^2:=by omega
  have h2:2^1<2^(lgK 2+1):=by omega
  have:=key h1
  have:=key h2
  omega
 unfold loN hiN lN W2 KB
 rw[if_pos E5,e]
 simp only[Y2,and_self]
theorem Mg:∀l:List (Int×Int),upP (l.map Wb)=upP l^2/\dnP (l.map Wb)=dnP l^2
 | []=>by simp [upP,dnP]
 |x::l=>by
  obtain⟨h1,h2⟩:=Mg l
  rw[KH,upP,dnP,upP,dnP,h1,h2,Yq,Yq]
  unfold Wb
  by_cases c:x.2<0
  ·have c2:x.2*2<0:=by omega
   simp only[if_pos c,if_pos c2,Nat.one_pow]
   rw[show(-(x.2*2)).toNat=(-x.2).toNat*2 by omega,Ym]
   exact⟨trivial,rfl⟩
  ·have c2:¬x.2*2<0:=by omega
   simp only[if_neg c,if_neg c2,Nat.one_pow]
   rw[show(x.2*2).toNat=x.2.toNat*2 by omega,Ym]
   exact⟨rfl,trivial⟩
theorem Hd(w:Nat->Nat):∀l:List (Int×Int),upS w (l.map Wb)=2*upS w l/\dnS w (l.map Wb)=2*dnS w l
 | []=>by simp [upS,dnS]
 |x::l=>by
  obtain⟨h1,h2⟩:=Hd w l
  rw[KH,upS,dnS,upS,dnS,h1,h2]
  unfold Wb
  by_cases c:x.2<0
  ·have c2:x.2*2<0:=by omega
   simp only[if_pos c,if_pos c2]
   rw[show(-(x.2*2)).toNat=2*(-x.2).toNat by omega,Jd]
   omega
  ·have c2:¬x.2*2<0:=by omega
   simp only[if_neg c,if_neg c2]
   rw[show(x.2*2).toNat=2*x.2.toNat by omega,Jd]
   omega
def Kn(r:Rt)(n:Nat)(o t t0:Int):List (Int×Int):=(Yu r).map Wb++[(2,2*(n:Int)*o),(273150+t,(n:Int)),(273150+t0, -(n:Int))]
structure NR (r:Rt) (n:Nat):Prop where
 hn:r.n=n
 rng:1<=n/\n<=1000
 rep:∃L a b c,Rep L r a b c
 u:UP r.a r.b r.c^8<=UP (-r.a) (-r.b) (-r.c)^8*2^(9*n)
 d:UP (-r.a) (-r.b) (-r.c)^8<=UP r.a r.b r.c^8*2^(9*n)
theorem Ykp{T:Tm}(h:Ke T=0){note:Int}(hn:0<=note):∃(r:Rt) (n:Nat),JW (YR T) note=r/\NR r n:=by
 obtain⟨r,n,h1,h2,h3,h4,h5,h6⟩:=Ykn h hn
 exact⟨r,n,h1,⟨h2,h3,h4,h5,h6⟩⟩
theorem NR.ok{r:Rt}{n:Nat}(h:NR r n):Y4 r=0:=by
 obtain⟨_,_,_,_,hr⟩:=h.rep
 exact hr.ok
theorem Yox{T:Tm}{r:Rt}{n:Nat}{t t0 note:Int}(hr:JW (YR T) note=r)(h:NR r n):ZW (YR T) t0 t note=(Kn r n (note/12-5) t t0,2*(n:Int)):=by
 unfold ZW Kn FM HA
 rw[hr,if_pos h.ok,if_pos h.ok,h.hn]
theorem Fe{r:Rt}{n:Nat}{o t t0:Int}(h:NR r n)(ht:KG t=true)(ht0:KG t0=true):
 upP (Kn r n o t t0)=UP r.a r.b r.c^2*(UP (2*(n:Int)*o) 0 0*(273150+t).toNat^n)/\dnP (Kn r n o t t0)=UP (-r.a) (-r.b) (-r.c)^2*(UP (-(2*(n:Int)*o)) 0 0*(273150+t0).toNat^n):=by
 obtain⟨_,_,_,_,hr⟩:=h.rep
 obtain⟨tu,td⟩:=NN hr
 have hn:=h.rng
 unfold Kn
 rw[(Xp _ _).1,(Xp _ _).2,(Mg _).1,(Mg _).2,tu,td]
 have h1:¬((n:Int)<0):=by omega
 have h2: -(n:Int)<0:=by omega
 have e:upP [(2,2*(n:Int)*o),(273150+t,(n:Int)),(273150+t0, -(n:Int))]=UP (2*(n:Int)*o) 0 0*(273150+t).toNat^n/\dnP [(2,2*(n:Int)*o),(273150+t,(n:Int)),(273150+t0, -(n:Int))]=UP (-(2*(n:Int)*o)) 0 0*(273150+t0).toNat^n:=by
  have a:=UT [] (2*(n:Int)*o)
  simp only[VP,upP,dnP,if_neg h1,if_pos h2,Yj,Jx,Y0,Y2]at a⊢
  rw[a.1,a.2]
  exact⟨rfl,rfl⟩
 rw[e.1,e.2]
 exact⟨rfl,rfl⟩
theorem BU{r:Rt}{n:Nat}{o t t0:Int}(h:NR r n)(ht:KG t=true)(ht0:KG t0=true)(ho: -5<=o/\o<=6):(∀x,x∈Kn r n o t t0->okU x/\x.1<=1000000/\ -1000000<=x.2/\x.2<=1000000)/\(Kn r n o t t0).length<=9:=by
 have ht:=QL ht
 have ht0:=QL ht0
 have hn:=h.rng
 have hlen:=Uj r
 constructor
 ·intro x hx
  unfold Kn at hx
  rw[Ky,QM]at hx
  rcases hx with⟨y,hy,rfl⟩ |hx
  ·have:=P1 h.ok y hy
   unfold okU Wb;simp only;omega
  ·have hm:=Jv (x:=2*(n:Int)) (y:=o) (X:=2000) (Y:=6) (by omega) (by omega)
   simp only[Kz,Z3,or_false]at hx
   unfold okU
   rcases hx with rfl|rfl|rfl <;> simp only <;> omega
 ·unfold Kn
  rw[JO,VN]
  simp only[XS,Z1]
  omega
theorem Ec{l:List (Int×Int)}(h:∀x,x∈l->okU x/\x.1<=1000000/\ -1000000<=x.2/\x.2<=1000000)(hn:l.length<=16):QG l=0:=by
 unfold QG
 rw[if_neg (by omega),if_neg]
 rw[List.any_eq_true]
 rintro⟨x,hx,ho⟩
 obtain⟨h1,h2,h3,h4⟩:=h x hx
 have:=h1.1
 simp only[JB,Qj,decide_eq_true_eq]at ho
 omega
theorem FQ{n:Nat}(h:n<2^29\/n=331300000000):wP n<=2^52:=by
 unfold wP
 split
 ·decide
 ·split
  ·decide
  ·exact Yt _
theorem Yjz{r:Rt}{n:Nat}{o t t0:Int}(h:NR r n)(ht:KG t=true)(ht0:KG t0=true):upS wP (Kn r n o t t0)+dnS wP (Kn r n o t t0)<=400000+n*2^53:=by
 obtain⟨_,_,_,_,hr⟩:=h.rep
 have tw:=Ydz hr
 have ht:=QL ht
 have ht0:=QL ht0
 unfold Kn
 rw[(JN wP _ _).1,(JN wP _ _).2,(Hd wP _).1,(Hd wP _).2]
 have h1:¬((n:Int)<0):=by omega
 have w1:=FQ (n:=(273150+t).toNat) (KD (by omega))
 have w2:=FQ (n:=(273150+t0).toNat) (KD (by omega))
 have m1:=Yp n w1
 have m2:=Yp n w2
 have e:upS wP [(2,2*(n:Int)*o),(273150+t,(n:Int)),(273150+t0, -(n:Int))]+dnS wP [(2,2*(n:Int)*o),(273150+t,(n:Int)),(273150+t0, -(n:Int))]<=wP (273150+t).toNat*n+wP (273150+t0).toNat*n:=by
  have z:wP (2:Int).toNat=0:=rfl
  simp only[upS,dnS,if_neg h1,z,JP,ite_self,Yj,Jx]
  split
  ·omega
  ·rename_i h2
   have:n=0:=by omega
   subst this
   simp
 omega
theorem N6{n:Nat}{o:Int}(h:o<=6):UP (2*(n:Int)*o) 0 0<=UP (-(2*(n:Int)*o)) 0 0*64^(2*n):=by
 have hm:(2*(n:Int))*o<=2*(n:Int)*6:=Int.mul_le_mul_of_nonneg_left h (by omega)
 unfold UP
 simp only[Int.toNat_zero,Jk,Y0]
 rw[show(64:Nat)=2^6 from rfl,<-Ym,<-Yo]
 exact Kp (by decide) (by omega)
theorem YeR{n:Nat}{o:Int}(h: -5<=o):UP (-(2*(n:Int)*o)) 0 0<=UP (2*(n:Int)*o) 0 0*32^(2*n):=by
 have hm:2*(n:Int)*(-5)<=2*(n:Int)*o:=Int.mul_le_mul_of_nonneg_left h (by omega)
 unfold UP
 simp only[Int.toNat_zero,Jk,Y0]
 rw[show(32:Nat)=2^5 from rfl,<-Ym,<-Yo]
 exact Kp (by decide) (by omega)
theorem Nx{U V E F n c x y s B:Nat}(hn:1<=n)(hV:0<V)(hF:0<F)(h1:U^8<=V^8*2^(9*n))(h2:E<=F*c^(2*n))(h:2^9*c^8*x^4*s^8<y^4*B^8):
 U^2*(E*x^n)*s^(2*n)<V^2*(F*y^n)*B^(2*n):=by
 refine(Nat.pow_lt_pow_iff_left (show 4≠0 by decide)).1 ?_
 have e1:(U^2*(E*x^n)*s^(2*n))^4=U^8*E^4*((x^4*s^8)^n):=by
  simp only[Yq,<-Ym]
  rw[show 2*4=8 from rfl,Yl n 4,show 2*n*4=8*n by omega]
  simp only[YA]
 have e2:(V^2*(F*y^n)*B^(2*n))^4=V^8*F^4*((y^4*B^8)^n):=by
  simp only[Yq,<-Ym]
  rw[show 2*4=8 from rfl,Yl n 4,show 2*n*4=8*n by omega]
  simp only[YA]
 rw[e1,e2]
 have h3:=YG h2 4
 rw[Yq,<-Ym]at h3
 have h4:=Yp ((x^4*s^8)^n) (YX h1 h3)
 refine JC h4 ?_
 have e3:V^8*2^(9*n)*(F^4*c^(2*n*4))*(x^4*s^8)^n=V^8*F^4*(2^9*c^8*x^4*s^8)^n:=by
  rw[Ym 2 9,show 2*n*4=8*n by omega,Ym c 8,YA (2^9*c^8),Yq (2^9*c^8),Yq (2^9)]
  generalize(2^9)^n=p at*
  generalize(c^8)^n=q at*
  generalize(x^4*s^8)^n=z at*
  generalize V^8=v at*
  generalize F^4=f at*
  grind
 rw[e3]
 refine Nat.mul_lt_mul_of_pos_left ?_ (Y1 (YB hV) (YB hF))
 exact Nat.pow_lt_pow_left h (by omega)
def Ui(k:Nat)(ex:Bool):Int×Int:=if ex=true then((k:Int),(k:Int))else((k:Int),(k:Int)+1)
theorem YaI{s:Int}{l:List (Int×Int)}{den:Int}{k:Nat}(h:(X3 s l den).1=(k:Int))(hk:k<2^29):GI s l den=Ui k (X3 s l den).2.1:=by
 unfold GI Ui
 rw[h]
 split
 ·rfl
 ·rw[Yg ((k:Int)+1) (by omega)]
theorem Xn{t:Int}(h:KG t=true):253150<=(273150+t).toNat/\(273150+t).toNat<=323150:=by
 have:=QL h
 omega
theorem B7{x y a:Nat}(hx:x<=323150)(hy:253150<=y)(ha:a<=1000000):2^9*64^8*x^4*a^8<y^4*160000000^8:=by
 have h1:=YG hx 4
 have h2:=YG hy 4
 have h3:=YG ha 8
 exact JC (YX (Yz _ h1) h3) (Qt (show 2^9*64^8*323150^4*1000000^8<253150^4*160000000^8 by decide+kernel) (Yp _ h2))
theorem Yhh{a t0 t note:Int}{T:Tm}{r:Rt}{n:Nat}(hS:J0 a t0 t=0)(hn:0<=note/\note<=139)(hr:JW (YR T) note=r)(h:NR r n):
 ∃k ex,X0 (YR T) t0 t note a=Ui k ex/\PowR (Kn r n (note/12-5) t t0) a.toNat (2*n) 160000000 k ex:=by
 obtain⟨ha,h0,h1⟩:=WO hS
 have ho: -5<=note/12-5/\note/12-5<=6:=by omega
 obtain⟨l1,l2⟩:=BU h h1 h0 ho
 obtain⟨p1,p2⟩:=Fe (o:=note/12-5) h h1 h0
 have hs:=Yjz (o:=note/12-5) h h1 h0
 have hrn:=h.rng
 have t1:=Xn h1
 have t2:=Xn h0
 have posV:=KE (-r.a) (-r.b) (-r.c)
 have posF:=KE (-(2*(n:Int)*(note/12-5))) 0 0
 have hw:GV (Kn r n (note/12-5) t t0) a.toNat (2*n):=by
  have w:=Yp (2*n) (FQ (n:=a.toNat) (KD (by omega)))
  unfold GV
  omega
 have hY:0<dnP (Kn r n (note/12-5) t t0):=by
  rw[p2]
  exact Y1 (YB posV) (Y1 posF (YB (by omega)))
 have hB:upP (Kn r n (note/12-5) t t0)*a.toNat^(2*n)<dnP (Kn r n (note/12-5) t t0)*160000000^(2*n):=by
  rw[p1,p2]
  exact Nx hrn.1 posV posF h.u (N6 ho.2) (B7 t1.2 t2.1 (by omega))
 obtain⟨k,hk,hp⟩:=Yas (s:=a.toNat) (den:=2*n) (B:=160000000) (Ec l1 (by omega)) (fun x hx=>(l1 x hx).1) (by omega) (by omega) hw hY hB (by decide)
 have ea:((a.toNat:Nat):Int)=a:=K7 (by omega)
 rw[ea]at hk hp
 refine⟨k,_,?_,hp⟩
 unfold X0
 rw[Yox hr h]
 have e2:2*(n:Int)=((2*n:Nat):Int):=by omega
 simp only
 rw[e2]
 exact YaI hk (Nat.lt_of_succ_lt hp.lt)
structure Com (p1 p2 p3:Int):Prop where
 tab:LB.Tab (UP p1 p2 p3) (UP (-p1) (-p2) (-p3))
 g1:UP p1 p2 p3^44<=2*UP (-p1) (-p2) (-p3)^44
 g2:UP (-p1) (-p2) (-p3)^44<=2*UP p1 p2 p3^44
theorem Com.neg{p1 p2 p3:Int}(h:Com p1 p2 p3):Com (-p1) (-p2) (-p3):=by
 obtain⟨a,b,c⟩:=h
 refine⟨?_,?_,?_⟩ <;> rw[Jx,Jx,Jx]
 ·exact a.symm
 ·exact c
 ·exact b
theorem Yf7:Com (-4) 4 (-1):=by
 have e1:UP (-4) 4 (-1)=81:=rfl
 have e2:UP (- -4) (-4) (- -1)=80:=rfl
 refine⟨?_,?_,?_⟩ <;> rw[e1,e2]
 ·exact LB.tabS
 ·decide+kernel
 ·decide+kernel
theorem Yf6:Com (-19) 12 0:=by
 have e1:UP (-19) 12 0=531441:=rfl
 have e2:UP (- -19) (-12) (-0)=524288:=rfl
 refine⟨?_,?_,?_⟩ <;> rw[e1,e2]
 ·exact LB.tabP
 ·decide+kernel
 ·decide+kernel
theorem SY(T:Tm):Com (cA T) (cB T) (cC T):=by
 unfold cA cB cC
 split
 ·exact Yf7
 ·exact Yf6
theorem L8{c1 c2 m L e f:Nat}(h:c1^44<=2*c2^44)(hm:m<=22*L)(he:22*e<=44*f):c1^(e*m)<=c2^(e*m)*2^(f*L):=by
 refine(ZF (show 44≠0 by decide)).1 ?_
 have a:=YG h (e*m)
 rw[Yq,<-Ym,<-Ym]at a
 rw[Yq,<-Ym,<-Ym,<-Ym,Yl _ 44]
 refine Yh a ?_
 rw[Yl]
 refine Yz _ (Kp (by decide) ?_)
 have b:=Yz e hm
 have c:=Yp L he
 have e1:e*(22*L)=22*e*L:=by ac_rfl
 have e2:f*L*44=44*f*L:=by ac_rfl
 omega
theorem AA{U D x y K:Nat}(h:LB.Rat4 U D x y)(hD:0<D)(hU:U<=D*K):x<=y*K:=by
 unfold LB.Rat4 at h
 refine Vg (c:=D) ?_ hD
 rw[<-h]
 have:=Yp y hU
 rw[Yl y K,<-YA]
 exact this
theorem Ynq{u v K L:Nat}(hL:1<=L)(h:(u^8)^L<=(v^8)^L*2^(K*L)):u^8<=v^8*2^K:=by
 refine(ZF (show L≠0 by omega)).1 ?_
 rw[Yq,<-Ym 2]
 exact h
theorem YgY{L m:Nat}{a b c X t p1 p2 p3:Int}(hL:1<=L)(hm:m<=22*L)(hc:UP p1 p2 p3^44<=2*UP (-p1) (-p2) (-p3)^44)(ea:a=L*X-m*p1)(eb:b=L*t-m*p2)(ec:c= -(m*p3))
 (u:Le0 (8*a-9*L) (8*b) (8*c)):UP X t 0^8<=UP (-X) (-t) 0^8*2^13:=by
 have u1:Le0 (8*a+ -((9*L:Nat):Int)) (8*b) (8*c):=Gq u (by omega) rfl rfl
 have u2:=Le u1
 have e8:∀x y z:Int,UP (8*x) (8*y) (8*z)=UP x y z^8:=fun x y z=>QD 8 x y z
 rw[<-KN,<-KN,<-KN,e8,e8]at u2
 have R:=(LB.rat_comma ea eb ec).pow 8
 have h1:=AA R (YB (KE ..)) u2
 have h2:=L8 (m:=m) (L:=L) (e:=8) (f:=4) hc hm (by decide)
 have hp:0<UP (-p1) (-p2) (-p3)^(8*m):=YB (KE ..)
 rw[Yq,Yq,<-Ym,<-Ym,<-Ym,<-Ym,Yl m 8,Yl L 8]at h1
 refine Ynq hL ?_
 rw[<-Ym,<-Ym]
 refine Ki (c:=UP (-p1) (-p2) (-p3)^(8*m)) ?_ hp
 refine Yh h1 ?_
 have h3:=Yz (UP (-X) (-t) 0^(8*L)*2^(9*L)) h2
 have e13:(2:Nat)^(13*L)=2^(9*L)*2^(4*L):=by rw[<-Yo];congr 1;omega
 rw[e13]
 refine Yh (Yx ?_) (Yh h3 (Yx ?_)) <;> ac_rfl
theorem YgZ{X t:Int}(ht: -11<=t/\t<=11)(h:UP X t 0^8<=UP (-X) (-t) 0^8*2^13):UP X t 0<=1048576:=by
 have h3:∀n:Nat,n<=11->3^n<=177147:=fun n hn=>by
  have h:3^n<=3^11:=Kp (by decide) hn
  have e:(3:Nat)^11=177147:=rfl
  omega
 by_cases hX:0<=X
 ·have e:UP (-X) (-t) 0=3^(-t).toNat:=by
   unfold UP
   rw[show(-X).toNat=0 by omega]
   simp
  rw[e]at h
  have h4:=h3 (-t).toNat (by omega)
  have h5:=YG h4 8
  have h6:177147^8*2^13<=1048576^8:=by decide+kernel
  refine(ZF (show 8≠0 by decide)).1 ?_
  have h7:=Yp (2^13) h5
  omega
 ·have e:UP X t 0=3^t.toNat:=by
   unfold UP
   rw[show X.toNat=0 by omega]
   simp
  rw[e]
  have h4:=h3 t.toNat (by omega)
  omega
theorem Ym8{L n m:Nat}{r:Rt}{X t p1 p2 p3:Int}(hr:Rep L r (L*X-m*p1) (L*t-m*p2) (-(m*p3)))(hn:r.n=n):
 LB.Rat4 (UP r.a r.b r.c^L) (UP (-r.a) (-r.b) (-r.c)^L) ((UP X t 0^L*UP (-p1) (-p2) (-p3)^m)^n) ((UP (-X) (-t) 0^L*UP p1 p2 p3^m)^n):=by
 have key:∀{x y:Int},x*L=y*r.n->(L:Int)*x=n*y:=fun {x y} h=>by rw[KM,h,hn,KM]
 have a:=key hr.ha
 have b:=key hr.hb
 have c:=key hr.hc
 have e1:UP r.a r.b r.c^L=UP (L*X-m*p1) (L*t-m*p2) (-(m*p3))^n:=by rw[<-QD,<-QD,a,b,c]
 have e2:UP (-r.a) (-r.b) (-r.c)^L=UP (-(L*X-m*p1)) (-(L*t-m*p2)) (- -(m*p3))^n:=by
  have n1:(L:Int)* -r.a=n* -(L*X-m*p1):=by rw[KN,a,KN]
  have n2:(L:Int)* -r.b=n* -(L*t-m*p2):=by rw[KN,b,KN]
  have n3:(L:Int)* -r.c=n* - -(m*p3):=by rw[KN,c,KN (n:Int) (-(m*p3))]
  rw[<-QD,<-QD,n1,n2,n3]
 rw[e1,e2]
 exact(LB.rat_comma rfl rfl rfl).pow n
theorem T5{L n m k W W0 A:Nat}{r:Rt}{X t p1 p2 p3 o:Int}(C:Com p1 p2 p3)(hL:1<=L/\L<=120)(hm:m<=22*L)(ht: -11<=t/\t<=11)(hr:Rep L r (L*X-m*p1) (L*t-m*p2) (-(m*p3)))(hn:r.n=n)(hn1:1<=n)
 (u:Le0 (8*(L*X-m*p1)-9*L) (8*(L*t-m*p2)) (8* -(m*p3)))(ho:o<=6)(hW:1<=W/\W<=323150)(hW0:1<=W0)(hA:1<=A/\A<=1000000)(hk:1<=k)
 {U D:Nat}(hU:U=UP r.a r.b r.c^2*(UP (2*(n:Int)*o) 0 0*W^n)*A^(2*n))(hD:D=UP (-r.a) (-r.b) (-r.c)^2*(UP (-(2*(n:Int)*o)) 0 0*W0^n)*k^(2*n))(hnear:D<=U*2^n):LB.Sep LB.pG n U D:=by
 have R1:=(Ym8 hr hn).pow 2
 have eo:UP (2*(n:Int)*o) 0 0=UP (2*o) 0 0^n:=by
  rw[<-QD,Int.mul_zero,show 2*(n:Int)*o=n*(2*o)by rw[KM 2 (n:Int),Int.mul_assoc]]
 have eo2:UP (-(2*(n:Int)*o)) 0 0=UP (-(2*o)) 0 0^n:=by
  rw[<-QD,Int.mul_zero,KN,show 2*(n:Int)*o=n*(2*o)by rw[KM 2 (n:Int),Int.mul_assoc]]
 have f1:=YgZ ht (YgY hL.1 hm C.g1 rfl rfl rfl u)
 have hq:UP (2*o) 0 0<=4096:=by
  unfold UP
  simp only[Int.toNat_zero,Jk,Y0]
  have h:2^(2*o).toNat<=2^12:=Kp (by decide) (by omega)
  have e:(2:Nat)^12=4096:=rfl
  omega
 have g2:=L8 (m:=m) (L:=L) (e:=2) (f:=1) C.g2 hm (by decide)
 have tab:=C.tab
 have q1:=KE (2*o) 0 0
 have q2:=KE (-(2*o)) 0 0
 have x1:=KE X t 0
 have x2:=KE (-X) (-t) 0
 have c1p:=KE p1 p2 p3
 have c2p:=KE (-p1) (-p2) (-p3)
 have rp:=KE r.a r.b r.c
 have rm:=KE (-r.a) (-r.b) (-r.c)
 rw[eo]at hU
 rw[eo2]at hD
 clear eo eo2 u hr C
 generalize UP (2*o) 0 0=q at*
 generalize UP (-(2*o)) 0 0=q' at*
 generalize UP X t 0=u1 at*
 generalize UP (-X) (-t) 0=v1 at*
 generalize UP p1 p2 p3=c1 at*
 generalize UP (-p1) (-p2) (-p3)=c2 at*
 generalize UP r.a r.b r.c=a at*
 generalize UP (-r.a) (-r.b) (-r.c)=b at*
 have hR:U^L*((v1^2*q'*(W0*k^2))^L*c1^(2*m))^n=D^L*((u1^2*q*(W*A^2))^L*c2^(2*m))^n:=by
  unfold LB.Rat4 at R1
  have e1:U^L*((v1^2*q'*(W0*k^2))^L*c1^(2*m))^n=(a^L)^2*((v1^L*c1^m)^n)^2*(((q*q'*(W*W0))^L)^n*((A*k)^L)^(2*n)):=by
   rw[hU]
   simp only[Yq,<-Ym]
   ac_rfl
  have e2:D^L*((u1^2*q*(W*A^2))^L*c2^(2*m))^n=(b^L)^2*((u1^L*c2^m)^n)^2*(((q*q'*(W*W0))^L)^n*((A*k)^L)^(2*n)):=by
   rw[hD]
   simp only[Yq,<-Ym]
   ac_rfl
  rw[e1,e2,R1]
 have hu:u1^2*q*(W*A^2)<=1048576^2*4096*(323150*1000000^2):=
  YX (YX (YG f1 2) hq) (YX hW.2 (YG hA.2 2))
 have hu0:0<u1^2*q*(W*A^2):=Y1 (Y1 (YB x1) q1) (Y1 hW.1 (YB hA.1))
 have hv0:0<v1^2*q'*(W0*k^2):=Y1 (Y1 (YB x2) q2) (Y1 hW0 (YB hk))
 have hV:4*(1048576^2*4096*(323150*1000000^2))<=LB.pV:=KC (by decide+kernel)
 have hv:v1^2*q'*(W0*k^2)<=4*(u1^2*q*(W*A^2)):=by
  generalize v1^2*q'*(W0*k^2)=v at*
  generalize u1^2*q*(W*A^2)=u at*
  have hU0:0<U:=by
   rw[hU]
   exact Y1 (Y1 (YB rp) (Y1 (YB q1) (YB hW.1))) (YB hA.1)
  have h1:=YG hnear L
  rw[Yq,<-Ym]at h1
  have h2:(v^L*c1^(2*m))^n<=(u^L*c2^(2*m))^n*2^(n*L):=AA (U:=D^L) (D:=U^L) (show _=_ from hR.symm) (YB hU0) h1
  have h3:(v^L*c1^(2*m))^n<=(u^L*c2^(2*m)*2^L)^n:=by
   rw[Yq _ (2^L),<-Ym,Yl L n];exact h2
  have h4:=(ZF (show n≠0 by omega)).1 h3
  rw[Y2]at g2
  have h5:=Yz (u^L*2^L) g2
  have h6:v^L*c1^(2*m)<=(4*u)^L*c1^(2*m):=by
   refine Yh h4 (Yh (Yx ?_) (Yh h5 (Yx ?_)))
   ·ac_rfl
   ·rw[Yq 4,show(4:Nat)=2*2 from rfl,Yq 2 2]
    ac_rfl
  have h7:=Ki h6 (YB c1p)
  exact(ZF (show L≠0 by omega)).1 h7
 exact LB.sep_tab tab c1p c2p hL (show 2*m<=44*L by omega) ⟨hu0,by omega⟩ ⟨hv0,by omega⟩ hR
theorem P0{w:Nat->Nat}(w2:w 2=0)(w3:w 3<=1)(w5:w 5<=1){L:Int}{r:Rt}{a b c:Int}(h:Rep L r a b c):upS w (Yu r)+dnS w (Yu r)<=200000:=by
 have z:∀p:Int,tm1 p 0=[]:=fun p=>rfl
 unfold Yu
 rw[h.hd,h.he,h.hf,z,z,z]
 simp only[Wr]
 rw[(JN w _ _).1,(JN w _ _).1,(JN w _ _).2,(JN w _ _).2]
 have t2:=FN w 2 r.a
 have t3:=FN w 3 r.b
 have t5:=FN w 5 r.c
 rw[w2,JP]at t2
 have m3:=Yp r.b.natAbs w3
 have m5:=Yp r.c.natAbs w5
 obtain⟨_,b1,b2,b3,_⟩:=VW h.ok
 have b2:=QZ b2
 have b3:=QZ b3
 have e2:((2:Nat):Int)=2:=rfl
 have e3:((3:Nat):Int)=3:=rfl
 have e5:((5:Nat):Int)=5:=rfl
 rw[e2]at t2
 rw[e3]at t3
 rw[e5]at t5
 omega
theorem YjA{w:Nat->Nat}(w2:w 2=0)(w3:w 3<=1)(w5:w 5<=1){r:Rt}{n:Nat}{o t t0:Int}(h:NR r n):upS w (Kn r n o t t0)+dnS w (Kn r n o t t0)<=400000+(w (273150+t).toNat*n+w (273150+t0).toNat*n):=by
 obtain⟨_,_,_,_,hr⟩:=h.rep
 have tw:=P0 w2 w3 w5 hr
 unfold Kn
 rw[(JN w _ _).1,(JN w _ _).2,(Hd w _).1,(Hd w _).2]
 have h1:¬((n:Int)<0):=by omega
 have e:upS w [(2,2*(n:Int)*o),(273150+t,(n:Int)),(273150+t0, -(n:Int))]+dnS w [(2,2*(n:Int)*o),(273150+t,(n:Int)),(273150+t0, -(n:Int))]<=w (273150+t).toNat*n+w (273150+t0).toNat*n:=by
  have z:w (2:Int).toNat=0:=w2
  simp only[upS,dnS,if_neg h1,z,JP,ite_self,Yj,Jx]
  split
  ·omega
  ·rename_i h2
   have:n=0:=by omega
   subst this
   simp
 omega
theorem Ybl{T:Tm}(h:Ke T=0){note:Int}(hn:0<=note):∃(L m:Nat) (X t p1 p2 p3:Int),(1<=L/\L<=120)/\m<=22*L/\(-11<=t/\t<=11)/\Com p1 p2 p3/\Rep L (JW (YR T) note) (L*X-m*p1) (L*t-m*p2) (-(m*p3))/\
 Le0 (8*(L*X-m*p1)-9*L) (8*(L*t-m*p2)) (8* -(m*p3)):=by
 obtain⟨X,t,w,hr,ht,hw,u,_⟩:=OR h hn
 have hL:=Qk h
 have hC:=SY T
 obtain⟨L,hLe⟩:∃L:Nat,Lm T=L:=⟨(Lm T).toNat,by omega⟩
 rw[hLe]at hr u hL hw
 rcases Int.le_total 0 w with h0|h0
 ·obtain⟨m,rfl⟩:∃m:Nat,w=m:=⟨w.toNat,by omega⟩
  refine⟨L,m,X,t,cA T,cB T,cC T,by omega,by omega,ht,hC,?_,?_⟩
  ·rw[KM (m:Int),KM (m:Int),KM (m:Int)];exact hr
  ·rw[KM (m:Int),KM (m:Int),KM (m:Int)];exact u
 ·obtain⟨m,hm⟩:∃m:Nat,w= -m:=⟨(-w).toNat,by omega⟩
  subst hm
  have e:∀z:Int,z* -(m:Int)=m* -z:=fun z=>by rw[KN,KN,KM]
  rw[e,e,e]at hr u
  exact⟨L,m,X,t, -cA T, -cB T, -cC T,by omega,by omega,ht,hC.neg,hr,u⟩
theorem OL{dn up A k n:Nat}(hn:1<=n)(hdn:0<dn)(h:dn*k^(2*n)<=up*A^(2*n)*2^n)(hB:up*A^(2*n)<dn*160000000^(2*n)):k<536870912:=by
 have h1:dn*k^(2*n)<dn*160000000^(2*n)*2^n:=JC h (ZB hB (QC n))
 rw[YA]at h1
 have h2:=Nat.lt_of_mul_lt_mul_left h1
 rw[Ym,Ym,<-Yq]at h2
 have h3:=(Nat.pow_lt_pow_iff_left (show n≠0 by omega)).1 h2
 have h4:160000000^2*2<536870912^2:=by decide
 exact(Nat.pow_lt_pow_iff_left (show 2≠0 by decide)).1 (by omega)
theorem Yhf{a t0 t note:Int}{T:Tm}{r:Rt}{n:Nat}(hS:J0 a t0 t=0)(hT:Ke T=0)(hn:0<=note/\note<=139)(hr:JW (YR T) note=r)(h:NR r n){k:Nat}(hk:1<=k/\k<=1000000000001):
 Dec (atF (Kn r n (note/12-5) t t0++[((a.toNat:Int),((2*n:Nat):Int))]) ((2*n:Nat):Int) k):=by
 obtain⟨ha,h0,h1⟩:=WO hS
 have ho: -5<=note/12-5/\note/12-5<=6:=by omega
 obtain⟨l1,l2⟩:=BU h h1 h0 ho
 obtain⟨p1,p2⟩:=Fe (o:=note/12-5) h h1 h0
 have hrn:=h.rng
 have t1:=Xn h1
 have t2:=Xn h0
 have posV:=KE (-r.a) (-r.b) (-r.c)
 have posF:=KE (-(2*(n:Int)*(note/12-5))) 0 0
 have hY:0<dnP (Kn r n (note/12-5) t t0):=by
  rw[p2]
  exact Y1 (YB posV) (Y1 posF (YB (by omega)))
 have hB:upP (Kn r n (note/12-5) t t0)*a.toNat^(2*n)<dnP (Kn r n (note/12-5) t t0)*160000000^(2*n):=by
  rw[p1,p2]
  exact Nx hrn.1 posV posF h.u (N6 ho.2) (B7 t1.2 t2.1 (by omega))
 have hd:1<=2*n/\2*n<=1000000:=by omega
 have hok:=U6 (s:=a.toNat) (den:=2*n) (k:=k) (fun x hx=>(l1 x hx).1) (by omega) hd hk
 have hsum:upS wQ (atF (Kn r n (note/12-5) t t0++[((a.toNat:Int),((2*n:Nat):Int))]) ((2*n:Nat):Int) k)+dnS wQ (atF (Kn r n (note/12-5) t t0++[((a.toNat:Int),((2*n:Nat):Int))]) ((2*n:Nat):Int) k)<=400000+268435456*n+wQ k*(2*n):=by
  rw[(Z6 wQ hd.1).1,(Z6 wQ hd.1).2]
  have s:=YjA (w:=wQ) (t:=t) (t0:=t0) (o:=note/12-5) Cg (Yx Rn) (Yx Ro) h
  have m1:=Yp n (Wm (n:=(273150+t).toNat) (by omega))
  have m2:=Yp n (Wm (n:=(273150+t0).toNat) (by omega))
  have m3:=Yp (2*n) (Wm (n:=a.toNat) (by omega))
  omega
 obtain⟨L,m,X,tt,q1,q2,q3,hL,hm,htt,hC,hrep,hu⟩:=Ybl hT hn.1
 rw[hr]at hrep
 by_cases c:dnP (Kn r n (note/12-5) t t0)*k^(2*n)<=upP (Kn r n (note/12-5) t t0)*a.toNat^(2*n)*2^n
 ·have hk2:=OL hrn.1 hY c hB
  have m4:=Yp (2*n) (Wm hk2)
  refine Mh (n:=n) rfl hok ?_ (by omega)
  rw[(JQ hd.1).1,(JQ hd.1).2]
  exact T5 hC hL hm htt hrep h.hn hrn.1 hu ho.2 (W:=(273150+t).toNat) (by omega) (W0:=(273150+t0).toNat) (by omega) (A:=a.toNat) (by omega) hk.1 (by rw[p1]) (by rw[p2]) c
 ·refine HV (m:=n) hok (KD ?_) ?_
  ·rw[(JQ hd.1).1,(JQ hd.1).2]
   omega
  ·have m4:=Yp (2*n) (Rp k)
   have e:LB.ePt 300=4*wQb:=by
    have h2:LB.ePt 2=4:=rfl
    have h:=LB.ePt_add 2 (300-2)
    rw[h2,show 2+(300-2)=300 from rfl]at h
    unfold wQb
    exact h.symm
   have hb:536870912<=wQb:=by
    have h:LB.ePt 29<=LB.ePt (300-2):=LB.ePt_le (by decide)
    exact h
   rw[e]
   generalize wQb=Q at*
   have k1:=Yz n hb
   have k2:n*(4*Q)=4*(n*Q):=Jd ..
   have k3:Q*(2*n)=2*(n*Q):=by rw[Yl,YA]
   omega
theorem IM{l:List (Int×Int)}{s den k:Nat}(hl:∀x,x∈l->okU x)(hn:l.length<=16)(hs:1<=s/\s<=1000000000000)(hd:1<=den/\den<=1000000)(hk:1<=k/\k<=1000000000001)(hD:Dec (atF (l++[((s:Int),(den:Int))]) den k))(h:isS l s den k):dnP l*k^den<=upP l*s^den:=by
 have h1:=(IG hl hn hs hd hk).2 h
 unfold isF at h1
 rw[Qj,decide_eq_true_eq,decide_eq_true_eq]at h1
 rcases h1 with h1|h1
 ·omega
 ·have h2:=(PI (U6 hl hs hd hk) (by simp [atF];omega) hD).1 h1
  rwa [(JQ hd.1).1,(JQ hd.1).2]at h2
theorem Yhg{a t0 t note:Int}{T:Tm}{r:Rt}{n:Nat}(hS:J0 a t0 t=0)(hT:Ke T=0)(hn:0<=note/\note<=139)(hr:JW (YR T) note=r)(h:NR r n):
 ∃k ex,X0 (YR T) t0 t note a=Ui k ex/\k<160000000/\dnP (Kn r n (note/12-5) t t0)*k^(2*n)<=upP (Kn r n (note/12-5) t t0)*a.toNat^(2*n)/\upP (Kn r n (note/12-5) t t0)*a.toNat^(2*n)<dnP (Kn r n (note/12-5) t t0)*(k+1)^(2*n)/\
  (ex=true↔1<=k/\upP (Kn r n (note/12-5) t t0)*a.toNat^(2*n)=dnP (Kn r n (note/12-5) t t0)*k^(2*n)):=by
 obtain⟨k,ex,h1,h2⟩:=Yhh hS hn hr h
 obtain⟨ha,h0,ht⟩:=WO hS
 obtain⟨l1,l2⟩:=BU h ht h0 (show -5<=note/12-5/\note/12-5<=6 by omega)
 have hrn:=h.rng
 have hd:1<=2*n/\2*n<=1000000:=by omega
 have hle:dnP (Kn r n (note/12-5) t t0)*k^(2*n)<=upP (Kn r n (note/12-5) t t0)*a.toNat^(2*n):=by
  rcases Jc k with e|e
  ·subst e
   rw[Nat.zero_pow (by omega),ZD]
   exact JJ _
  ·have:=h2.lt
   exact IM (fun x hx=>(l1 x hx).1) (by omega) (by omega) hd ⟨e,by omega⟩ (Yhf hS hT hn hr h ⟨e,by omega⟩) ((h2.seg k e (by omega)).2 (Yt _))
 refine⟨k,ex,h1,?_,hle,h2.up,h2.ex_iff⟩
 obtain⟨p1,p2⟩:=Fe (o:=note/12-5) h ht h0
 have posV:=KE (-r.a) (-r.b) (-r.c)
 have posF:=KE (-(2*(n:Int)*(note/12-5))) 0 0
 have t1:=Xn ht
 have t2:=Xn h0
 have hB:upP (Kn r n (note/12-5) t t0)*a.toNat^(2*n)<dnP (Kn r n (note/12-5) t t0)*160000000^(2*n):=by
  rw[p1,p2]
  exact Nx hrn.1 posV posF h.u (N6 (by omega)) (B7 t1.2 t2.1 (by omega))
 have:=Nat.lt_of_mul_lt_mul_left (JC hle hB)
 exact(Nat.pow_lt_pow_iff_left (by omega)).1 this
def YcD:VF:={ ntmps:=45,res:=[.tmp 2],body:=
 (ZR [u1 1 .box [.tm 0],
 Zi 2 0]
 (.seq (ZR [Za 5 6 1,
 Zf 6 1 5,
 Zq 7 .lss 6 1,
 Zm 8 7,
 Zj 9 8 false 6 1,
 Zh 10 8 false 1 9,
 u2 11 8 false (.cmp .gtr) [.tm 10,.cn (.int .i64 1000)],
 u1 12 .or [.tm 8,.tm 11]]
 (ZC 12 (ZR [Zi 2 2]
 .ret)
  .skip))
 (ZR [Za 13 6 1,
 Zf 14 1 13,
 Zm 3 14]
 (.seq (ZR [Zi 4 0]
 (.block 0 (.loop (.seq (ZR [Zm 15 4,
 Zq 16 .lss 15 6]
 (ZC 16 .skip
  (.exit 0)))
 (.seq (.block 1 (.seq (ZR [Zm 19 4,
 Za 20 0 1,
 u1 21 (.idxArr 6 1) [.tm 20,.tm 19],
 Zf 22 1 21,
 Zq 23 .lss 22 (-100000),
 Zm 24 23,
 Zg 25 24 false 4,
 Zj 26 24 false 0 1,
 u2 27 24 false (.idxArr 6 1) [.tm 26,.tm 25],
 Zh 28 24 false 1 27,
 u2 29 24 false (.cmp .gtr) [.tm 28,.cn (.int .i64 100000)],
 u1 30 .or [.tm 24,.tm 29]]
 (ZC 30 (ZR [Zi 2 2]
 .ret)
  .skip))
 (.draw [] [Zu 31 3,
 Zu 32 4,
 Zy 33 0 1,
 w1 34 (.idxArr 6 1) [.tm 33,.tm 32],
 Zv 35 1 34,
 Zu 36 4,
 Zy 37 0 1,
 w1 38 (.idxArr 6 1) [.tm 37,.tm 36],
 Zv 39 1 38,
 w1 40 .neg [.tm 39],
 w1 41 .max [.tm 35,.tm 40],
 Zz 42 102 31 41,
 Zu 3 42])))
 (.region [Zm 17 4,
 Zp 18 17 1,
 Zm 4 18]))))))
 (.seq (ZR [Zm 43 3,
 Zq 44 .neq 43 1]
 (ZC 44 (ZR [Zi 2 6]
 .ret)
  .skip))
 (ZR [Zi 2 0]
 .ret))))))}
theorem YoQ:Yn Yb Tryz.f104=some YcD:=by kernel_rfl
def YcE:VF:={ ntmps:=56,res:=[.cell 4 true 7,.tmp 5],body:=
 (ZR [u1 2 .box [.tm 0],
 u1 4 (.alloc Z7) [],
 Zi 5 0]
 (ZR [Zm 11 1,
 Zm 6 11]
 (.seq (ZR [Zi 7 0]
 (.block 0 (.loop (.seq (ZR [Zm 12 7,
 Zq 13 .lss 12 6]
 (ZC 13 .skip
  (.exit 0)))
 (.seq (.block 1 (.draw [] [Zu 16 6,
 Zu 17 7,
 w1 18 (.idxArr 6 1) [.tm 2,.tm 17],
 Zv 19 1 18,
 Zu 20 7,
 w1 21 (.idxArr 6 1) [.tm 2,.tm 20],
 Zv 22 1 21,
 w1 23 .neg [.tm 22],
 w1 24 .max [.tm 19,.tm 23],
 Zz 25 102 16 24,
 Zu 6 25]))
 (.region [Zm 14 7,
 Zp 15 14 1,
 Zm 7 15]))))))
 (ZR [u1 8 (.alloc Z7) []]
 (.seq (ZR [Zm 26 1,
 Zm 27 6,
 u1 28 .quo [.tm 26,.tm 27],
 Zq 29 .gtr 28 1000]
 (ZC 29 (ZR [Zt 30 7 8,
 Zs 7 4 30,
 Zi 5 7]
 .ret)
  .skip))
 (.seq (ZR [Zi 9 0]
 (.block 2 (.loop (.seq (ZR [Zm 31 9,
 Zq 32 .lss 31 6]
 (ZC 32 .skip
  (.exit 2)))
 (.seq (.block 3 (ZR [Zm 35 9,
 u1 36 (.idxArr 6 1) [.tm 2,.tm 35],
 Zf 37 1 36,
 Zm 38 6,
 u1 39 .quo [.tm 37,.tm 38],
 Zm 10 39]
 (.seq (ZR [Zm 40 10,
 Zq 41 .lss 40 (-100000),
 Zm 42 41,
 Zg 43 42 false 10,
 u2 44 42 false (.cmp .gtr) [.tm 43,.cn (.int .i64 100000)],
 u1 45 .or [.tm 42,.tm 44]]
 (ZC 45 (ZR [u1 46 (.build Z7 []) [],
 Zs 7 4 46,
 Zi 5 7]
 .ret)
  .skip))
 (.region [Zm 47 9,
 Zm 48 10,
 Za 49 0 8,
 u1 50 (.idxArr 6 1) [.tm 49,.tm 47],
 Zs 1 50 48]))))
 (.region [Zm 33 9,
 Zp 34 33 1,
 Zm 9 34]))))))
 (ZR [Zm 51 1,
 Zm 52 6,
 u1 53 .quo [.tm 51,.tm 52],
 Za 54 6 8,
 Zs 1 54 53]
 (ZR [Zt 55 7 8,
 Zs 7 4 55,
 Zi 5 0]
 .ret))))))))}
theorem YoR:Yn Yb Tryz.f105=some YcE:=by kernel_rfl
def UR1:Env:=mkE [(102,gcdC)] []
theorem RL:YD Yb UR1:=eo (by kernel_rfl) ⟨⟨Q.gcd_c,_,Tryz.func102,rfl,rfl⟩,trivial⟩ trivial
theorem YbA:chkRC.ok Yb 104:=by
 refine Yy Tryz.func104 YoQ RL 300 chkRC fun args k h=>?_
 simp only[chkRC]at h
 split at h
 ·rename_i a b c d e f n
  refine⟨[.agg [.int .i64 a,.int .i64 b,.int .i64 c,.int .i64 d,.int .i64 e,.int .i64 f,.int .i64 n]],by simp [leL,le],?_⟩
  obtain⟨r,hr⟩:∃r:Rt,r=⟨a,b,c,d,e,f,n⟩:=⟨_,rfl⟩
  rw[<-hr]at h
  have h:k (.int .i64 (Y4 r)) []:=h
  rw[show a=r.a by rw[hr],show b=r.b by rw[hr],show c=r.c by rw[hr],show d=r.d by rw[hr],show e=r.e by rw[hr],show f=r.f by rw[hr],show n=r.n by rw[hr]]
  clear hr
  rw[C8]at h
  dsimp only[YcD,go_sem,reduceIte,Ya]
  simp only[Yd,Ya,Ye,reduceCtorEq,Yc]
  refine⟨fun hc=>?_,fun hc=>?_⟩
  ·rw[if_pos (by simpa using hc)]at h;exact Kb h
  have hn:1<=r.n/\r.n<=1000:=by simp only[K5,decide_eq_false_iff_not]at hc;omega
  rw[if_neg (by omega)]at h
  refine Loop.keep [1] Nat (fun i=>[(3,.int .i64 (gP r i:Nat)),(4,.int .i64 i)]) (fun _=>[]) [] (fun i=>i<=6/\∀j,j<i->K3 (r.num j)=false) (fun i=>6-i) ?_ ?_
  ·refine⟨0,⟨by omega,fun j hj=>by omega⟩,?_⟩
   dsimp only[go_sem,reduceIte,Ya]
   simp only[Yf]
   repeat' apply YC
   all_goals first|exact trivial|decide|rfl|omega|exact(K7 (by omega)).symm|exact YN _ (Xb _ _ _ _) |simp
  ·rintro i ⟨hi,hall⟩
   dsimp only[UR1,Yk,gcdC,Yj,go_sem,reduceIte,Ya]
   simp only[Yd,Ya,Ye,reduceCtorEq,Yc]
   refine⟨fun hlt=>?_,fun hge=>?_⟩
   ·have hi6:i<6:=by omega
    have d1:=Uz r hi6
    simp only[UA r hi6,UR1,Yk,gcdC,Yj,go_sem,reduceIte,Ya]
    simp only[Yd,Ya,Ye,reduceCtorEq,Yc]
    refine⟨⟨by omega,by omega⟩,d1,fun _=>⟨by omega,by omega⟩,fun _=>d1,fun hb=>?_,fun hb=>⟨⟨by omega,by omega⟩,d1,⟨by omega,by omega⟩,d1,gP r i,(r.num i).natAbs,⟨rfl,?_,?_,?_⟩,i+1,⟨by omega,fun j hj=>?_⟩,by omega,?_⟩⟩
    ·rw[if_pos (CT hi6 (show K3 (r.num i)=true from hb))]at h;exact Kb h
    ·have:=QZ (show K3 (r.num i)=false from hb);exact M0 _ (by omega)
    ·rcases MC r i with h1|h1 <;> omega
    ·have:=QZ (show K3 (r.num i)=false from hb);omega
    ·rcases YY j i with h1|h1
     ·exact hall j h1
     ·obtain rfl:j=i:=by omega
      exact hb
    ·rw[Yg ((i:Int)+1) (by omega)]
     simp only[Yf]
     repeat' apply YC
     all_goals first|exact trivial|decide|rfl|omega|exact(K7 (by omega)).symm|exact YN _ (Xb _ _ _ _) |simp
   ·obtain rfl:i=6:=by omega
    rw[if_neg (by rw[CS hall];decide),<-UF]at h
    have hg:=H7 hn.1 6
    refine⟨fun hc=>?_,fun hc=>?_⟩
    ·rw[if_pos (by omega)]at h;exact Kb h
    ·rw[if_neg (by omega)]at h;exact Kb h
 ·exact h.1.elim
theorem EI(r:Rt):∀i,i<=6->gP r 6∣gP r i:=by
 have st:∀i,gP r (i+1)∣gP r i:=fun i=>WI ..
 intro i hi
 rcases(show i=6\/i=5\/i=4\/i=3\/i=2\/i=1\/i=0 by omega)with rfl|rfl|rfl|rfl|rfl|rfl|rfl
 ·exact Nat.dvd_refl _
 ·exact st 5
 ·exact JY (st 5) (st 4)
 ·exact JY (st 5) (JY (st 4) (st 3))
 ·exact JY (st 5) (JY (st 4) (JY (st 3) (st 2)))
 ·exact JY (st 5) (JY (st 4) (JY (st 3) (JY (st 2) (st 1))))
 ·exact JY (st 5) (JY (st 4) (JY (st 3) (JY (st 2) (JY (st 1) (st 0)))))
theorem Ie{r:Rt}(hn:1<=r.n){g:Nat}(hg:g=gP r 6):∀i,i<=6->gP (QP r g) i=gP r i/g
 |0,_=>by
  show(r.n.tdiv g).toNat=r.n.toNat/g
  rw[Wo (by omega)]
  obtain⟨m,hm⟩:∃m:Nat,r.n=m:=⟨r.n.toNat,by omega⟩
  rw[hm]
  rfl
 |i+1,hi=>by
  have ih:=Ie hn hg i (by omega)
  have e:((QP r g).num i).natAbs=(r.num i).natAbs/g:=by
   rcases six (show i<6 by omega)with rfl|rfl|rfl|rfl|rfl|rfl <;> (show Int.natAbs (Int.tdiv _ (g:Int))=_;rw[Int.natAbs_tdiv];rfl)
  have d1:g∣gP r i:=by rw[hg];exact EI r i (by omega)
  have d2:g∣(r.num i).natAbs:=by
   have h1:gP r 6∣gP r (i+1):=EI r (i+1) (by omega)
   rw[hg]
   exact JY h1 (Nat.gcd_dvd_right ..)
  rw[gP,gP,ih,e]
  exact Nat.gcd_div d1 d2
theorem YjD{r:Rt}(hn:1<=r.n):Y4 (QP r (J3 r))=0↔(QP r (J3 r)).n<=1000/\G7 (QP r (J3 r))=false:=by
 have hg0:=H7 hn 6
 have h6:=Ie hn (g:=gP r 6) rfl 6 (Yt _)
 rw[Nat.div_self hg0,UF,UF]at h6
 have hn1:1<=(QP r (J3 r)).n:=by
  show 1<=r.n.tdiv (J3 r:Nat)
  rw[Wo (by omega)]
  have hd:gP r 6∣r.n.toNat:=EI r 0 (by omega)
  have hle:=Nat.le_of_dvd (by omega) hd
  obtain⟨m,hm⟩:∃m:Nat,r.n=m:=⟨r.n.toNat,by omega⟩
  rw[hm]at hle⊢
  rw[UF,Yj]at hle
  rw[UF]at hg0
  have:=Nat.div_pos hle hg0
  have e:(m:Int)/(J3 r:Nat)=((m/J3 r:Nat):Int):=rfl
  rw[e];omega
 rw[C8,h6]
 by_cases c1:(QP r (J3 r)).n<=1000
 ·rw[if_neg (by omega)]
  cases hb:G7 (QP r (J3 r))with
  |true=>simp
  |false=>simp [c1]
 ·rw[if_pos (by omega)]
  simp [c1]
theorem Tq(r:Rt){i:Nat}(h:i<6):YP 1 (YF (Kw (i:Int) 1) [.int .i64 r.a,.int .i64 r.b,.int .i64 r.c,.int .i64 r.d,.int .i64 r.e,.int .i64 r.f])=[.int .i64 (r.num i)]:=by
 rcases six h with rfl|rfl|rfl|rfl|rfl|rfl <;> rfl
theorem Tp(r:Rt){i:Nat}(h:i<6):1<=YK (YF (Kw (i:Int) 1) [.int .i64 r.a,.int .i64 r.b,.int .i64 r.c,.int .i64 r.d,.int .i64 r.e,.int .i64 r.f]):=by
 rcases six h with rfl|rfl|rfl|rfl|rfl|rfl <;> exact KC rfl
theorem Ybt:madeC.ok Yb 105:=by
 refine Yy Tryz.func105 YoR RL 300 madeC fun args k h=>?_
 simp only[madeC]at h
 split at h
 ·rename_i a b c d e f n
  refine⟨[.agg [.int .i64 a,.int .i64 b,.int .i64 c,.int .i64 d,.int .i64 e,.int .i64 f],.int .i64 n],by simp [leL,le],?_⟩
  obtain⟨r,hr⟩:∃r:Rt,r=⟨a,b,c,d,e,f,n⟩:=⟨_,rfl⟩
  rw[<-hr]at h
  rw[show a=r.a by rw[hr],show b=r.b by rw[hr],show c=r.c by rw[hr],show d=r.d by rw[hr],show e=r.e by rw[hr],show f=r.f by rw[hr]]
  rw[show n=r.n by rw[hr]]at h⊢
  clear hr
  obtain⟨⟨hn,hn2,hb⟩,h⟩:=h
  have h:k (.tup [.agg (Yr (Jf r).1),.int .i64 (Jf r).2]) []:=h
  dsimp only[YcE,go_sem,reduceIte,Ya]
  simp only[Yd,Ya,Ye,reduceCtorEq,Yc]
  refine Loop.keep [1,0,1,0] Nat (fun i=>[(6,.int .i64 (gP r i:Nat)),(7,.int .i64 i)]) (fun _=>[]) [] (fun i=>i<=6) (fun i=>6-i) ?_ ?_
  ·refine⟨0,by omega,?_⟩
   dsimp only[go_sem,reduceIte,Ya]
   simp only[Yf]
   repeat' apply YC
   all_goals first|exact trivial|decide|rfl|omega|exact(K7 (by omega)).symm|exact YN _ (Xb _ _ _ _) |simp
  ·rintro i hi
   dsimp only[UR1,Yk,gcdC,Yj,go_sem,reduceIte,Ya]
   simp only[Yd,Ya,Ye,reduceCtorEq,Yc]
   have hgl:gP r i<=9000000000000000000:=by rcases MC r i with h1|h1 <;> omega
   have hg0:=H7 hn i
   refine⟨fun hlt=>?_,fun hge=>?_⟩
   ·have hi6:i<6:=by omega
    simp only[Tq r hi6,UR1,Yk,gcdC,Yj,go_sem,reduceIte,Ya]
    simp only[Yd,Ya,Ye,reduceCtorEq,Yc]
    have d1:1<=YK (YF (Kw (i:Int) 1) [SV.int .i64 r.a,SV.int .i64 r.b,SV.int .i64 r.c,SV.int .i64 r.d,SV.int .i64 r.e,SV.int .i64 r.f]):=Tp r hi6
    have hbi:=hb i hi6
    refine⟨⟨by omega,by omega⟩,d1,⟨by omega,by omega⟩,d1,gP r i,(r.num i).natAbs,⟨rfl,M0 _ (by omega),by omega,by omega⟩,i+1,by omega,by omega,?_⟩
    rw[Yg ((i:Int)+1) (by omega)]
    simp only[Yf]
    repeat' apply YC
    all_goals first|exact trivial|decide|rfl|omega|exact(K7 (by omega)).symm|exact YN _ (Xb _ _ _ _) |simp
   ·obtain rfl:i=6:=by omega
    rw[UF]at hgl hg0⊢
    have hmc:=YjD hn
    obtain⟨g,hg⟩:∃g,g=J3 r:=⟨_,rfl⟩
    rw[Jf,<-hg]at h
    rw[<-hg]at hgl hg0 hmc⊢
    have hdn:=A3 r.n g (by omega)
    have hDn:(QP r g).n=r.n.tdiv g:=rfl
    have hnum:∀i,i<6->(QP r g).num i=(r.num i).tdiv g:=fun i hi=>by rcases six hi with rfl|rfl|rfl|rfl|rfl|rfl <;> rfl
    rw[Yg (r.n.tdiv (g:Int)) (by omega)]
    refine⟨by omega,fun hc=>?_,fun hc=>?_⟩
    ·rw[if_neg (fun hh=>by have:=(hmc.1 hh).1;omega)]at h
     exact JK (r:=KW) (e:=7) h
    refine Loop.keep [1,0,1,1,1] Nat (fun i=>[(9,.int .i64 i)]) (fun i=>[(2,.box (Z9 (fun j=>(r.num j).tdiv g) 0 i))]) [] (fun i=>i<=6/\∀j,j<i->K3 ((r.num j).tdiv g)=false) (fun i=>6-i) ?_ ?_
    ·refine⟨0,⟨by omega,fun j hj=>by omega⟩,?_⟩
     dsimp only[Z9,go_sem,reduceIte,Ya]
     simp only[Yf]
     repeat' apply YC
     all_goals first|exact trivial|decide|rfl|omega|exact(K7 (by omega)).symm|exact YN _ (Xb _ _ _ _) |simp
    ·rintro i ⟨hi,hall⟩
     dsimp only[Yj,go_sem,reduceIte,Ya]
     simp only[Yd,Ya,Ye,reduceCtorEq,Yc]
     refine⟨fun hlt=>?_,fun hge=>?_⟩
     ·have hi6:i<6:=by omega
      simp only[Tq r hi6,Yj,go_sem,reduceIte,Ya]
      simp only[Yd,Ya,Ye,reduceCtorEq,Yc]
      have hw:=A3 (r.num i) g (hb i hi6)
      have e:J6 (Z9 (fun j=>(r.num j).tdiv g) 0 i) (Kw (i:Int) 1) [.int .i64 ((r.num i).tdiv g)]=Z9 (fun j=>(r.num j).tdiv g) 0 (i+1):=SF (fun j=>(r.num j).tdiv g) 0 hi6
      have d1:1<=YK (YF (Kw (i:Int) 1) [SV.int .i64 r.a,SV.int .i64 r.b,SV.int .i64 r.c,SV.int .i64 r.d,SV.int .i64 r.e,SV.int .i64 r.f]):=Tp r hi6
      rw[Yg ((r.num i).tdiv g) (by omega),Yg ((i:Int)+1) (by omega)]
      refine⟨⟨by omega,by omega⟩,d1,by omega,fun hx=>?_,fun hx=>⟨⟨by omega,by omega⟩,by rw[Gl,SE];omega,i+1,⟨by omega,fun j hj=>?_⟩,by omega,?_⟩⟩
      ·have hx2:K3 ((QP r g).num i)=true:=by rw[hnum i hi6];exact hx
       rw[if_neg (fun hh=>by have:=(hmc.1 hh).2;rw[CT hi6 hx2]at this;cases this)]at h
       exact JK (r:=KW) (e:=7) h
      ·rcases YY j i with h1|h1
       ·exact hall j h1
       ·obtain rfl:j=i:=by omega
        exact hx
      ·rw[e]
       simp only[Yf]
       repeat' apply YC
       all_goals first|exact trivial|decide|rfl|omega|exact(K7 (by omega)).symm|exact YN _ (Xb _ _ _ _) |simp
     ·obtain rfl:i=6:=by omega
      simp only[SD]
      dsimp only[Rt.num,go_sem,reduceIte,Ya]
      simp only[Yd,Ya,Ye,reduceCtorEq,Yc]
      rw[Yg (r.n.tdiv (g:Int)) (by omega)]
      rw[if_pos (hmc.2 ⟨by omega,CS fun j hj=>by rw[hnum j hj];exact hall j hj⟩)]at h
      exact⟨by omega,JK (r:=QP r g) (e:=0) h⟩
 ·exact h.1.elim
def YcB:VF:={ ntmps:=56,res:=[.cell 6 true 7,.tmp 7],body:=
 (ZR [u1 3 .box [.tm 0],
 u1 4 .box [.tm 1],
 u1 6 (.alloc Z7) [],
 Zi 7 0]
 (.seq (.draw [] [Zw 12 7 3,
 Zw 14 7 4,
 w1 13 (.call 104) [.tm 12],
 w1 15 (.call 104) [.tm 14],
 Zu 8 13,
 Zu 9 15])
 (.seq (ZR [Zm 16 8,
 Zq 17 .neq 16 0]
 (ZC 17 (ZR [u1 18 (.build Z7 []) [],
 Zm 19 8,
 Zs 7 6 18,
 Zm 7 19]
 .ret)
  .skip))
 (.seq (ZR [Zm 20 9,
 Zq 21 .neq 20 0]
 (ZC 21 (ZR [u1 22 (.build Z7 []) [],
 Zm 23 9,
 Zs 7 6 22,
 Zm 7 23]
 .ret)
  .skip))
 (ZR [u1 10 (.allocArr 6 1 [(.int .i64 0),(.int .i64 0),(.int .i64 0),(.int .i64 0),(.int .i64 0),(.int .i64 0)]) []]
 (.seq (ZR [Zi 11 0]
 (.block 0 (.loop (.seq (ZR [Zm 24 11,
 Zq 25 .lss 24 6]
 (ZC 25 .skip
  (.exit 0)))
 (.seq (.block 1 (.draw [] [Zu 28 11,
 Zu 29 11,
 Zy 30 0 3,
 w1 31 (.idxArr 6 1) [.tm 30,.tm 29],
 Zv 32 1 31,
 Zy 33 6 4,
 Zv 34 1 33,
 w1 35 (.ari .mul) [.tm 32,.tm 34],
 Zu 36 2,
 Zu 37 11,
 Zy 38 0 4,
 w1 39 (.idxArr 6 1) [.tm 38,.tm 37],
 Zv 40 1 39,
 w1 41 (.ari .mul) [.tm 36,.tm 40],
 Zy 42 6 3,
 Zv 43 1 42,
 w1 44 (.ari .mul) [.tm 41,.tm 43],
 w1 45 (.ari .add) [.tm 35,.tm 44],
 w1 46 (.idxArr 6 1) [.tm 10,.tm 28],
 ZS 1 46 45]))
 (.region [Zm 26 11,
 Zp 27 26 1,
 Zm 11 27]))))))
 (ZR [Zt 47 6 10,
 Za 48 6 3,
 Zf 49 1 48,
 Za 50 6 4,
 Zf 51 1 50,
 Zo 52 .mul 49 51,
 Zd 53 105 47 52,
 Ze 54 0 53,
 Ze 55 1 53,
 Zs 7 6 54,
 Zm 7 55]
 .ret)))))))}
theorem YoN:Yn Yb Tryz.f101=some YcB:=by kernel_rfl
def v70:VF:=⟨11,[.cell 4 true 7,.tmp 5],(ZR [u1 2 .box [.tm 0],u1 3 .box [.tm 1],u1 4 (.alloc Z7) [],Zi 5 0] (ZR [Zt 6 7 2,Zt 7 7 3,u1 8 (.call 101) [.tm 6,.tm 7,.cn (.int .i64 1)],Ze 9 0 8,Ze 10 1 8,Zs 7 4 9,Zm 5 10] .ret))⟩
theorem Yqp:Yn Yb Tryz.f70=some v70:=by kernel_rfl
def v67:VF:=⟨11,[.cell 4 true 7,.tmp 5],(ZR [u1 2 .box [.tm 0],u1 3 .box [.tm 1],u1 4 (.alloc Z7) [],Zi 5 0] (ZR [Zt 6 7 2,Zt 7 7 3,u1 8 (.call 101) [.tm 6,.tm 7,.cn (.int .i64 (-1))],Ze 9 0 8,Ze 10 1 8,Zs 7 4 9,Zm 5 10] .ret))⟩
theorem Yql:Yn Yb Tryz.f67=some v67:=by kernel_rfl
def v69:VF:=⟨62,[.cell 6 true 7,.tmp 7],(ZR [u1 3 .box [.tm 0],u1 6 (.alloc Z7) [],Zi 7 0] (ZR [Zt 11 7 3,Zc 12 104 11,Zm 8 12] (.seq (ZR [Zm 13 8,Zq 14 .neq 13 0] (ZC 14 (ZR [u1 15 (.build Z7 []) [],Zm 16 8,Zs 7 6 15,Zm 7 16] .ret) .skip)) (.seq (ZR [Zm 17 1,Zq 18 .lss 17 (-1000),Zm 19 18,Zg 20 19 false 1,u2 21 19 false (.cmp .gtr) [.tm 20,.cn (.int .i64 1000)],u1 22 .or [.tm 19,.tm 21],Zm 23 22,Zg 24 23 false 2,u2 25 23 false (.cmp .lss) [.tm 24,.cn (.int .i64 (-1000))],u1 26 .or [.tm 23,.tm 25],Zm 27 26,Zg 28 27 false 2,u2 29 27 false (.cmp .gtr) [.tm 28,.cn (.int .i64 1000)],u1 30 .or [.tm 27,.tm 29],Zm 31 30,Zg 32 31 false 2,u2 33 31 false (.cmp .eql) [.tm 32,.cn (.int .i64 0)],u1 34 .or [.tm 31,.tm 33]] (ZC 34 (ZR [u1 35 (.build Z7 []) [],Zs 7 6 35,Zi 7 2] .ret) .skip)) (.seq (ZR [Zm 36 2,Zq 37 .lss 36 0] (ZC 37 (.region [Zm 38 1,u1 39 .neg [.tm 38],Zm 40 2,u1 41 .neg [.tm 40],Zm 1 39,Zm 2 41]) .skip)) (ZR [u1 9 (.allocArr 6 1 [(.int .i64 0),(.int .i64 0),(.int .i64 0),(.int .i64 0),(.int .i64 0),(.int .i64 0)]) []] (.seq (ZR [Zi 10 0] (.block 0 (.loop (.seq (ZR [Zm 42 10,Zq 43 .lss 42 6] (ZC 43 .skip (.exit 0))) (.seq (.block 1 (.region [Zm 46 10,Zm 47 10,Za 48 0 3,u1 49 (.idxArr 6 1) [.tm 48,.tm 47],Zf 50 1 49,Zm 51 1,Zo 52 .mul 50 51,u1 53 (.idxArr 6 1) [.tm 9,.tm 46],Zs 1 53 52])) (.region [Zm 44 10,Zp 45 44 1,Zm 10 45])))))) (ZR [Zt 54 6 9,Za 55 6 3,Zf 56 1 55,Zm 57 2,Zo 58 .mul 56 57,Zd 59 105 54 58,Ze 60 0 59,Ze 61 1 59,Zs 7 6 60,Zm 7 61] .ret))))))))⟩
theorem Yqn:Yn Yb Tryz.f69=some v69:=by kernel_rfl
def UR2:Env:=mkE [(104,chkRC),(105,madeC)] []
theorem RM:YD Yb UR2:=eo (by kernel_rfl) ⟨⟨YbA,_,Tryz.func104,rfl,rfl⟩,⟨Ybt,_,Tryz.func105,rfl,rfl⟩,trivial⟩ trivial
theorem Wk(x:Rt):Rt.mk x.a x.b x.c x.d x.e x.f x.n=x:=rfl
theorem YmT:joinC.ok Yb 101:=by
 refine Yy Tryz.func101 YoN RM 400 joinC fun args k h=>?_
 simp only[joinC]at h
 split at h
 ·rename_i a b c d e f n a' b' c' d' e' f' n' s
  refine⟨[.agg [.int .i64 a,.int .i64 b,.int .i64 c,.int .i64 d,.int .i64 e,.int .i64 f,.int .i64 n],.agg [.int .i64 a',.int .i64 b',.int .i64 c',.int .i64 d',.int .i64 e',.int .i64 f',.int .i64 n'],.int .i64 s],by simp [leL,le],?_⟩
  obtain⟨x,hx⟩:∃r:Rt,r=⟨a,b,c,d,e,f,n⟩:=⟨_,rfl⟩
  obtain⟨y,hy⟩:∃r:Rt,r=⟨a',b',c',d',e',f',n'⟩:=⟨_,rfl⟩
  rw[<-hx,<-hy]at h
  rw[show a=x.a by rw[hx],show b=x.b by rw[hx],show c=x.c by rw[hx],show d=x.d by rw[hx],show e=x.e by rw[hx],show f=x.f by rw[hx],show n=x.n by rw[hx]]
  rw[show a'=y.a by rw[hy],show b'=y.b by rw[hy],show c'=y.c by rw[hy],show d'=y.d by rw[hy],show e'=y.e by rw[hy],show f'=y.f by rw[hy],show n'=y.n by rw[hy]]
  clear hx hy
  obtain⟨hs,h⟩:=h
  have h:k (.tup [.agg (Yr (KQ x y s).1),.int .i64 (KQ x y s).2]) []:=h
  dsimp only[YcB,UR2,Yk,chkRC,go_sem,reduceIte,Ya]
  simp only[Yd,Ya,Ye,reduceCtorEq,Yc]
  rw[Wk,Wk]
  rw[E7]at h
  refine⟨fun hc=>?_,fun hcx=>⟨fun hc=>?_,fun hcy=>?_⟩⟩
  ·rw[if_pos hc]at h
   exact JK (r:=KW) h
  ·rw[if_neg (by rw[hcx];decide),if_pos hc]at h
   exact JK (r:=KW) h
  rw[if_neg (by rw[hcx];decide),if_neg (by rw[hcy];decide)]at h
  refine Loop.keep [2,0,0,1,3] Nat (fun i=>[(11,.int .i64 i)]) (fun i=>[(3,.own false 1 6 (fun k=>[.int .i64 (Wg (Qb x y s) i k)]))]) [] (fun i=>i<=6) (fun i=>6-i) ?_ ?_
  ·refine⟨0,by omega,?_⟩
   dsimp only[go_sem,reduceIte,Ya]
   simp only[Yf]
   refine⟨by decide,fun k hk=>?_⟩
   rw[NV hk]
   exact⟨⟨rfl,rfl⟩,trivial⟩
  ·rintro i hi
   dsimp only[UR2,Yk,madeC,Yj,go_sem,reduceIte,Ya]
   simp only[Yd,Ya,Ye,reduceCtorEq,Yc]
   refine⟨fun hlt=>?_,fun hge=>?_⟩
   ·have hi6:i<6:=by omega
    have d1:=Uz x hi6
    have d2:=Uz y hi6
    obtain⟨j1,j2,j3,j4,_⟩:=BG hcx hcy hs hi6
    simp only[UA x hi6,UA y hi6,UR2,Yk,madeC,Yj,go_sem,reduceIte,Ya]
    simp only[Yd,Ya,Ye,reduceCtorEq,Yc]
    rw[j1,j2,j3,j4,Yg ((i:Int)+1) (by omega)]
    refine⟨⟨by omega,by omega⟩,d1,⟨by omega,by omega⟩,d2,⟨by omega,by omega⟩,hi6,i+1,by omega,by omega,?_⟩
    simp only[Yf]
    refine⟨by simp,?_⟩
    intro k hk
    rw[<-M6]
    split
    ·exact⟨⟨rfl,rfl⟩,trivial⟩
    ·exact⟨⟨rfl,rfl⟩,trivial⟩
   ·obtain rfl:i=6:=by omega
    have a3:=XX hcx
    have a4:=XX hcy
    have hm:=Jv (x:=x.n) (y:=y.n) (X:=1000) (Y:=1000) (by omega) (by omega)
    have hm1:1<=x.n*y.n:=Int.mul_pos (by omega) (by omega)
    rw[Yg (x.n*y.n) (by omega)]
    simp only[M7,M8,M9,Na,Nb,Nc]
    dsimp only[UR2,Yk,madeC,Yr,go_sem,reduceIte,Ya]
    simp only[Yd,Ya,Ye,reduceCtorEq,Yc]
    refine⟨⟨hm1,by omega,fun i hi=>?_⟩,?_⟩
    ·have:=(BG hcx hcy hs hi).2.2.2.2
     rcases six hi with rfl|rfl|rfl|rfl|rfl|rfl <;> (simp only[Rt.num];omega)
    ·exact⟨by decide,by decide,JK (r:=(Jf ⟨Qb x y s 0,Qb x y s 1,Qb x y s 2,Qb x y s 3,Qb x y s 4,Qb x y s 5,x.n*y.n⟩).1) h⟩
 ·exact h.1.elim
def UR3:Env:=mkE [(101,joinC)] []
theorem RN:YD Yb UR3:=eo (by kernel_rfl) ⟨⟨YmT,_,Tryz.func101,rfl,rfl⟩,trivial⟩ trivial
theorem Ya5:(Jp 1).ok Yb 70:=by
 refine Yy Tryz.func70 Yqp RN 300 (Jp 1) fun args k h=>?_
 simp only[Jp]at h
 split at h
 ·rename_i a b c d e f n a' b' c' d' e' f' n'
  refine⟨[.agg [.int .i64 a,.int .i64 b,.int .i64 c,.int .i64 d,.int .i64 e,.int .i64 f,.int .i64 n],.agg [.int .i64 a',.int .i64 b',.int .i64 c',.int .i64 d',.int .i64 e',.int .i64 f',.int .i64 n']],by simp [leL,le],?_⟩
  dsimp only[v70,UR3,Yk,joinC,Yr,go_sem,reduceIte,Ya]
  simp only[Yd,Ya,Ye,reduceCtorEq,Yc]
  exact⟨by decide,by decide,by decide,JK (r:=(KQ ⟨a,b,c,d,e,f,n⟩ ⟨a',b',c',d',e',f',n'⟩ 1).1) h⟩
 ·exact h.1.elim
theorem Ya4:(Jp (-1)).ok Yb 67:=by
 refine Yy Tryz.func67 Yql RN 300 (Jp (-1)) fun args k h=>?_
 simp only[Jp]at h
 split at h
 ·rename_i a b c d e f n a' b' c' d' e' f' n'
  refine⟨[.agg [.int .i64 a,.int .i64 b,.int .i64 c,.int .i64 d,.int .i64 e,.int .i64 f,.int .i64 n],.agg [.int .i64 a',.int .i64 b',.int .i64 c',.int .i64 d',.int .i64 e',.int .i64 f',.int .i64 n']],by simp [leL,le],?_⟩
  dsimp only[v67,UR3,Yk,joinC,Yr,go_sem,reduceIte,Ya]
  simp only[Yd,Ya,Ye,reduceCtorEq,Yc]
  exact⟨by decide,by decide,by decide,JK (r:=(KQ ⟨a,b,c,d,e,f,n⟩ ⟨a',b',c',d',e',f',n'⟩ (-1)).1) h⟩
 ·exact h.1.elim
theorem Ya6:powRC.ok Yb 69:=by
 refine Yy Tryz.func69 Yqn RM 400 powRC fun args k h=>?_
 simp only[powRC]at h
 split at h
 ·rename_i a b c d e f n p q
  refine⟨[.agg [.int .i64 a,.int .i64 b,.int .i64 c,.int .i64 d,.int .i64 e,.int .i64 f,.int .i64 n],.int .i64 p,.int .i64 q],by simp [leL,le],?_⟩
  obtain⟨r,hr⟩:∃r:Rt,r=⟨a,b,c,d,e,f,n⟩:=⟨_,rfl⟩
  rw[<-hr]at h
  rw[show a=r.a by rw[hr],show b=r.b by rw[hr],show c=r.c by rw[hr],show d=r.d by rw[hr],show e=r.e by rw[hr],show f=r.f by rw[hr],show n=r.n by rw[hr]]
  clear hr
  have h:k (.tup [.agg (Yr (Xm r p q).1),.int .i64 (Xm r p q).2]) []:=h
  dsimp only[v69,UR2,Yk,chkRC,go_sem,reduceIte,Ya]
  simp only[Yd,Ya,Ye,reduceCtorEq,Yc]
  refine⟨fun hc=>?_,fun hc=>⟨fun hb=>?_,fun hb=>?_⟩⟩
  ·rw[Xm,if_pos hc]at h
   exact JK (r:=KW) h
  all_goals
   have hc:Y4 r=0:=hc
   rw[Xm,if_neg (by rw[hc];decide)]at h
  ·rw[if_pos (show Uv p q=true from hb)]at h
   exact JK (r:=KW) h
  ·have hb:Uv p q=false:=hb
   rw[if_neg (by rw[hb];decide)]at h
   obtain⟨hp,hq,hq0⟩:=Si hb
   refine⟨fun hneg=>?_,fun hpos=>?_⟩
   ·rw[if_pos hneg]at h
    rw[Yg (0-p) (by omega),Yg (0-q) (by omega),Int.zero_sub,Int.zero_sub]
    obtain⟨P,hP⟩:∃P,P= -p:=⟨_,rfl⟩
    obtain⟨Q,hQ⟩:∃Q,Q= -q:=⟨_,rfl⟩
    rw[<-hP,<-hQ]at h⊢
    have hPb: -1000<=P/\P<=1000:=by omega
    have hQb:1<=Q/\Q<=1000:=by omega
    clear hp hq hP hQ
    refine Loop.keep [1,0,0,2,2] Nat (fun i=>[(10,.int .i64 i)]) (fun i=>[(2,.own false 1 6 (fun k=>[.int .i64 (Wg (fun j=>r.num j*P) i k)]))]) [] (fun i=>i<=6) (fun i=>6-i) ?_ ?_
    ·refine⟨0,by omega,?_⟩
     dsimp only[go_sem,reduceIte,Ya]
     simp only[Yf]
     refine⟨by decide,fun k hk=>?_⟩
     rw[NV hk]
     exact⟨⟨rfl,rfl⟩,trivial⟩
    ·rintro i hi
     dsimp only[UR2,Yk,madeC,Yj,go_sem,reduceIte,Ya]
     simp only[Yd,Ya,Ye,reduceCtorEq,Yc]
     refine⟨fun hlt=>?_,fun hge=>?_⟩
     ·have hi6:i<6:=by omega
      have d1:=Uz r hi6
      have h1:=Wj hc hi6
      have hm:=Jv (x:=r.num i) (y:=P) (X:=100000) (Y:=1000) h1 (by omega)
      simp only[UA r hi6,UR2,Yk,madeC,Yj,go_sem,reduceIte,Ya]
      simp only[Yd,Ya,Ye,reduceCtorEq,Yc]
      rw[Yg (r.num i*P) (by omega),Yg ((i:Int)+1) (by omega)]
      refine⟨⟨by omega,by omega⟩,d1,⟨by omega,by omega⟩,hi6,i+1,by omega,by omega,?_⟩
      simp only[Yf]
      refine⟨by simp,?_⟩
      intro k hk
      rw[<-M6]
      split
      ·exact⟨⟨rfl,rfl⟩,trivial⟩
      ·exact⟨⟨rfl,rfl⟩,trivial⟩
     ·obtain rfl:i=6:=by omega
      have hn:=XX hc
      have hm:=Jv (x:=r.n) (y:=Q) (X:=1000) (Y:=1000) (by omega) (by omega)
      have hm1:1<=r.n*Q:=Int.mul_pos (by omega) (by omega)
      rw[Yg (r.n*Q) (by omega)]
      simp only[M7,M8,M9,Na,Nb,Nc]
      dsimp only[UR2,Yk,madeC,Yr,go_sem,reduceIte,Ya]
      simp only[Yd,Ya,Ye,reduceCtorEq,Yc]
      refine⟨⟨hm1,by omega,fun i hi=>?_⟩,?_⟩
      ·have h1:=Wj hc hi
       have hm:=Jv (x:=r.num i) (y:=P) (X:=100000) (Y:=1000) h1 (by omega)
       rcases six hi with rfl|rfl|rfl|rfl|rfl|rfl <;> (simp only[Rt.num]at hm⊢;omega)
      ·exact⟨by decide,by decide,JK (r:=(GF r P Q).1) h⟩
   ·rw[if_neg hpos]at h
    obtain⟨P,hP⟩:∃P,P=p:=⟨_,rfl⟩
    obtain⟨Q,hQ⟩:∃Q,Q=q:=⟨_,rfl⟩
    rw[<-hP,<-hQ]at h⊢
    have hPb: -1000<=P/\P<=1000:=by omega
    have hQb:1<=Q/\Q<=1000:=by omega
    refine Loop.keep [1,0,0,2,2] Nat (fun i=>[(10,.int .i64 i)]) (fun i=>[(2,.own false 1 6 (fun k=>[.int .i64 (Wg (fun j=>r.num j*P) i k)]))]) [] (fun i=>i<=6) (fun i=>6-i) ?_ ?_
    ·refine⟨0,by omega,?_⟩
     dsimp only[go_sem,reduceIte,Ya]
     simp only[Yf]
     refine⟨by decide,fun k hk=>?_⟩
     rw[NV hk]
     exact⟨⟨rfl,rfl⟩,trivial⟩
    ·rintro i hi
     dsimp only[UR2,Yk,madeC,Yj,go_sem,reduceIte,Ya]
     simp only[Yd,Ya,Ye,reduceCtorEq,Yc]
     refine⟨fun hlt=>?_,fun hge=>?_⟩
     ·have hi6:i<6:=by omega
      have d1:=Uz r hi6
      have h1:=Wj hc hi6
      have hm:=Jv (x:=r.num i) (y:=P) (X:=100000) (Y:=1000) h1 (by omega)
      simp only[UA r hi6,UR2,Yk,madeC,Yj,go_sem,reduceIte,Ya]
      simp only[Yd,Ya,Ye,reduceCtorEq,Yc]
      rw[Yg (r.num i*P) (by omega),Yg ((i:Int)+1) (by omega)]
      refine⟨⟨by omega,by omega⟩,d1,⟨by omega,by omega⟩,hi6,i+1,by omega,by omega,?_⟩
      simp only[Yf]
      refine⟨by simp,?_⟩
      intro k hk
      rw[<-M6]
      split
      ·exact⟨⟨rfl,rfl⟩,trivial⟩
      ·exact⟨⟨rfl,rfl⟩,trivial⟩
     ·obtain rfl:i=6:=by omega
      have hn:=XX hc
      have hm:=Jv (x:=r.n) (y:=Q) (X:=1000) (Y:=1000) (by omega) (by omega)
      have hm1:1<=r.n*Q:=Int.mul_pos (by omega) (by omega)
      rw[Yg (r.n*Q) (by omega)]
      simp only[M7,M8,M9,Na,Nb,Nc]
      dsimp only[UR2,Yk,madeC,Yr,go_sem,reduceIte,Ya]
      simp only[Yd,Ya,Ye,reduceCtorEq,Yc]
      refine⟨⟨hm1,by omega,fun i hi=>?_⟩,?_⟩
      ·have h1:=Wj hc hi
       have hm:=Jv (x:=r.num i) (y:=P) (X:=100000) (Y:=1000) h1 (by omega)
       rcases six hi with rfl|rfl|rfl|rfl|rfl|rfl <;> (simp only[Rt.num]at hm⊢;omega)
      ·exact⟨by decide,by decide,JK (r:=(GF r P Q).1) h⟩
 ·exact h.1.elim
def v68:VF:=⟨88,[.cell 4 true 7,.tmp 5],(ZR [u1 4 (.alloc Z7) [],Zi 5 0] (.seq (ZR [Zm 10 0,Zq 11 .lss 10 1,Zm 12 11,Zg 13 12 false 0,u2 14 12 false (.cmp .gtr) [.tm 13,.cn (.int .i64 1000000000000)],u1 15 .or [.tm 12,.tm 14],Zm 16 15,Zg 17 16 false 1,u2 18 16 false (.cmp .lss) [.tm 17,.cn (.int .i64 1)],u1 19 .or [.tm 16,.tm 18],Zm 20 19,Zg 21 20 false 1,u2 22 20 false (.cmp .gtr) [.tm 21,.cn (.int .i64 1000000000000)],u1 23 .or [.tm 20,.tm 22]] (ZC 23 (ZR [u1 24 (.build Z7 []) [],Zs 7 4 24,Zi 5 2] .ret) .skip)) (ZR [Zm 25 0,Zm 26 1,Zd 27 102 25 26,Zm 6 27] (.seq (.draw [] [Zu 28 0,Zu 29 6,w1 30 .quo [.tm 28,.tm 29],Zu 31 1,Zu 32 6,w1 33 .quo [.tm 31,.tm 32],Zu 0 30,Zu 1 33]) (ZR [u1 34 (.build Z7 [(6,1)]) [.cn (.int .i64 1)],u1 7 (.alloc Z7) [],Zs 7 7 34] (ZR [u1 35 (.call 103) [],Zm 8 35] (.seq (ZR [Zi 9 0] (.block 0 (.loop (.seq (ZR [Zm 36 9,Zq 37 .lss 36 6] (ZC 37 .skip (.exit 0))) (.seq (.block 1 (.seq (.block 2 (.loop (.seq (ZR [Zm 40 0,Zm 41 8,Zm 42 9,Zx 43 1 41 42,Zf 44 1 43,u1 45 .rem [.tm 40,.tm 44],Zq 46 .eql 45 0] (ZC 46 .skip (.exit 2))) (.block 3 (ZR [Zm 47 0,Zm 48 8,Zm 49 9,Zx 50 1 48 49,Zf 51 1 50,u1 52 .quo [.tm 47,.tm 51],Zm 0 52] (.region [Zm 53 9,Za 54 0 7,u1 55 (.idxArr 6 1) [.tm 54,.tm 53],Zf 56 1 55,Zp 57 56 1,Za 58 0 7,u1 59 (.idxArr 6 1) [.tm 58,.tm 53],Zs 1 59 57])))))) (.block 4 (.loop (.seq (ZR [Zm 60 1,Zm 61 8,Zm 62 9,Zx 63 1 61 62,Zf 64 1 63,u1 65 .rem [.tm 60,.tm 64],Zq 66 .eql 65 0] (ZC 66 .skip (.exit 4))) (.block 5 (ZR [Zm 67 1,Zm 68 8,Zm 69 9,Zx 70 1 68 69,Zf 71 1 70,u1 72 .quo [.tm 67,.tm 71],Zm 1 72] (.region [Zm 73 9,Za 74 0 7,u1 75 (.idxArr 6 1) [.tm 74,.tm 73],Zf 76 1 75,u1 77 (.ari .sub) [.tm 76,.cn (.int .i64 1)],Za 78 0 7,u1 79 (.idxArr 6 1) [.tm 78,.tm 73],Zs 1 79 77])))))))) (.region [Zm 38 9,Zp 39 38 1,Zm 9 39])))))) (.seq (ZR [Zm 80 0,Zq 81 .neq 80 1,Zm 82 81,Zg 83 82 false 1,u2 84 82 false (.cmp .neq) [.tm 83,.cn (.int .i64 1)],u1 85 .or [.tm 82,.tm 84]] (ZC 85 (ZR [u1 86 (.build Z7 []) [],Zs 7 4 86,Zi 5 7] .ret) .skip)) (ZR [Zt 87 7 7,Zs 7 4 87,Zi 5 0] .ret)))))))))⟩
theorem Yqm:Yn Yb Tryz.f68=some v68:=by kernel_rfl
def Ca:VF:={ ntmps:=2,res:=[.tmp 0],body:=
 (ZR [u1 0 .mov [.cn .nil]]
 (ZR [u1 1 (.buildSlice 1 6 [(.int .i64 0)] [(0,1),(1,1),(2,1),(3,1),(4,1),(5,1)]) [.cn (.int .i64 2),.cn (.int .i64 3),.cn (.int .i64 5),.cn (.int .i64 7),.cn (.int .i64 11),.cn (.int .i64 13)],
 Zm 0 1]
 .ret))}
theorem YoP:Yn Yb Tryz.f103=some Ca:=by kernel_rfl
def v71:VF:=⟨39,[.tmp 2,.tmp 3,.tmp 4],(ZR [u1 1 .box [.tm 0],u1 2 .mov [.cn .nil],Zi 3 0,Zi 4 0] (ZR [Zt 9 7 1,Zc 10 104 9,Zm 5 10] (.seq (ZR [Zm 11 5,Zq 12 .neq 11 0] (ZC 12 (ZR [Zm 13 5,u1 2 .mov [.cn .nil],Zi 3 0,Zm 4 13] .ret) .skip)) (ZR [u1 6 .mov [.cn .nil]] (ZR [u1 14 (.call 103) [],Zm 7 14] (.seq (ZR [Zi 8 0] (.block 0 (.loop (.seq (ZR [Zm 15 8,Zq 16 .lss 15 6] (ZC 16 .skip (.exit 0))) (.seq (.block 1 (ZR [Zm 19 8,Za 20 0 1,u1 21 (.idxArr 6 1) [.tm 20,.tm 19],Zf 22 1 21,Zq 23 .neq 22 0] (ZC 23 (.draw [] [Zu 24 6,Zu 25 7,Zu 26 8,ZX 27 1 25 26,Zv 28 1 27,Zu 29 8,Zy 30 0 1,w1 31 (.idxArr 6 1) [.tm 30,.tm 29],Zv 32 1 31,w1 33 (.build Z2 [(0,1),(1,1)]) [.tm 28,.tm 32],w1 34 (.buildSlice 2 1 Z2 [(0,2)]) [.tm 33],w1 35 (.append 2 16 Z2) [.tm 24,.tm 34],Zu 6 35]) .skip))) (.region [Zm 17 8,Zp 18 17 1,Zm 8 18])))))) (.seq (.draw [] [Zu 36 6,Zy 37 6 1,Zv 38 1 37,Zu 2 36,Zu 3 38,w1 4 .mov [.cn (.int .i64 0)]]) .ret)))))))⟩
theorem Yqq:Yn Yb Tryz.f71=some v71:=by kernel_rfl
def UR4:Env:=mkE [(102,gcdC),(104,chkRC)] [(103,Ca)]
theorem RO:YD Yb UR4:=eo (by kernel_rfl) ⟨⟨Q.gcd_c,_,Tryz.func102,rfl,rfl⟩,⟨YbA,_,Tryz.func104,rfl,rfl⟩,trivial⟩ ⟨⟨_,Tryz.func103,YoP,_,Tryz.func103,rfl,rfl⟩,trivial⟩
def rofC:Ctr:={ alias:=false,of:=fun l=>match l with
 | [.int .i64 a,.int .i64 b]=> .pre ((ofL a b 6).1=1/\(ofL a b 6).2.1=1/\YI a.toNat b.toNat=1/\ZJ a b=false) (.fin (.tup [.agg (Yr (K1 a b).1),.int .i64 (K1 a b).2]) [])
 |_=>noC}
theorem Ybv:rofC.ok Yb 68:=by
 refine Yy Tryz.func68 Yqm RO 400 rofC fun args k h=>?_
 simp only[rofC]at h
 split at h
 ·rename_i a b
  refine⟨[.int .i64 a,.int .i64 b],by simp [leL,le],?_⟩
  obtain⟨⟨h61,h62,hgcd,hb⟩,h⟩:=h
  have h:k (.tup [.agg (Yr (K1 a b).1),.int .i64 (K1 a b).2]) []:=h
  rw[K1,if_neg (by rw[hb];decide),if_neg (by rw[h61,h62];decide)]at h
  have hb0:ZJ a b=false:=hb
  simp only[ZJ,K5,decide_eq_false_iff_not]at hb
  dsimp only[v68,UR4,Yk,gcdC,Ca,go_sem,reduceIte,Ya]
  simp only[Yd,Ya,Ye,reduceCtorEq,Yc]
  refine⟨fun hh=>absurd (show ZJ a b=true from hh) (by rw[hb0];decide),fun _=>⟨a.toNat,b.toNat,⟨(K7 (by omega)).symm,(K7 (by omega)).symm,by omega,by omega⟩,?_⟩⟩
  rw[hgcd]
  have t1:∀x:Int,x.tdiv ((1:Nat):Int)=x:=fun x=>Int.tdiv_one x
  rw[t1,t1,Yg a (by omega),Yg b (by omega)]
  refine⟨by decide,by decide,by decide,?_⟩
  refine Loop.keep [4,2,0] Nat (fun i=>[(0,.int .i64 (ofL a b i).1),(1,.int .i64 (ofL a b i).2.1),(9,.int .i64 i)]) (fun i=>[(1,.box (Xv (ofL a b i).2.2 1))]) [] (fun i=>i<=6/\(1<=(ofL a b i).1/\(ofL a b i).1<=1000000000000)/\1<=(ofL a b i).2.1/\(ofL a b i).2.1<=1000000000000) (fun i=>6-i) ?_ ?_
  ·refine⟨0,⟨by omega,⟨by simp only[ofL];omega,by simp only[ofL];omega⟩,by simp only[ofL];omega,by simp only[ofL];omega⟩,?_⟩
   dsimp only[Xv,ofL,go_sem,reduceIte,Ya]
   simp only[Yf]
   repeat' apply YC
   all_goals first|exact trivial|decide|rfl|omega|exact(K7 (by omega)).symm|simp
  ·rintro i ⟨hi,hx,hy⟩
   obtain⟨X,hX⟩:∃X,X=(ofL a b i).1:=⟨_,rfl⟩
   obtain⟨Y,hY⟩:∃Y,Y=(ofL a b i).2.1:=⟨_,rfl⟩
   obtain⟨g,hg⟩:∃g,g=(ofL a b i).2.2:=⟨_,rfl⟩
   rw[<-hX]at hx
   rw[<-hY]at hy
   rw[<-hX,<-hY,<-hg]
   dsimp only[Yj,go_sem,reduceIte,Ya]
   simp only[Yd,Ya,Ye,reduceCtorEq,Yc]
   refine⟨fun hlt=>?_,fun hge=>?_⟩
   ·have hi6:i<6:=by omega
    have hp:=YaE i
    have hg0:g i=0:=by rw[hg];exact LN a b i i (Yt _)
    have hS:ofL a b (i+1)=((JI 64 (prm i) X 0 1).1,(JI 64 (prm i) Y (JI 64 (prm i) X 0 1).2 (-1)).1,X5 g i (JI 64 (prm i) Y (JI 64 (prm i) X 0 1).2 (-1)).2):=by
     rw[ofL,<-hX,<-hY,<-hg];rfl
    have dp:=DH hi6
    generalize prm i=p at hp hS dp
    obtain⟨A,hA⟩:∃A,A=JI 64 p X 0 1:=⟨_,rfl⟩
    have cg:∀(g:Nat->Int)(n:Int),YP 1 (YF (Kw (i:Int) 1) (Xv g n))=[.int .i64 (g i)]:=fun g n=>C4 g n hi6
    rw[<-hA]at hS
    refine Loop.keep [1,2,2,0,0] (Nat×Int×Int) (fun s=>[(0,.int .i64 s.2.1)]) (fun s=>[(1,.box (Xv (X5 g i s.2.2) 1))]) [] (fun s=>A=JI s.1 p s.2.1 s.2.2 1/\1<=s.2.1/\s.2.1<2^s.1/\s.2.1<=1000000000000/\ -1000+s.1<=s.2.2/\s.2.2<=1000-s.1) (fun s=>s.1) ?_ ?_
    ·refine⟨(64,X,0),⟨hA,hx.1,by simp only;omega,hx.2,by simp,by simp⟩,?_⟩
     rw[show X5 g i (64,X,(0:Int)).2.2=g by rw[<-hg0];exact YbO g i]
     dsimp only[go_sem,reduceIte,Ya]
     simp only[Yf]
     exact⟨by decide,YN _ (VV _ _ _)⟩
    ·rintro⟨f,n,c⟩ ⟨hf,n1,n2,n3,c1,c2⟩
     dsimp only at hf n1 n2 n3 c1 c2
     simp only[dp,cg,AK,Yj,go_sem,reduceIte,Ya]
     simp only[Yd,Ya,Ye,reduceCtorEq,Yc]
     have e1:n.tmod p=n%p:=UX (by omega)
     have e2:n.tdiv p=n/p:=Wo (by omega)
     rw[e1]
     obtain⟨q,rfl⟩:∃q,f=q+1:=by
      cases f with
      |zero=>simp at n2;omega
      |succ q=>exact⟨q,rfl⟩
     rw[JI]at hf
     refine⟨⟨by omega,by omega⟩,hi6,by omega,fun hd=>?_,fun hd=>?_⟩
     ·rw[if_pos hd]at hf
      obtain⟨w1,w2,w3⟩:=Ce (by omega) n1 n2 n3 hd
      rw[Do _ _ hi6,AM,e2,Yg (n/p) (by omega),Yg (c+1) (by omega)]
      refine⟨⟨by omega,by omega⟩,hi6,by omega,⟨by omega,by omega⟩,Dm _ _ hi6,⟨by omega,by omega⟩,by rw[Gl,Dn];omega,(q,n/p,c+1),⟨hf,w1,w2,w3,by simp only;omega,by simp only;omega⟩,by simp only;omega,?_⟩
      simp only[Yf]
      exact⟨by decide,YN _ (VV _ _ _)⟩
     ·rw[if_neg hd]at hf
      have hA1:A.1=n:=by rw[hf]
      have hA2:A.2=c:=by rw[hf]
      rw[hA2]at hS
      obtain⟨B,hB⟩:∃B,B=JI 64 p Y c (-1):=⟨_,rfl⟩
      rw[<-hB,hA1]at hS
      have n1':=n1
      have n3':=n3
      have c1': -2000+(64:Int)<=c/\c<=2000-64:=by omega
      clear hf hA n2 e1 e2 c1 c2 hA1 hA2
      refine Loop.keep [0,3,2,0,0] (Nat×Int×Int) (fun s=>[(1,.int .i64 s.2.1)]) (fun s=>[(1,.box (Xv (X5 g i s.2.2) 1))]) [] (fun s=>B=JI s.1 p s.2.1 s.2.2 (-1)/\1<=s.2.1/\s.2.1<2^s.1/\s.2.1<=1000000000000/\ -2000+s.1<=s.2.2/\s.2.2<=2000-s.1) (fun s=>s.1) ?_ ?_
      ·refine⟨(64,Y,c),⟨hB,hy.1,by simp only;omega,hy.2,by simp only;omega,by simp only;omega⟩,?_⟩
       dsimp only[go_sem,reduceIte,Ya]
       simp only[Yf]
       exact⟨by decide,YN _ (VV _ _ _)⟩
      ·obtain⟨N,hN⟩:∃N,N=n:=⟨_,rfl⟩
       rw[<-hN]at n1' n3' hS⊢
       clear hN n1 n3 hd c1' hB
       rintro⟨f,n,c⟩ ⟨hf,n1,n2,n3,c1,c2⟩
       dsimp only at hf n1 n2 n3 c1 c2
       simp only[dp,cg,AK,Yj,go_sem,reduceIte,Ya]
       simp only[Yd,Ya,Ye,reduceCtorEq,Yc]
       have e1:n.tmod p=n%p:=UX (by omega)
       have e2:n.tdiv p=n/p:=Wo (by omega)
       rw[e1]
       obtain⟨q,rfl⟩:∃q,f=q+1:=by
        cases f with
        |zero=>simp at n2;omega
        |succ q=>exact⟨q,rfl⟩
       rw[JI]at hf
       refine⟨⟨by omega,by omega⟩,hi6,by omega,fun hd=>?_,fun hd=>?_⟩
       ·rw[if_pos hd]at hf
        obtain⟨w1,w2,w3⟩:=Ce (by omega) n1 n2 n3 hd
        rw[Do _ _ hi6,AM,e2,Yg (n/p) (by omega),Yg (c-1) (by omega)]
        refine⟨⟨by omega,by omega⟩,hi6,by omega,⟨by omega,by omega⟩,Dm _ _ hi6,⟨by omega,by omega⟩,by rw[Gl,Dn];omega,(q,n/p,c+(-1)),⟨hf,w1,w2,w3,by simp only;omega,by simp only;omega⟩,by simp only;omega,?_⟩
        simp only[Yf]
        exact⟨by decide,YN _ (VV _ _ _)⟩
       ·rw[if_neg hd]at hf
        have hB1:B.1=n:=by rw[hf]
        have hB2:B.2=c:=by rw[hf]
        rw[hB1,hB2]at hS
        refine⟨i+1,⟨by omega,⟨by rw[hS];exact n1',by rw[hS];exact n3'⟩,by rw[hS];exact n1,by rw[hS];exact n3⟩,by omega,?_⟩
        rw[hS,Yg ((i:Int)+1) (by omega)]
        simp only[Yf]
        refine⟨?_,YN _ (VV _ _ _)⟩
        repeat' apply YC
        all_goals first|exact trivial|decide|rfl|omega|exact(K7 (by omega)).symm|simp
   ·obtain rfl:i=6:=by omega
    rw[<-hg]at h
    have hX1:X=1:=by rw[hX];exact h61
    have hY1:Y=1:=by rw[hY];exact h62
    refine⟨fun hh=>?_,fun _=>⟨Yt 7,⟨rfl,by simp [Xv,YP,Jg,one]⟩,Yt 7,?_⟩⟩
    ·rw[hX1,hY1]at hh
     exact absurd hh (by decide)
    ·exact JK (r:=⟨g 0,g 1,g 2,g 3,g 4,g 5,1⟩) h
 ·exact h.1.elim
def Ag:HO:= .own false 1 6 (Jt 1 [SV.int .i64 2,SV.int .i64 3,SV.int .i64 5,SV.int .i64 7,SV.int .i64 11,SV.int .i64 13])
def rtrmC:Ctr:={ alias:=false,of:=fun l=>match l with
 | [.agg [.int .i64 a,.int .i64 b,.int .i64 c,.int .i64 d,.int .i64 e,.int .i64 f,.int .i64 n]]=>
   .pre (Y4 ⟨a,b,c,d,e,f,n⟩=0) (.all Bool fun z=> .fin (.tup [.own 2 0 (Yu ⟨a,b,c,d,e,f,n⟩).length 2,.int .i64 n,.int .i64 0]) [.box [.int .i64 a,.int .i64 b,.int .i64 c,.int .i64 d,.int .i64 e,.int .i64 f,.int .i64 n],Ag,.own z 2 (Yu ⟨a,b,c,d,e,f,n⟩).length (fun k=>Yw ((Yu ⟨a,b,c,d,e,f,n⟩).getD k default))])
 |_=>noC}
theorem YbC:rtrmC.ok Yb 71:=by
 refine S1 Tryz.func71 Yqq RO 300 rtrmC fun args k h=>?_
 simp only[rtrmC]at h
 split at h
 ·rename_i a b c d e f n
  refine⟨[.agg [.int .i64 a,.int .i64 b,.int .i64 c,.int .i64 d,.int .i64 e,.int .i64 f,.int .i64 n]],by simp [leL,le],?_⟩
  obtain⟨r,hr⟩:∃r:Rt,r=⟨a,b,c,d,e,f,n⟩:=⟨_,rfl⟩
  rw[<-hr]at h
  rw[show a=r.a by rw[hr],show b=r.b by rw[hr],show c=r.c by rw[hr],show d=r.d by rw[hr],show e=r.e by rw[hr],show f=r.f by rw[hr],show n=r.n by rw[hr]]at h⊢
  clear hr
  obtain⟨hc,h⟩:=h
  dsimp only[v71,UR4,Yk,chkRC,Ca,go_sem,reduceIte,Ya]
  simp only[Yd,Ya,Ye,reduceCtorEq,Yc]
  refine⟨fun hh=>absurd hc hh,fun _=>⟨by decide,?_⟩⟩
  refine Loop.keep [1,5] (Nat×Bool) (fun s=>[(6,.own 2 0 (tP r s.1).length 2),(8,.int .i64 s.1)]) (fun s=>[(2,.own s.2 2 (tP r s.1).length (fun k=>Yw ((tP r s.1).getD k default)))]) [.gone] (fun s=>s.1<=6/\(s.2=true->(tP r s.1).length=0)) (fun s=>6-s.1) ?_ ?_
  ·refine⟨(0,true),⟨by decide,fun _=>rfl⟩,?_⟩
   dsimp only[tP,Z1,go_sem,reduceIte,Ya]
   simp only[Yf]
   repeat' apply YC
   all_goals first|exact trivial|decide|rfl|omega|exact(K7 (by omega)).symm|simp
  ·rintro⟨i,z⟩ ⟨hi,hz⟩
   dsimp only at hi hz
   dsimp only[Yj,Yw,go_sem,reduceIte,Ya]
   simp only[Yd,Ya,Ye,reduceCtorEq,Yc]
   refine⟨fun hlt=>?_,fun hge=>?_⟩
   ·have hi6:i<6:=by omega
    have hl:=PW r i
    have d1:=Uz r hi6
    have dp:=DH hi6
    simp only[UA r hi6,dp,Yj,Yw,go_sem,reduceIte,Ya]
    simp only[Yd,Ya,Ye,reduceCtorEq,Yc]
    refine⟨⟨by omega,by omega⟩,d1,fun hn=>⟨⟨by omega,by omega⟩,hi6,⟨by omega,by omega⟩,d1,by decide,⟨by unfold Y8;omega,fun k hk=>GD hk⟩,(i+1,false),⟨by simp only;omega,fun hh=>by cases hh⟩,by simp only;omega,?_⟩,fun hn=>⟨(i+1,z),⟨by simp only;omega,fun hh=>by simp only[tP,A5 hn,Wr];exact hz hh⟩,by simp only;omega,?_⟩⟩
    ·simp only[tP,Ycr hn,JO,List.length_singleton]
     rw[Yg ((i:Int)+1) (by omega)]
     simp only[Yf]
     refine⟨by simp,fun k hk=>?_,by simp,fun k hk=>Ut hk⟩
     rcases six hk with rfl|rfl|rfl|rfl|rfl|rfl <;> exact YN _ ⟨trivial,trivial⟩
    ·simp only[tP,A5 hn,Wr]
     rw[Yg ((i:Int)+1) (by omega)]
     simp only[Yf]
     repeat' apply YC
     all_goals first|exact trivial|decide|rfl|omega|exact(K7 (by omega)).symm|simp
   ·obtain rfl:i=6:=by omega
    simp only[Ycl]
    refine⟨h z,⟨trivial,trivial,trivial,trivial⟩,?_⟩
    simp only[Xf,Y5,Y3,Jt,and_true,true_and]
    refine⟨fun k hk=>?_,fun k hk=>trivial⟩
    rcases six hk with rfl|rfl|rfl|rfl|rfl|rfl <;> exact⟨trivial,trivial⟩
 ·exact h.1.elim
end Go.Proofs.YtlhmikjnholpnaaGreatDoor
namespace Go.Proofs.YtlhmikjnholpnaaGreatDoor.Q
open Go Go.Vx
set_option maxRecDepth 100000
set_option maxHeartbeats 4000000
def v56:VF:=⟨18,[.tmp 6],(ZR [Zi 6 0] (ZR [u1 7 (.buildSlice 2 0 Z2 []) [],Zm 8 0,u1 9 (.append 2 16 Z2) [.tm 7,.tm 8],Zm 10 1,u1 11 .neg [.tm 10],Zm 12 2,Zo 13 .mul 11 12,u1 14 (.build Z2 [(0,1),(1,1)]) [.cn (.int .i64 2),.tm 13],u1 15 (.buildSlice 2 1 Z2 [(0,2)]) [.tm 14],u1 16 (.append 2 16 Z2) [.tm 9,.tm 15],Zc 17 91 16,Zm 6 17] .ret))⟩
theorem Yp9:Yn Yb Tryz.f56=some v56:=by kernel_rfl
def v59:VF:=⟨22,[.cell 4 true 2],(ZR [u1 2 .box [.tm 0],u1 4 (.allocArr 2 1 [.nil,.nil]) []] (.seq (ZR [Zm 6 1,Zq 7 .gtr 6 0] (ZC 7 (ZR [Zm 8 1,Zc 9 93 8,u1 10 (.call 96) [.tm 9,.cn (.int .i64 60)],Zm 5 10] (ZR [u1 11 (.idxArr 2 1) [.tm 2,.cn (.int .i64 0)],Zf 12 1 11,Zm 13 5,Zd 14 86 12 13,u1 15 (.idxArr 2 1) [.tm 2,.cn (.int .i64 0)],Zs 1 15 14] (.region [u1 16 (.idxArr 2 1) [.tm 2,.cn (.int .i64 1)],Zf 17 1 16,Zm 18 5,Zd 19 86 17 18,u1 20 (.idxArr 2 1) [.tm 2,.cn (.int .i64 1)],Zs 1 20 19]))) .skip)) (ZR [Zt 21 2 2,Zs 2 4 21] .ret)))⟩
theorem Yqc:Yn Yb Tryz.f59=some v59:=by kernel_rfl
def expC:Ctr:={ alias:=false,of:=fun l=>match l with
 | [.vs _ _ n sz get,.int .i64 m,.int .i64 den]=> .ex (List (Int×Int)) fun l=> .pre (lsP 2 Yw n sz get l/\(∀x,x∈l->okU x)/\n<=18/\(-1000000000001<=m/\m<=1000000000001)/\(1<=den/\den<=1000)/\Dec (atG l den m)) (.fin (.int .i64 (sgn (atG l den m))) [])
 |_=> .pre False (.fin (.int .i64 0) [])}
theorem LA{m den:Int}(hm: -1000000000001<=m/\m<=1000000000001)(hd:1<=den/\den<=1000): -1000000000001000<=m*den/\m*den<=1000000000001000:=by
 have:=Jv (x:=m) (y:=den) (X:=1000000000001) (Y:=1000) (by omega) (by omega)
 omega
theorem atG_okU{l:List (Int×Int)}{den m:Int}(hl:∀x,x∈l->okU x)(hm: -1000000000001<=m/\m<=1000000000001)(hd:1<=den/\den<=1000):∀x,x∈atG l den m->okU x:=by
 intro x hx
 rw[atG,Ky,Jj]at hx
 rcases hx with hx|rfl
 ·exact hl x hx
 ·have:=LA hm hd
  have e: -m*den= -(m*den):=Int.neg_mul _ _
  unfold okU
  simp only[e]
  omega
theorem YgS{l:List (Int×Int)}{den m:Int}{hp:List HO}{r:List SV->List SV}{i:Nat}:
 lsP 2 Yw (l.length+1) 2 (fun k=>Jw false hp r (if k<l.length then YU i [SV.int IntKind.i64 (l.getD k default).fst,SV.int IntKind.i64 (l.getD k default).snd]else YU i (YP 2 (YF ((k-l.length)*2) [SV.int IntKind.i64 2,SV.int IntKind.i64 (-m*den)])))) (atG l den m):=by
 refine⟨rfl,by simp [atG],fun k hk=>?_⟩
 unfold atG
 dsimp only
 by_cases h1:k<l.length
 ·rw[if_pos h1,Kh (l:=_++_),QY h1,<-Kh]
  exact YW _
 ·rw[if_neg h1,show k-l.length=0 by omega,Kh (l:=_++_),Z0 (by omega),show k-l.length=0 by omega]
  exact YW _
def QG0:Env:=mkE [(91,signC)] []
theorem YdY:YD Yb QG0:=eo (by kernel_rfl) ⟨⟨Ya2,_,Tryz.func91,rfl,rfl⟩,trivial⟩ trivial
theorem YlC:expC.ok Yb 56:=by
 refine Yy Tryz.func56 Yp9 YdY 500 expC fun args k h=>?_
 simp only[expC]at h
 split at h
 ·rename_i tt z n sz get m den
  obtain⟨l,⟨⟨rfl,rfl,hg⟩,hl,hn,hm,hden,hdec⟩,h⟩:=h
  refine⟨[.vs tt z l.length 2 (fun k=>Yw (l.getD k default)),.int .i64 m,.int .i64 den],⟨⟨id,rfl,rfl,rfl,hg⟩,⟨rfl,rfl⟩,⟨rfl,rfl⟩,trivial⟩,?_⟩
  dsimp only[v56,QG0,Yk,signC,Yw,go_sem,reduceIte,Ya]
  simp only[Yd,Ya,Ye,reduceCtorEq,Yc]
  have hb:=LA hm hden
  have e: -m*den= -(m*den):=Int.neg_mul _ _
  have hnd:IntKind.i64.wrap (IntKind.i64.wrap (0-m)*den)= -m*den:=by
   rw[Yg (0-m) (by omega),Int.zero_sub,Yg _ (by omega)]
  rw[hnd]
  simp only[KJ,J8,if_false,Nat.sub_zero]
  refine⟨by decide,by unfold Y8;omega,by decide,⟨by unfold Y8;omega,fun k hk=>?_⟩,atG l den m,⟨YgS,atG_okU hl hm hden,by omega,hdec⟩,Kb h⟩
  obtain rfl:k=0:=by omega
  exact⟨rfl,trivial,trivial,trivial⟩
 ·exact h.1.elim
def LE(z:Bool)(a:Nat):SV:= .vs false z (nl a) 1 (fun k=>[.int .i64 (dig a k)])
def movC:Ctr:={ alias:=true,of:=fun l=>match l with
 | [.agg [.vs _ _ n0 s0 g0,.vs _ _ n1 s1 g1],.int .i64 n]=> .ex Nat fun a=> .ex Nat fun b=> .pre ((K9 a n0 s0 g0/\n0=nl a)/\(K9 b n1 s1 g1/\n1=nl b)/\(n0<=300/\n1<=300)/\ -1000000000001000<=n/\n<=1000000000001000)
     (.all Bool fun y0=> .all Bool fun y1=> .fin (.agg [LE y0 (a+n.toNat*2^60),LE y1 (b+n.toNat*2^60)]) [])
 |_=>noC}
def QG1:Env:=mkE [(93,limbsC),(96,shiftC),(86,addC)] []
theorem YdZ:YD Yb QG1:=eo (by kernel_rfl) ⟨⟨Aw,_,Tryz.func93,rfl,rfl⟩,⟨Ya1,_,Tryz.func96,rfl,rfl⟩,⟨Nt,_,Tryz.func86,rfl,rfl⟩,trivial⟩ trivial
theorem YlF:movC.ok Yb 59:=by
 refine Yy Tryz.func59 Yqc YdZ 500 movC fun args k h=>?_
 simp only[movC]at h
 split at h
 ·rename_i t0 z0 n0 s0 g0 t1 z1 n1 s1 g1 n
  obtain⟨a,b,⟨⟨⟨rfl,p0,p1,p2⟩,rfl⟩,⟨⟨rfl,q0,q1,q2⟩,rfl⟩,hn,hnb⟩,h⟩:=h
  refine⟨[.agg [GA t0 z0 a,GA t1 z1 b],.int .i64 n],⟨⟨⟨id,rfl,rfl,rfl,p2⟩,⟨id,rfl,rfl,rfl,q2⟩,trivial⟩,⟨rfl,rfl⟩,trivial⟩,?_⟩
  dsimp only[v59,QG1,Yk,limbsC,shiftC,addC,Yv,GA,Yj,go_sem,reduceIte,Ya]
  simp only[Yd,Ya,Ye,reduceCtorEq,Yc]
  have hN:n.toNat*2^60<2^112:=by
   have e:(2:Nat)^112=2^52*2^60:=by rw[<-Yo]
   rw[e]
   exact ZB (by omega) (QC 60)
  have n1:nl (n.toNat*2^60)<=300:=Ua hN (by decide)
  have n2:nl n.toNat<=300:=Ua (JC (Nat.le_mul_of_pos_right _ (QC 60)) hN) (by decide)
  refine⟨fun hp=>⟨⟨by omega,by omega⟩,n.toNat,⟨YO (by omega),by omega,by decide,by decide⟩,by decide,a,n.toNat*2^60,⟨YO (by omega),YO (show nl (n.toNat*2^60)<=_ by omega),by omega,show nl (n.toNat*2^60)<=_ by omega⟩,by decide,by decide,b,n.toNat*2^60,⟨YO (by omega),YO (show nl (n.toNat*2^60)<=_ by omega),by omega,show nl (n.toNat*2^60)<=_ by omega⟩,by decide,by decide,?_⟩,fun hp=>⟨by decide,?_⟩⟩
  ·exact Kv (show k _ []from h false false) ⟨⟨(fun hh=>by cases hh),rfl,rfl,rfl,fun k hk=>YW _⟩,⟨(fun hh=>by cases hh),rfl,rfl,rfl,fun k hk=>YW _⟩,trivial⟩ (fun hh=>by cases hh)
  ·have e0:n.toNat=0:=by omega
   rw[e0,JP,KO,KO]at h
   exact Kv (show k _ []from h z0 z1) ⟨⟨(fun hh=>by cases hh),rfl,rfl,rfl,fun k hk=>YW _⟩,⟨(fun hh=>by cases hh),rfl,rfl,rfl,fun k hk=>YW _⟩,trivial⟩ (fun hh=>by cases hh)
 ·exact h.1.elim
end Go.Proofs.YtlhmikjnholpnaaGreatDoor.Q
