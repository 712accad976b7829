/- Roots of 2 one after the other, evaluated: none is nearly a whole number, but for powers of 2. -/
import Derived.Test.YtfjodiojchknmaaGreatDoorMgX37f
import Derived.Test.YtfjodiojchknmaaGreatDoorMgX37g
import Derived.Test.YtfjodiojchknmaaGreatDoorMgX37d
import Derived.LaidMore
import Derived.OpenShut
import Derived.Stop.Joined
import Derived.Deep.Slices
import Derived.Test.YtfjodiojchknmaaGreatDoorRows
import Derived.Test.YtfjodiojchknmaaGreatDoorCards
import Derived.Test.YtfjodiojchknmaaGreatDoorTie
import Derived.ProofKit
import Derived.SevenTiedAt
open And renaming intro->YC1
open Array renaming getElem?_eq_some_iff->YDe
open Bool renaming and_eq_true->YCV,false_eq_true->YDu,or_eq_false_iff->YDm,or_eq_true->YDG
open Int renaming mul_le_mul_of_nonneg_left->YDg,mul_nonneg->YC8,toNat_natCast->YCP,toNat_of_nonneg->YDk
open Go.IntWalk renaming i64_in->YCQ
open List renaming length_append->YDy,length_cons->YDI,map_cons->YDd,mem_append->YDi,mem_cons->YDq,mem_cons_of_mem->YC3,mem_cons_self->YC6,mem_map->YDP,mem_singleton->YDv
open Nat renaming add_mul->YDb,div_add_mod->YDJ,div_mul_le_self->YDE,eq_zero_or_pos->YDw,gcd->YDC,le_of_ble_eq_true->YDp,le_of_eq->YDO,le_of_mul_le_mul_right->YDc,le_refl->YCY,le_trans->YC4,lt_of_le_of_lt->YDB,lt_of_lt_of_le->YDz,lt_or_ge->YDs,mod_lt->YDK,mul_add->YDM,mul_assoc->YCW,mul_comm->YCX,mul_le_mul->YC9,mul_le_mul_left->YCU,mul_le_mul_right->YCT,mul_left_comm->YDh,mul_one->YDN,mul_pos->YDo,mul_pow->YDj,one_mul->YDx,pow_add->YCZ,pow_le_pow_left->YC2,pow_le_pow_right->YDf,pow_mul->YC5,pow_pos->YDl,pow_succ->YDa,reduceAdd->YCL,reduceEqDiff->YCM,reduceLeDiff->YCN,zero_add->YDH
open Go.Proofs.Tryz renaming prog->YCS
set_option linter.all false
namespace Go.Proofs.YtfjodiojchknmaaGreatDoor
open Go Go.Vx
def upR(R:Nat):Nat->Nat->Nat
 |0,u=>u
 |i+1,u=>upR R i (u*u/R+1)
def dnR(R:Nat):Nat->Nat->Nat
 |0,u=>u
 |i+1,u=>dnR R i (u*u/R)
theorem Ycx(a i:Nat):a^(2^(i+1))=(a*a)^(2^i):=Ynu a i
theorem Yu4{R:Nat}(hR:0<R):∀(i u X Y:Nat),X*R<=u*Y->X^(2^i)*R<=upR R i u*Y^(2^i)
 |0,u,X,Y,h=>by simpa [upR]using h
 |i+1,u,X,Y,h=>by
   rw[upR,Ycx,Ycx]
   refine Yu4 hR i _ _ _ ?_
   refine YDc (c:=R) ?_ hR
   have k:=YC9 h h
   have k0:u*u<=(u*u/R+1)*R:=by
     have:=YDJ (u*u) R
     have h3:=YDK (u*u) hR
     rw[YDb,YDx,YCX (u*u/R)];omega
   have k1:=YCT (Y*Y) k0
   have e1:X*R*(X*R)=X*X*R*R:=by simp only[YCW,YDh]
   have e2:u*Y*(u*Y)=u*u*(Y*Y):=by simp only[YCW,YDh]
   have e3:(u*u/R+1)*(Y*Y)*R=(u*u/R+1)*R*(Y*Y):=Nat.mul_right_comm ..
   omega
theorem Yur{R:Nat}(hR:0<R):∀(i u X Y:Nat),u*Y<=X*R->dnR R i u*Y^(2^i)<=X^(2^i)*R
 |0,u,X,Y,h=>by simpa [dnR]using h
 |i+1,u,X,Y,h=>by
   rw[dnR,Ycx,Ycx]
   refine Yur hR i _ _ _ ?_
   refine YDc (c:=R) ?_ hR
   have k:=YC9 h h
   have k1:=YCT (Y*Y) (YDE (u*u) R)
   have e1:X*R*(X*R)=X*X*R*R:=by simp only[YCW,YDh]
   have e2:u*Y*(u*Y)=u*u*(Y*Y):=by simp only[YCW,YDh]
   have e3:u*u/R*(Y*Y)*R=u*u/R*R*(Y*Y):=Nat.mul_right_comm ..
   omega
theorem RtJ.up{R J x y m:Nat}(d:Nat)(h:RtJ R J x y m):RtJ R (J+d) x y (m*2^d):=by
 obtain⟨h1,h2⟩:=h
 unfold RtJ
 have k1:=YC2 h1 (2^d)
 have k2:=YC2 h2 (2^d)
 rw[YDj,<-YC5,<-YC5,<-YC5,<-YCZ]at k1 k2
 exact⟨k1,k2⟩
theorem RtJ.le{R J x y m B:Nat}(h:RtJ R J x y m)(hm:m<=B*2^J):x<=2^B*R:=by
 have hQ:=Y3 J
 rw[<-Nat.pow_le_pow_iff_left (show 2^J≠0 by omega),YDj,<-YC5]
 exact YC4 h.1 (YCT _ (YDf (by decide) hm))
def sq(n:Nat)(f:Nat->Bool):Bool:=Nat.rec (f 0) (fun k _=>f (Nat.succ k)) n
theorem Ynn{J J' n:Nat}(h:YbK J n)(h1:J<=J')(h2:J'<=2048):(lN n 2048).2<=(lN n 2048).1+2^(J'-J)*2^(2048-J'):=by
 rw[<-YCZ,show J'-J+(2048-J')=2048-J by omega]
 exact h
theorem Ygu:∀q,q<62->YaY ((2^q:Nat):Int)=true:=by decide
def farJ(J n:Nat):Prop:=∀m,¬Near (2^4160) (2^2160) J n m
theorem YdC{J n:Nat}(hJ:J<=500)(h1:1<=n)(h2:n<2^61)(h:(∃q,n=2^q)\/farJ J n):YbK J n:=by
 rcases Yq5 h1 (Nat.lt_trans h2 (by decide)) hJ with hn| ⟨hp,m,hm⟩
 . exact hn
 . exfalso
   rcases h with⟨q,hq⟩ |h
   . have hq2:q<61:=(Nat.pow_lt_pow_iff_right (show 1<2 by decide)).1 (by rw[<-hq];exact h2)
     rw[hq,Ygu q (by omega)]at hp
     cases hp
   . exact h m hm
end Go.Proofs.YtfjodiojchknmaaGreatDoor
set_option maxRecDepth 100000
namespace Go.Proofs.YtfjodiojchknmaaGreatDoor.LB
theorem YAu{P:Nat}{n a c:Nat}(hP:2*kap^P<=(kap+1)^P)(h:2^c*(kap+1)^a<=n*kap^a):2^(c*P+a)<=n^P:=by
 have h1:=YC2 hP a
 have h2:=YC2 h P
 rw[YDj,<-YC5,<-YC5]at h1
 rw[YDj,YDj,<-YC5,<-YC5,<-YC5,YCX a P]at h2
 have hk:0<kap^(P*a):=YDl (by decide)
 refine YDc (c:=kap^(P*a)) ?_ hk
 rw[YCZ,YCW]
 exact YC4 (YCU _ h1) h2
theorem Yz1{P:Nat}{n b c:Nat}(hP:(kap+2)^P<=2*(kap+1)^P)(h:n*(kap+1)^b<=2^c*(kap+2)^b):n^P<=2^(c*P+b):=by
 have h1:=YC2 hP b
 have h2:=YC2 h P
 rw[YDj,<-YC5,<-YC5]at h1
 rw[YDj,YDj,<-YC5,<-YC5,<-YC5,YCX b P]at h2
 have hk:0<(kap+1)^(P*b):=YDl (by decide)
 refine YDc (c:=(kap+1)^(P*b)) ?_ hk
 rw[YCZ,YCW]
 exact YC4 h2 (YCU _ h1)
theorem Yr5{M W:Nat}:∀k,k*W<=M->(M-k*W)*(M+W)^k<=M^k*M
 |0,_=>by simp
 |k+1,h=>by
   rw[YDb,YDx]at h
   have ih:=Yr5 (M:=M) (W:=W) k (by omega)
   rw[YDa,YDa]
   obtain⟨x,hx⟩:∃x,M=(k+1)*W+x:=⟨M-(k+1)*W,by rw[YDb,YDx];omega⟩
   have e1:M-(k+1)*W=x:=by omega
   have e2:M-k*W=W+x:=by rw[YDb,YDx]at hx;omega
   rw[e1]
   rw[e2]at ih
   have h3:x*(M+W)<=(W+x)*M:=by
     have:x*(M+W)=x*M+x*W:=YDM ..
     have:(W+x)*M=W*M+x*M:=YDb ..
     have:x*W<=W*M:=by rw[YCX];exact YCU W (by omega)
     omega
   have h4:=YCU ((M+W)^k) h3
   have h5:=YCT M ih
   generalize(M+W)^k=p at*
   generalize M^k=r at*
   have e3:x*(p*(M+W))=p*(x*(M+W)):=by rw[YDh]
   have e4:p*((W+x)*M)=(W+x)*p*M:=by rw[YDh,YCW]
   omega
theorem Yp0{M W:Nat}(hWM:W<=M):∀k,k*W<=M->M^k*(M-k*W)<=(M-W)^k*M
 |0,_=>by simp
 |k+1,h=>by
   rw[YDb,YDx]at h
   have ih:=Yp0 hWM k (by omega)
   rw[YDa,YDa]
   obtain⟨V,hV⟩:∃V,M=W+V:=⟨M-W,by omega⟩
   have e0:M-W=V:=by omega
   obtain⟨x,hx⟩:∃x,M=(k+1)*W+x:=⟨M-(k+1)*W,by rw[YDb,YDx];omega⟩
   have e1:M-(k+1)*W=x:=by omega
   have e2:M-k*W=W+x:=by rw[YDb,YDx]at hx;omega
   rw[e1,e0]
   rw[e2,e0]at ih
   have h3:M*x<=(W+x)*V:=by
     have:M*x=W*x+V*x:=by rw[hV,YDb]
     have:(W+x)*V=W*V+x*V:=YDb ..
     have:W*x<=W*V:=YCU W (by rw[YDb,YDx]at hx;omega)
     have:V*x=x*V:=YCX ..
     omega
   have h4:=YCU (M^k) h3
   have h5:=YCT V ih
   generalize V^k=p at*
   generalize M^k=r at*
   have e3:r*M*x=r*(M*x):=YCW ..
   have e4:r*((W+x)*V)=r*(W+x)*V:=by rw[YCW]
   have e5:p*V*M=p*M*V:=Nat.mul_right_comm ..
   omega
theorem near_pow{M W Z P m:Nat}(hM:2*(P*W)<=M)(hP:1<=P)(hM0:0<M)(h1:2^m*M<=Z*M+2^m*W)(h2:Z*M<=2^m*(M+W)):2^(m*P)<=2*Z^P/\Z^P<=2*2^(m*P):=by
 have hPW:W<=P*W:=Nat.le_mul_of_pos_left W hP
 have u:=Yr5 (M:=M) (W:=W) P (by omega)
 have d:=Yp0 (M:=M) (W:=W) (by omega) P (by omega)
 have hMP:0<M^P:=YDl hM0
 have h1':2^m*(M-W)<=Z*M:=by rw[Nat.mul_sub];omega
 have k1:=YC2 h1' P
 have k2:=YC2 h2 P
 rw[YDj,YDj,<-YC5]at k1 k2
 generalize 2^(m*P)=A at*
 generalize Z^P=B at*
 generalize(M+W)^P=C at*
 generalize(M-W)^P=D at*
 generalize M^P=E at*
 constructor
 . --A E M <=A 2 (M-PW) E <=2 A D M <=2 B E M
   refine YDc (c:=E*M) ?_ (YDo hMP hM0)
   have a1:M<=2*(M-P*W):=by omega
   have a2:=YCU (A*E) a1
   have a3:=YCU A d
   have a4:=YCT M k1
   generalize M-P*W=V at*
   grind
 . refine YDc (c:=E*M) ?_ (YDo hMP hM0)
   have a1:M<=2*(M-P*W):=by omega
   have a2:=YCU (A*C) a1
   have a3:=YCU A u
   have a4:=YCT M k2
   generalize M-P*W=V at*
   grind
theorem pow_of_le{a b:Nat}(h:2^a<=2^b):a<=b:=(Nat.pow_le_pow_iff_right (show 1<2 by decide)).1 h
theorem Yqg{n F J P x y m:Nat}(hxy:y+P+1<=x)(hF:F=J+P)(hJ:J=48)(hP:P=64)(hU:2*kap^(2^F)<=(kap+1)^(2^F))(hL:(kap+2)^(2^F)<=2*(kap+1)^(2^F))(h:Good n)(hm:Near (2^x) (2^y) J n m):False:=by
 obtain⟨a,b,q,l,u,h1,h2⟩:=h
 have k1:=YAu hU l
 have k2:=Yz1 hL u
 have e:n^(2^F)=(n^(2^J))^(2^P):=by rw[<-YC5,hF,YCZ]
 rw[e]at k1 k2
 have hbig:2*(2^P*2^y)<=2^x:=by
   rw[<-YCZ,<-Nat.pow_succ']
   exact YDf (by decide) (by omega)
 obtain⟨g1,g2⟩:=near_pow (P:=2^P) hbig (Nat.two_pow_pos P) (Y3 x) hm.1 hm.2
 have c1:2^(28*2^F+a)<=2^(m*2^P+1):=by rw[YDa];omega
 have c2:2^(m*2^P)<=2^(28*2^F+b+1):=by rw[YDa];omega
 have d1:=pow_of_le c1
 have d2:=pow_of_le c2
 clear c1 c2 g1 g2 k1 k2 e hm l u hU hL hbig hxy
 subst hJ hP hF
 have:(2:Nat)^(48+64)=2^48*2^64:=YCZ ..
 omega
theorem Ytc{n F J P:Nat}(hF:F=J+P)(hJ:J=48)(hP:P=64)(hU:2*kap^(2^F)<=(kap+1)^(2^F))(hL:(kap+2)^(2^F)<=2*(kap+1)^(2^F))(h:Good n):farJ J n:=
 fun _ hm=>Yqg (by omega) hF hJ hP hU hL h hm
theorem Ys4{J n:Nat}(h:farJ J (2*n)):farJ J n:=by
 intro m hm
 refine h (2^J+m) ?_
 obtain⟨h1,h2⟩:=hm
 unfold Near
 rw[YDj,YCZ]
 generalize(2:Nat)^4160=M at*
 generalize(2:Nat)^2160=W at*
 generalize 2^2^J=Q at*
 generalize n^2^J=X at*
 generalize 2^m=R at*
 have k1:=YCU Q h1
 have k2:=YCU Q h2
 constructor
 . grind
 . grind
theorem Ypo{J:Nat}(h:∀n,2^28<n->n<2^29->farJ J n):∀k n,2^28<=n*2^k->n*2^k<2^29->(∃q,n=2^q)\/farJ J n
 |0,n,h1,h2=>by
   by_cases c:n=2^28
   . exact Or.inl ⟨28,c⟩
   . exact Or.inr (h n (by omega) (by omega))
 |k+1,n,h1,h2=>by
   have e:n*2^(k+1)=2*n*2^k:=by rw[YDa];grind
   rw[e]at h1 h2
   rcases Ypo h k (2*n) h1 h2 with⟨q,hq⟩ |hf
   . cases q with
     |zero=>omega
     |succ q=>exact Or.inl ⟨q,by rw[YDa]at hq;omega⟩
   . exact Or.inr (Ys4 hf)
theorem YsD{J:Nat}(h:∀n,2^28<n->n<2^29->farJ J n){n:Nat}(h1:1<=n)(h2:n<2^29):(∃q,n=2^q)\/farJ J n:=by
 have hlog:∃k,2^28<=n*2^k/\n*2^k<2^29:=by
   have:∀j,j<=29->∀n,1<=n->n<2^29->2^(29-j)<=2*n->∃k,2^28<=n*2^k/\n*2^k<2^29:=by
     intro j
     induction j with
     |zero=>intro _ n _ h2 h3;exact⟨0,by omega,by omega⟩
     |succ j ih=>
       intro hj n h1 h2 h3
       by_cases c:2^28<=n
       . exact⟨0,by omega,by omega⟩
       . obtain⟨k,k1,k2⟩:=ih (by omega) (2*n) (by omega) (by omega) (by
           have:29-j=29-(j+1)+1:=by omega
           rw[this,YDa];omega)
         exact⟨k+1,by rw[YDa];grind,by rw[YDa];grind⟩
   exact this 29 (YCY _) n h1 h2 (by simp;omega)
 obtain⟨k,k1,k2⟩:=hlog
 exact Ypo h k n k1 k2
theorem YzO{R d a b:Nat}(hR:0<R)(h:d*a<=b*R)(h2:2*R<=d):2*a<=b:=by
 refine YDc (c:=R) ?_ hR
 have h3:=YCT a h2
 have e:2*a*R=2*R*a:=Nat.mul_right_comm ..
 omega
theorem YB0{R d a b:Nat}(hR:0<R)(h:a*R<=d*b)(h2:d<=2*R):a<=2*b:=by
 refine YDc (c:=R) ?_ hR
 have h3:=YCT b h2
 have e:2*b*R=2*R*b:=Nat.mul_right_comm ..
 omega
theorem hU{F:Nat}(hF:F=112):2*kap^(2^F)<=(kap+1)^(2^F):=by
 subst hF
 exact YzO (R:=2037035976334486086268445688409378161051468393665936250636140449354381299763336706183397376) (by decide) (Yur (R:=2037035976334486086268445688409378161051468393665936250636140449354381299763336706183397376) (by decide) 112 2037035976334486086268445688409378432986179016867039655483833588404070672507063007306623016 (kap+1) kap (by decide+kernel)) (by decide+kernel)
theorem hL{F:Nat}(hF:F=112):(kap+2)^(2^F)<=2*(kap+1)^(2^F):=by
 subst hF
 exact YB0 (R:=2037035976334486086268445688409378161051468393665936250636140449354381299763336706183397376) (by decide) (Yu4 (R:=2037035976334486086268445688409378161051468393665936250636140449354381299763336706183397376) (by decide) 112 2037035976334486086268445688409378432986179016867039655483833588404034370503710671025638499 (kap+2) (kap+1) (by decide+kernel)) (by decide+kernel)
theorem far48{n:Nat}(h1:1<=n)(h2:n<2^29):(∃q,n=2^q)\/farJ 48 n:=
 YsD (fun n a b=>Ytc (F:=112) (P:=64) rfl rfl rfl (hU rfl) (hL rfl) (YsE a b)) h1 h2
end Go.Proofs.YtfjodiojchknmaaGreatDoor.LB
namespace Go.Proofs.YtfjodiojchknmaaGreatDoor
theorem Ynm{n:Nat}(h1:1<=n)(h2:n<2^29):YbK 48 n:=YdC (by decide) h1 (Nat.lt_trans h2 (by decide)) (LB.far48 h1 h2)
end Go.Proofs.YtfjodiojchknmaaGreatDoor
namespace Go.Proofs.YtfjodiojchknmaaGreatDoor
open Go Go.Vx
set_option maxRecDepth 100000
theorem Ys5{n J P a b q x y m:Nat}(hxy:y+P+1<=x)(hP:2<=P)(l:2^a<=n^(2^(J+P)))(u:n^(2^(J+P))<=2^b)(h1:q*2^P+2<=a)(h2:b+2<=(q+1)*2^P)(hm:Near (2^x) (2^y) J n m):False:=by
 have e:n^(2^(J+P))=(n^(2^J))^(2^P):=by rw[<-YC5,YCZ]
 rw[e]at l u
 have hbig:2*(2^P*2^y)<=2^x:=by
   rw[<-YCZ,<-Nat.pow_succ']
   exact YDf (by decide) (by omega)
 obtain⟨g1,g2⟩:=LB.near_pow (P:=2^P) hbig (Nat.two_pow_pos P) (Y3 x) hm.1 hm.2
 have c1:2^a<=2^(m*2^P+1):=by rw[YDa];omega
 have c2:2^(m*2^P)<=2^(b+1):=by rw[YDa];omega
 have d1:=LB.pow_of_le c1
 have d2:=LB.pow_of_le c2
 have hQ:=Y3 P
 generalize 2^P=Q at*
 rcases YDs q m with h|h
 . have:=YCT Q (show q+1<=m from h)
   omega
 . have:=YCT Q h
   omega
def glT(D f n:Nat):Nat×Nat:=gl (2^D) false f (n*2^(D-lgK n)) (n*2^(D-lgK n)) (lgK n)
theorem Yqe{D f n:Nat}(h1:1<=n)(hD:lgK n<=D):2^(glT D f n).1<=n^(2^f)/\n^(2^f)<=2^(glT D f n).2:=by
 obtain⟨m1,m2,m3⟩:=mant (D:=D) h1 hD
 exact Yiy _ false (YDl (by decide)) f _ _ _ n (YDO m3) (YDO m3.symm) m1 (Nat.le_of_lt m2)
def glOk(D f P n:Nat):Bool:=Nat.ble ((glT D f n).1/2^P*2^P+2) (glT D f n).1&&Nat.ble ((glT D f n).2+2) (((glT D f n).1/2^P+1)*2^P)&&Nat.ble (lgK n) D
theorem Ytb{D J P n:Nat}(hP:2<=P/\P<=1000)(h1:1<=n)(h:glOk D (J+P) P n=true):farJ J n:=by
 intro m hm
 simp only[glOk,YCV]at h
 have a:=YDp h.1.1
 have b:=YDp h.1.2
 have c:=YDp h.2
 obtain⟨l,u⟩:=Yqe (f:=J+P) h1 c
 exact Ys5 (by omega) hP.1 l u a b hm
theorem YhG{D J P n:Nat}(hP:2<=P/\P<=1000)(hJ:J<=500)(h1:1<=n)(h2:n<2^61)(h:glOk D (J+P) P n=true):YbK J n:=YdC hJ h1 h2 (Or.inr (Ytb hP h1 h))
theorem nar_3:YbK 100 3:=YhG (D:=400) (J:=100) (P:=70) (by decide) (by decide) (by decide) (by decide) (by decide+kernel)
theorem nar_5:YbK 100 5:=YhG (D:=400) (J:=100) (P:=70) (by decide) (by decide) (by decide) (by decide) (by decide+kernel)
theorem nar_7:YbK 100 7:=YhG (D:=400) (J:=100) (P:=70) (by decide) (by decide) (by decide) (by decide) (by decide+kernel)
theorem YAC:YbK 100 11:=YhG (D:=400) (J:=100) (P:=70) (by decide) (by decide) (by decide) (by decide) (by decide+kernel)
theorem YAD:YbK 100 13:=YhG (D:=400) (J:=100) (P:=70) (by decide) (by decide) (by decide) (by decide) (by decide+kernel)
theorem nar_c:YbK 48 331300000000:=YhG (D:=400) (J:=48) (P:=70) (by decide) (by decide) (by decide) (by decide) (by decide+kernel)
theorem Ys9:∀n m:Nat,n^4=2^m->∃q,n=2^q:=by
 intro n
 induction n using Nat.strongRecOn with
 |_ n ih=>
   intro m h
   by_cases h1:n<=1
   . refine⟨0,?_⟩
     rcases(show n=0\/n=1 by omega)with rfl|rfl
     . have:=Y3 m
       simp at h
       omega
     . rfl
   . have hm:4<=m:=by
       refine Nat.le_of_not_lt fun hh=>?_
       have a:=YC2 (show 2<=n by omega) 4
       have b:(2:Nat)^m<2^4:=(Nat.pow_lt_pow_iff_right (by decide)).2 hh
       omega
     obtain⟨d,rfl⟩:∃d,m=d+4:=⟨m-4,by omega⟩
     rw[YCZ]at h
     have hev:n%2=0:=by
       refine Classical.byContradiction fun ho=>?_
       obtain⟨j,rfl⟩:∃j,n=2*j+1:=⟨n/2,by omega⟩
       have e:(2*j+1)^4=2*(8*j^4+16*j^3+12*j^2+4*j)+1:=by grind
       omega
     obtain⟨j,rfl⟩:∃j,n=2*j:=⟨n/2,by omega⟩
     rw[YDj]at h
     have h2:j^4=2^d:=by omega
     obtain⟨q,hq⟩:=ih j (by omega) d h2
     exact⟨q+1,by rw[hq,YDa,YCX]⟩
theorem Ylh{n x y d m:Nat}(hx:x=y+d)(hd:300<=d)(h2:n<2^41)(hm:Near (2^x) (2^y) 2 n m):∃q,n=2^q:=by
 obtain⟨a,b⟩:=hm
 have hW:=Y3 y
 have e:(2:Nat)^x=2^y*2^d:=by rw[hx,YCZ]
 rw[e]at a b
 have h4:n^2^2=n^4:=rfl
 rw[h4]at a b
 have hn4:n^4<2^164:=by
   have:=Nat.pow_lt_pow_left h2 (show 4≠0 by decide)
   rwa [<-YC5]at this
 have hD:(2:Nat)^300<=2^d:=YDf (by decide) hd
 have h3:(2:Nat)^165*2^135=2^300:=rfl
 generalize hN:n^4=N at*
 generalize 2^y=W at*
 generalize hDD:(2:Nat)^d=D at*
 generalize hR:(2:Nat)^m=R at*
 have a':R*D<=N*D+R:=by
   refine Nat.le_of_mul_le_mul_left (c:=W) ?_ hW
   grind
 have b':N*D<=R*D+R:=by
   refine Nat.le_of_mul_le_mul_left (c:=W) ?_ hW
   grind
 have hRs:R<2^165:=by
   refine Nat.lt_of_not_le fun hh=>?_
   have k1:=YCT D (show N+1<=2^164 from hn4)
   have k2:=YCT D hh
   have k3:2*R<=R*D:=by
     have:2<=D:=by omega
     rw[YCX R D];exact YCT R this
   have e1:(N+1)*D=N*D+D:=by rw[YDb,YDx]
   have e2:(2:Nat)^165*D=2*(2^164*D):=by rw[YDa,Nat.mul_right_comm,YCX 2]
   have:0<D:=by omega
   omega
 have c1:R<=N:=by
   refine Nat.le_of_not_lt fun hh=>?_
   have:=YCT D (show N+1<=R from hh)
   rw[YDb,YDx]at this
   omega
 have c2:N<=R:=by
   refine Nat.le_of_not_lt fun hh=>?_
   have:=YCT D (show R+1<=N from hh)
   rw[YDb,YDx]at this
   omega
 exact Ys9 n m (by rw[hN,hR];omega)
theorem YwD{n:Nat}(h1:1<=n)(h2:n<2^41):YbK 2 n:=by
 by_cases h:∃q,n=2^q
 . exact YdC (by decide) h1 (Nat.lt_trans h2 (by decide)) (Or.inl h)
 . exact YdC (by decide) h1 (Nat.lt_trans h2 (by decide)) (Or.inr fun m hm=>h (Ylh (d:=2000) rfl (by decide) h2 hm))
def wP(n:Nat):Nat:=if n=2 then 0 else if n=3\/n=5\/n=7\/n=11\/n=13 then 1 else if n<2^29\/n=331300000000 then 2^52 else 2^98
theorem Yqr:YaY ((2:Nat):Int)=true:=by decide
theorem YCG{n:Nat}(h1:1<=n)(h2:n<2^41):hiN n<=loN n+wP n*2^(2048-100):=by
 unfold hiN loN wP
 split
 . rename_i e
   subst e
   unfold lN
   rw[if_pos Yqr]
   exact Nat.le_add_right _ _
 . split
   . rename_i h
     rw[YDx]
     rcases h with rfl|rfl|rfl|rfl|rfl
     . exact nar_3
     . exact nar_5
     . exact nar_7
     . exact YAC
     . exact YAD
   . split
     . rename_i h
       have hn:YbK 48 n:=by
         rcases h with h|rfl
         . exact Ynm h1 h
         . exact nar_c
       have:=Ynn (J':=100) hn (by decide) (by decide)
       exact this
     . have:=Ynn (J':=100) (YwD h1 h2) (by decide) (by decide)
       exact this
theorem Yab(g:Nat->Nat):∀a b:List (Int×Int),upS g (a++b)=upS g a+upS g b/\dnS g (a++b)=dnS g a+dnS g b
 | [],b=>by simp [upS,dnS]
 |x::a,b=>by
   obtain⟨h1,h2⟩:=Yab g a b
   rw[List.cons_append,upS,dnS,upS,dnS,h1,h2]
   omega
theorem Yao:∀a b:List (Int×Int),upP (a++b)=upP a*upP b/\dnP (a++b)=dnP a*dnP b
 | [],b=>by simp [upP,dnP]
 |x::a,b=>by
   obtain⟨h1,h2⟩:=Yao a b
   rw[List.cons_append,upP,dnP,upP,dnP,h1,h2]
   simp only[YCW,and_self]
theorem at_S(g:Nat->Nat){l:List (Int×Int)}{s den k:Nat}(hd:1<=den):upS g (atF (l++[((s:Int),(den:Int))]) den k)=upS g l+g s*den/\dnS g (atF (l++[((s:Int),(den:Int))]) den k)=dnS g l+g k*den:=by
 unfold atF
 rw[(Yab g _ _).1,(Yab g _ _).2,(Yab g _ _).1,(Yab g _ _).2]
 have h1:¬((den:Int)<0):=by omega
 have h2:(-(den:Int))<0:=by omega
 simp only[upS,dnS,if_neg h1,if_pos h2,YCP,Int.neg_neg]
 omega
theorem at_P{l:List (Int×Int)}{s den k:Nat}(hd:1<=den):upP (atF (l++[((s:Int),(den:Int))]) den k)=upP l*s^den/\dnP (atF (l++[((s:Int),(den:Int))]) den k)=dnP l*k^den:=by
 unfold atF
 rw[(Yao _ _).1,(Yao _ _).2,(Yao _ _).1,(Yao _ _).2]
 have h1:¬((den:Int)<0):=by omega
 have h2:(-(den:Int))<0:=by omega
 simp only[upP,dnP,if_neg h1,if_pos h2,YCP,Int.neg_neg,YDN,YDx,and_self]
def isS(l:List (Int×Int))(s den k:Nat):Prop:=dnS loN l+loN k*den<=upS hiN l+hiN s*den
theorem YmH{l:List (Int×Int)}{s den k:Nat}(hl:∀x,x∈l->okU x)(hs:1<=s/\s<=1000000000000)(hd:1<=den/\den<=1000000)(hk:1<=k/\k<=1000000000001):∀x,x∈atF (l++[((s:Int),(den:Int))]) den k->okU x:=by
 intro x hx
 simp only[atF,YDi,YDv]at hx
 rcases hx with(hx|rfl) |rfl
 . exact hl x hx
 . unfold okU;simp only;omega
 . unfold okU;simp only;omega
theorem isF_S{l:List (Int×Int)}{s den k:Nat}(hl:∀x,x∈l->okU x)(hn:l.length<=16)(hs:1<=s/\s<=1000000000000)(hd:1<=den/\den<=1000000)(hk:1<=k/\k<=1000000000001):isF (l++[((s:Int),(den:Int))]) den k=true↔isS l s den k:=by
 have h:=YlA (YmH hl hs hd hk) (by simp [atF];omega)
 rw[(at_S hiN hd.1).1,(at_S loN hd.1).2]at h
 unfold isF isS
 rw[YDG,decide_eq_true_eq,decide_eq_true_eq,h]
 omega
def QJ:Nat:=2^100
theorem YhX:QJ=2^100:=rfl
theorem YuO{x:Int×Int}(h:okU x):x.1.toNat<2^41:=by
 have:=h.2.1
 omega
theorem Ytg{l:List (Int×Int)}{s den k:Nat}(hl:∀x,x∈l->okU x)(hn:l.length<=16)(hs:1<=s/\s<=1000000000000)(hd:1<=den/\den<=1000000)(hk:1<=k/\k<=1000000000001)(h:isS l s den k):
   (dnP l*k^den)^QJ<=(upP l*s^den)^QJ*2^(upS wP l+dnS wP l+(wP s+wP k)*den):=by
 have hl2:=YmH hl hs hd hk
 by_cases c:dnP l*k^den<=upP l*s^den
 . exact YC4 (YC2 c _) (Nat.le_mul_of_pos_right _ (Y3 _))
 . have hu:Und (atF (l++[((s:Int),(den:Int))]) den k) 2048:=by
     refine⟨Nat.le_of_not_lt fun hh=>?_,?_⟩
     . obtain⟨⟨a1,a2⟩,b1,b2⟩:=YaB (K:=2^2048) (g:=loN) (h:=hiN) (fun n k1 k2=>YaS k1 k2) _ hl2
       have:=Yad b2 a1 hh
       rw[(at_P hd.1).1,(at_P hd.1).2]at this
       omega
     . show dnS loN _<=upS hiN _
       rw[(at_S hiN hd.1).1,(at_S loN hd.1).2]
       exact h
   have:=YnU (J:=100) (w:=wP) (by decide) hl2 (fun x hx=>YCG (Ycw (hl2 x hx)).1 (YuO (hl2 x hx))) hu
   rw[(at_P hd.1).1,(at_P hd.1).2,(at_S wP hd.1).1,(at_S wP hd.1).2,<-YhX]at this
   rw[YDb,show upS wP l+dnS wP l+(wP s*den+wP k*den)=upS wP l+wP s*den+(dnS wP l+wP k*den)by omega]
   exact this
theorem Ygz{X Y k den Q e t c:Nat}(hQ:1<=Q)(het:e*t<=Q)(ht:1<=t)(h:(Y*k^den)^Q<=X^Q*2^(den*(c*Q+e))):Y*(k*t)^den<=X*(2^c*(t+1))^den:=by
 have h1:2^e*t^Q<=(t+1)^Q:=by
   have a:=YC2 (Yu3 t ht) e
   rw[YDj,<-YC5,<-YC5,YCX t e]at a
   obtain⟨d,hd⟩:∃d,Q=e*t+d:=⟨Q-e*t,by omega⟩
   rw[hd,YCZ,YCZ,<-YCW]
   exact YC9 a (YC2 (Nat.le_succ t) d)
 have h2:=YC2 h1 den
 rw[YDj,<-YC5,<-YC5,<-YC5]at h2
 refine(Nat.pow_le_pow_iff_left (show Q≠0 by omega)).1 ?_
 have h3:=YCT (t^(Q*den)) h
 have e1:(Y*(k*t)^den)^Q=(Y*k^den)^Q*t^(Q*den):=by
   rw[YDj k,<-YCW,YDj _ (t^den),<-YC5 t,YCX den Q]
 have e2:(X*(2^c*(t+1))^den)^Q=X^Q*(2^(den*(c*Q))*(t+1)^(Q*den)):=by
   rw[YDj X,<-YC5,YDj (2^c),<-YC5,YCX den Q]
   congr 3
   rw[YCX Q den,YDh]
 rw[e1,e2]
 refine YC4 h3 ?_
 rw[YCW]
 refine YCU _ ?_
 rw[YDM,YCZ,YCW]
 refine YCU _ ?_
 rw[YCX den e]
 exact h2
theorem YAB{k a b c:Nat}(hk:k<=2^a)(h:a+(b+1)<=c):k*(2^b+1)<=2^c:=by
 have e1:2^b+1<=2^(b+1):=by have:=Y3 b;rw[YDa];omega
 have e2:=YC9 hk e1
 rw[<-YCZ]at e2
 exact YC4 e2 (YDf (by decide) h)
theorem Yty{k K m c lo hi:Nat}(h1:1<=k)(hmc:m=c+1)(hk:k*m<=K)(g1:2^lo<=k^K)(g2:(k+1)^K<=2^hi):lo+c<hi:=by
 have a:=YC2 (Yu3 k h1) m
 rw[YDj,<-YC5,<-YC5]at a
 obtain⟨d,hd⟩:∃d,K=k*m+d:=⟨K-k*m,by omega⟩
 have b:2^m*k^K<=(k+1)^K:=by
   rw[hd,YCZ,YCZ,<-YCW]
   exact YC9 a (YC2 (Nat.le_succ k) d)
 have c1:2^(m+lo)<=2^hi:=by
   rw[YCZ]
   exact YC4 (YCU _ g1) (YC4 b g2)
 have:=LB.pow_of_le c1
 omega
theorem Ytp{k:Nat}(h1:1<=k)(h2:k+1<2^29):loN k<=loN (k+1):=by
 have a1:k<4611686018427387904:=by omega
 have a2:k+1<4611686018427387904:=by omega
 have a3:k<=2^29:=by omega
 have s:=Yty h1 rfl (YAB (b:=2048-48) (c:=2048) a3 (by decide)) (YaS (p:=2048) h1 a1).1 (YaS (p:=2048) (Nat.le_add_left 1 k) a2).2
 have hn:(lN (k+1) 2048).2<=(lN (k+1) 2048).1+2^(2048-48):=Ynm (Nat.le_add_left 1 k) h2
 exact Nat.le_of_lt (Nat.lt_of_add_lt_add_right (YDz s hn))
theorem YuH:∀{d k:Nat},1<=k->k+d<2^29->loN k<=loN (k+d)
 |0,_,_,_=>YCY _
 |d+1,k,h1,h2=>YC4 (YuH (d:=d) h1 (by omega)) (Ytp (k:=k+d) (by omega) (by omega))
theorem YuC{l:List (Int×Int)}{s den k m:Nat}(hk:1<=k)(hkm:k<=m)(hm:m<2^29)(h:isS l s den m):isS l s den k:=by
 obtain⟨d,rfl⟩:∃d,m=k+d:=⟨m-k,by omega⟩
 have:=YCT den (YuH hk hm)
 unfold isS at*
 omega
def wide(l:List (Int×Int))(s den:Nat):Prop:=upS wP l+dnS wP l+wP s*den<=den*(2^54+2^20)
theorem Yke{l:List (Int×Int)}{s den k B:Nat}(hl:∀x,x∈l->okU x)(hn:l.length<=16)(hs:1<=s/\s<=1000000000000)(hd:1<=den/\den<=1000000)(hk:1<=k/\k<=1000000000001)(hw:wide l s den)(hY:0<dnP l)
   (hB:upP l*s^den<dnP l*B^den)(hB2:B<=450000000)(h:isS l s den k):k<2^29/\(dnP l*k^den)^QJ<=(upP l*s^den)^QJ*2^(den*2^55):=by
 have h0:=Ytg hl hn hs hd hk h
 have wk:wP k<=2^98:=by
   unfold wP
   split
   . decide
   . split
     . decide
     . split
       . decide
       . decide
 have hk2:k<2^29:=by
   have e1:upS wP l+dnS wP l+(wP s+wP k)*den<=den*(2^98+2^55):=by
     have:=YCU den wk
     unfold wide at hw
     rw[YDb,YDM,YCX (wP k)]
     omega
   have h1:=YC4 h0 (YCU _ (YDf (show 1<=2 by decide) e1))
   have h1':(dnP l^4*(k^4)^den)^(2^98)<=(upP l^4*(s^4)^den)^(2^98)*2^(den*(1*2^98+2^55)):=by
     have e2:∀u v:Nat,(u^4*(v^4)^den)^(2^98)=(u*v^den)^QJ:=fun u v=>by
       rw[YhX,show(2:Nat)^100=4*2^98 from rfl,YC5 (u*v^den),YDj u,<-YC5 v,<-YC5 v,YCX 4 den]
     rw[e2,e2,YDx]
     exact h1
   have h2:=Ygz (t:=2^40) (by decide) (by decide) (by decide) h1'
   have h3:dnP l^4*(k^4*2^40)^den<dnP l^4*(B^4*(2^1*(2^40+1)))^den:=by
     refine YDB h2 ?_
     rw[YDj (B^4),<-YCW]
     refine Nat.mul_lt_mul_of_pos_right ?_ (YDl (by decide))
     have e3:∀u v:Nat,u^4*(v^4)^den=(u*v^den)^4:=fun u v=>by
       rw[YDj u,<-YC5 v,<-YC5 v,YCX 4 den]
     rw[e3,e3]
     exact Nat.pow_lt_pow_left hB (by decide)
   have h4:=Nat.lt_of_mul_lt_mul_left h3
   have h5:=(Nat.pow_lt_pow_iff_left (by omega)).1 h4
   have h6:=YC2 hB2 4
   have h7:k^4<(2^29)^4:=by
     have:(450000000:Nat)^4*(2^1*(2^40+1))<=(2^29)^4*2^40:=by decide
     have:=YCT (2^1*(2^40+1)) h6
     omega
   exact(Nat.pow_lt_pow_iff_left (show 4≠0 by decide)).1 h7
 refine⟨hk2,?_⟩
 have wk2:wP k<=2^52:=by
   unfold wP
   split
   . decide
   . split
     . decide
     . rw[if_pos (Or.inl hk2)]
       exact YCY _
 have e1:upS wP l+dnS wP l+(wP s+wP k)*den<=den*2^55:=by
   have:=YCU den wk2
   unfold wide at hw
   rw[YDb,YCX (wP k)]
   omega
 exact YC4 h0 (YCU _ (YDf (show 1<=2 by decide) e1))
structure PowR (l:List (Int×Int)) (s den B r:Nat) (ex:Bool):Prop where
 lt:r+1<2^29
 leB:r<=B
 seg:∀k,1<=k->k<2^29->(isS l s den k↔k<=r)
 up:upP l*s^den<dnP l*(r+1)^den
 tru:∀k,1<=k->k<2^29->dnP l*k^den<=upP l*s^den->k<=r
 near:1<=r->(dnP l*r^den)^QJ<=(upP l*s^den)^QJ*2^(den*2^55)
 ex_iff:ex=true↔1<=r/\upP l*s^den=dnP l*r^den
theorem YuB{l:List (Int×Int)}{s den k:Nat}(hl:∀x,x∈l->okU x)(hs:1<=s/\s<=1000000000000)(hd:1<=den/\den<=1000000)(hk:1<=k/\k<=1000000000001)(h:¬isS l s den k):upP l*s^den<dnP l*k^den:=by
 have hl2:=YmH hl hs hd hk
 obtain⟨⟨a1,a2⟩,b1,b2⟩:=YaB (K:=2^2048) (g:=loN) (h:=hiN) (fun n k1 k2=>YaS k1 k2) _ hl2
 have hlt:upS hiN (atF (l++[((s:Int),(den:Int))]) den k)<dnS loN (atF (l++[((s:Int),(den:Int))]) den k):=by
   rw[(at_S hiN hd.1).1,(at_S loN hd.1).2]
   exact Nat.lt_of_not_le h
 have:=Yad a2 b1 hlt
 rwa [(at_P hd.1).1,(at_P hd.1).2]at this
theorem Yhl{t:Int->Bool}:∀(f:Nat)(a b:Int),a<b->b-a<=2^f->(bisL f t a b=a\/t (bisL f t a b)=true)/\(bisL f t a b+1=b\/t (bisL f t a b+1)=false):=by
 intro f
 induction f with
 |zero=>
   intro a b h1 h2
   rw[Int.pow_zero]at h2
   rw[bisL]
   exact⟨Or.inl rfl,Or.inl (by omega)⟩
 |succ f ih=>
   intro a b h1 h2
   rw[bisL]
   by_cases c:1<b-a
   . rw[if_pos c]
     have e:(2:Int)^(f+1)=2*2^f:=by rw[Int.pow_succ];omega
     rw[e]at h2
     by_cases d:t (a+(b-a)/2)=true
     . rw[if_pos d]
       obtain⟨i1,i2⟩:=ih (a+(b-a)/2) b (by omega) (by omega)
       refine⟨?_,i2⟩
       rcases i1 with i1|i1
       . exact Or.inr (by rw[i1];exact d)
       . exact Or.inr i1
     . rw[if_neg d]
       obtain⟨i1,i2⟩:=ih a (a+(b-a)/2) (by omega) (by omega)
       refine⟨i1,?_⟩
       rcases i2 with i2|i2
       . exact Or.inr (by rw[i2];simpa using d)
       . exact Or.inr i2
   . rw[if_neg c]
     exact⟨Or.inl rfl,Or.inl (by omega)⟩
theorem YjF{t:Int->Bool}:∀(f:Nat)(a b:Int),a<b->a<=bisL f t a b/\bisL f t a b<b:=by
 intro f
 induction f with
 |zero=>intro a b h;rw[bisL];omega
 |succ f ih=>
   intro a b h
   rw[bisL]
   by_cases c:1<b-a
   . rw[if_pos c]
     by_cases d:t (a+(b-a)/2)=true
     . rw[if_pos d]
       have:=ih (a+(b-a)/2) b (by omega)
       omega
     . rw[if_neg d]
       have:=ih a (a+(b-a)/2) (by omega)
       omega
   . rw[if_neg c];omega
theorem Yrm{l:List (Int×Int)}{s den B:Nat}(hc:Yep l=0)(hl:∀x,x∈l->okU x)(hs:1<=s/\s<=1000000000000)(hd:1<=den/\den<=1000000)(hw:wide l s den)(hY:0<dnP l)
   (hB:upP l*s^den<dnP l*B^den)(hB2:B<=450000000):∃r:Nat,(YdR s l den).1=(r:Int)/\PowR l s den B r (YdR s l den).2.1:=by
 have hn:=(Yld hc).2
 obtain⟨f,hf⟩:∃f,f=isF (l++[((s:Int),(den:Int))]) (den:Int):=⟨_,rfl⟩
 have hfk:∀k:Nat,1<=k->k<=1000000000001->(f (k:Int)=true↔isS l s den k):=fun k h1 h2=>by
   rw[hf];exact isF_S hl hn hs hd ⟨h1,h2⟩
 have htop:f 1000000000001=false:=by
   cases hh:f 1000000000001 with
   |false=>rfl
   |true=>
     have:=Yke hl hn hs hd (k:=1000000000001) (by decide) hw hY hB hB2 ((hfk 1000000000001 (by decide) (by decide)).1 hh)
     exact absurd this.1 (by decide)
 have hbad:Yib (s:Int) (den:Int)=false:=by
   simp only[Yib,YDm,decide_eq_false_iff_not];omega
 have e1:YdR (s:Int) l (den:Int)=(bisL 64 f 0 1000000000001,decide (0<bisL 64 f 0 1000000000001)&&oneF (atF (l++[((s:Int),(den:Int))]) den (bisL 64 f 0 1000000000001)),0):=by
   unfold YdR
   rw[if_neg (by rw[hc];decide),if_neg (by rw[hbad];decide)]
   unfold YtH
   rw[<-hf,if_neg (by rw[htop];decide)]
 obtain⟨s1,s2⟩:=Yhl (t:=f) 64 0 1000000000001 (by decide) (by decide)
 have hr:=YjF (t:=f) 64 0 1000000000001 (by decide)
 rw[e1]
 generalize bisL 64 f 0 1000000000001=b at*
 obtain⟨r,rfl⟩:∃r:Nat,b=(r:Int):=⟨b.toNat,by omega⟩
 have hr1:1<=r->isS l s den r:=fun h=>by
   rcases s1 with c|c
   . omega
   . exact(hfk r h (by omega)).1 c
 have hlt:r<2^29/\(1<=r->(dnP l*r^den)^QJ<=(upP l*s^den)^QJ*2^(den*2^55)):=by
   rcases YDw r with h0|h0
   . exact⟨by omega,fun h=>by omega⟩
   . have:=Yke hl hn hs hd ⟨h0,by omega⟩ hw hY hB hB2 (hr1 h0)
     exact⟨this.1,fun _=>this.2⟩
 have hr2:¬isS l s den (r+1):=fun hh=>by
   have:=(hfk (r+1) (by omega) (by omega)).2 hh
   rcases s2 with c|c
   . omega
   . rw[Int.natCast_add,show((1:Nat):Int)=1 from rfl,c]at this
     cases this
 have hup:=YuB hl hs hd (k:=r+1) (by omega) hr2
 have hleB:r<=B:=by
   rcases YDw r with h0|h0
   . omega
   . have h1:=hlt.2 h0
     have h1':(dnP l*r^den)^QJ<=(upP l*s^den)^QJ*2^(den*(0*QJ+2^55)):=by rw[Nat.zero_mul,YDH];exact h1
     have h2:=Ygz (t:=2^40) (show 1<=QJ by rw[YhX];decide) (by rw[YhX];decide) (by decide) h1'
     have h3:dnP l*(r*2^40)^den<dnP l*(B*(2^0*(2^40+1)))^den:=by
       refine YDB h2 ?_
       rw[YDj B,<-YCW]
       exact Nat.mul_lt_mul_of_pos_right hB (YDl (by decide))
     have h5:=(Nat.pow_lt_pow_iff_left (by omega)).1 (Nat.lt_of_mul_lt_mul_left h3)
     omega
 have hlt2:r+1<2^29:=by omega
 have hseg:∀k,1<=k->k<2^29->isS l s den k->k<=r:=fun k k1 k2 hk=>by
   refine Nat.le_of_not_lt fun hh=>hr2 ?_
   exact YuC (by omega) (show r+1<=k from hh) k2 hk
 refine⟨r,rfl,⟨hlt2,hleB,fun k k1 k2=>⟨hseg k k1 k2,fun hk=>?_⟩,hup,fun k k1 k2 hk=>?_,hlt.2,?_⟩⟩
 . exact YuC k1 hk hlt.1 (hr1 (by omega))
 . refine Classical.byContradiction fun hh=>?_
   have:¬isS l s den k:=fun h=>hh (hseg k k1 k2 h)
   have:=YuB hl hs hd (k:=k) (by omega) this
   omega
 . rw[YCV,decide_eq_true_eq]
   by_cases h0:1<=r
   . rw[YwL (YmH hl hs hd ⟨h0,by omega⟩) (by simp [atF];omega),(at_P hd.1).1,(at_P hd.1).2]
     omega
   . omega
def UP(a b c:Int):Nat:=2^a.toNat*3^b.toNat*5^c.toNat
theorem Yas(a b c:Int):0<UP a b c:=YDo (YDo (YDl (by decide)) (YDl (by decide))) (YDl (by decide))
def Le0(a b c:Int):Prop:=UP a b c<=UP (-a) (-b) (-c)
theorem Ymz(a b c x y z:Int):UP (a+x) (b+y) (c+z)*(UP (-a) (-b) (-c)*UP (-x) (-y) (-z))=UP (-(a+x)) (-(b+y)) (-(c+z))*(UP a b c*UP x y z):=by
 have key:∀(p:Nat)(u v:Int),p^(u+v).toNat*(p^(-u).toNat*p^(-v).toNat)=p^(-(u+v)).toNat*(p^u.toNat*p^v.toNat):=fun p u v=>by
   rw[<-YCZ,<-YCZ,<-YCZ,<-YCZ];congr 1;omega
 have k2:=key 2 a x
 have k3:=key 3 b y
 have k5:=key 5 c z
 unfold UP
 generalize 2^(a+x).toNat=a1 at*
 generalize 2^(-(a+x)).toNat=a2 at*
 generalize 2^(-a).toNat=a3 at*
 generalize 2^(-x).toNat=a4 at*
 generalize 2^a.toNat=a5 at*
 generalize 2^x.toNat=a6 at*
 generalize 3^(b+y).toNat=b1 at*
 generalize 3^(-(b+y)).toNat=b2 at*
 generalize 3^(-b).toNat=b3 at*
 generalize 3^(-y).toNat=b4 at*
 generalize 3^b.toNat=b5 at*
 generalize 3^y.toNat=b6 at*
 generalize 5^(c+z).toNat=c1 at*
 generalize 5^(-(c+z)).toNat=c2 at*
 generalize 5^(-c).toNat=c3 at*
 generalize 5^(-z).toNat=c4 at*
 generalize 5^c.toNat=c5 at*
 generalize 5^z.toNat=c6 at*
 have e1:a1*b1*c1*(a3*b3*c3*(a4*b4*c4))=(a1*(a3*a4))*(b1*(b3*b4))*(c1*(c3*c4)):=by grind
 rw[e1,k2,k3,k5];grind
theorem Yqx{a b c x y z:Int}(h1:Le0 a b c)(h2:Le0 x y z):Le0 (a+x) (b+y) (c+z):=by
 unfold Le0 at*
 have e:=Ymz a b c x y z
 have p1:=Yas (-a) (-b) (-c)
 have p2:=Yas (-x) (-y) (-z)
 refine YDc (c:=UP (-a) (-b) (-c)*UP (-x) (-y) (-z)) ?_ (YDo p1 p2)
 rw[e]
 exact YCU _ (YC9 h1 h2)
theorem YmA(m:Nat)(a b c:Int):UP (m*a) (m*b) (m*c)=UP a b c^m:=by
 have key:∀(p:Nat)(u:Int),p^((m:Int)*u).toNat=(p^u.toNat)^m:=fun p u=>by
   rw[<-YC5]
   congr 1
   rcases Int.le_total 0 u with h|h
   . obtain⟨v,rfl⟩:∃v:Nat,u=v:=⟨u.toNat,by omega⟩
     rw[<-Int.natCast_mul,YCP,YCP,YCX]
   . have h1:(m:Int)*u<=0:=Int.mul_nonpos_of_nonneg_of_nonpos (by omega) h
     rw[show u.toNat=0 by omega,show((m:Int)*u).toNat=0 by omega,Nat.zero_mul]
 unfold UP
 rw[key,key,key,YDj,YDj]
theorem Yc0{m:Nat}(hm:1<=m){a b c:Int}:Le0 (m*a) (m*b) (m*c)↔Le0 a b c:=by
 unfold Le0
 rw[<-Int.mul_neg,<-Int.mul_neg,<-Int.mul_neg,YmA,YmA]
 exact Nat.pow_le_pow_iff_left (by omega)
theorem YeB{a b c:Int}(h:Le0 a b c):15*a<=24*(b.natAbs:Int)+35*(c.natAbs:Int):=by
 rcases Int.le_total a 0 with h0|h0
 . omega
 . unfold Le0 UP at h
   rw[show(-a).toNat=0 by omega,Nat.pow_zero,YDx]at h
   have h1:2^a.toNat<=3^(-b).toNat*5^(-c).toNat:=by
     refine YC4 ?_ h
     rw[YCW]
     exact Nat.le_mul_of_pos_right _ (YDo (YDl (by decide)) (YDl (by decide)))
   have h2:=YC2 h1 15
   rw[YDj,<-YC5,<-YC5,<-YC5,YCX _ 15,YCX _ 15,YCX _ 15,YC5 3,YC5 5]at h2
   have h3:(3^15)^(-b).toNat<=(2^24)^(-b).toNat:=YC2 (by decide) _
   have h5:(5^15)^(-c).toNat<=(2^35)^(-c).toNat:=YC2 (by decide) _
   have h6:=YC4 h2 (YC9 h3 h5)
   rw[<-YC5,<-YC5,<-YCZ]at h6
   have:=LB.pow_of_le h6
   omega
theorem Yr3(p:Nat)(n:Int):upP (tm1 (p:Int) n)=p^n.toNat/\dnP (tm1 (p:Int) n)=p^(-n).toNat:=by
 unfold tm1
 split
 . rename_i h
   rw[h]
   simp [upP,dnP]
 . by_cases c:n<0
   . simp only[upP,dnP,if_pos c,YCP,YDN]
     exact⟨by rw[show n.toNat=0 by omega,Nat.pow_zero],trivial⟩
   . simp only[upP,dnP,if_neg c,YCP,YDN]
     exact⟨trivial,by rw[show(-n).toNat=0 by omega,Nat.pow_zero]⟩
theorem YkU{L:Int}{r:Rt}{a b c:Int}(h:Rep L r a b c):upP (Yf r)=UP r.a r.b r.c/\dnP (Yf r)=UP (-r.a) (-r.b) (-r.c):=by
 have z:∀p:Int,tm1 p 0=[]:=fun p=>rfl
 unfold Yf
 rw[h.hd,h.he,h.hf,z,z,z]
 simp only[List.append_nil]
 rw[(Yao _ _).1,(Yao _ _).1,(Yao _ _).2,(Yao _ _).2]
 have t2:=Yr3 2 r.a
 have t3:=Yr3 3 r.b
 have t5:=Yr3 5 r.c
 unfold UP
 rw[<-t2.1,<-t2.2,<-t3.1,<-t3.2,<-t5.1,<-t5.2]
 exact⟨(YCW ..).symm,(YCW ..).symm⟩
theorem Yr4(w:Nat->Nat)(p:Nat)(n:Int):upS w (tm1 (p:Int) n)+dnS w (tm1 (p:Int) n)=w p*n.natAbs:=by
 unfold tm1
 split
 . rename_i h
   rw[h]
   simp [upS,dnS]
 . by_cases c:n<0
   . simp only[upS,dnS,if_pos c,YCP]
     rw[show(-n).toNat=n.natAbs by omega];omega
   . simp only[upS,dnS,if_neg c,YCP]
     rw[show n.toNat=n.natAbs by omega];omega
theorem wP_2:wP 2=0:=rfl
theorem wP_3:wP 3=1:=rfl
theorem wP_5:wP 5=1:=rfl
theorem YhV{L:Int}{r:Rt}{a b c:Int}(h:Rep L r a b c):upS wP (Yf r)+dnS wP (Yf r)<=200000:=by
 have z:∀p:Int,tm1 p 0=[]:=fun p=>rfl
 unfold Yf
 rw[h.hd,h.he,h.hf,z,z,z]
 simp only[List.append_nil]
 rw[(Yab wP _ _).1,(Yab wP _ _).1,(Yab wP _ _).2,(Yab wP _ _).2]
 have t2:=Yr4 wP 2 r.a
 have t3:=Yr4 wP 3 r.b
 have t5:=Yr4 wP 5 r.c
 rw[wP_2]at t2
 rw[wP_3]at t3
 rw[wP_5]at t5
 obtain⟨_,b1,b2,b3,_⟩:=Yge h.ok
 have b2:=YcN b2
 have b3:=YcN b3
 have e2:((2:Nat):Int)=2:=rfl
 have e3:((3:Nat):Int)=3:=rfl
 have e5:((5:Nat):Int)=5:=rfl
 rw[e2]at t2
 rw[e3]at t3
 rw[e5]at t5
 omega
theorem Yxr{l:List (Int×Int)}(hl:∀x,x∈l->okU x)(hn:l.length<=20)(h:0<=YcJ l):dnP l^QJ<=upP l^QJ*2^(upS wP l+dnS wP l):=by
 have h2:=(YlA hl hn).1 h
 by_cases c:dnP l<=upP l
 . exact YC4 (YC2 c _) (Nat.le_mul_of_pos_right _ (Y3 _))
 . have hu:Und l 2048:=by
     refine⟨Nat.le_of_not_lt fun hh=>?_,h2⟩
     obtain⟨⟨a1,a2⟩,b1,b2⟩:=YaB (K:=2^2048) (g:=loN) (h:=hiN) (fun n k1 k2=>YaS k1 k2) _ hl
     have:=Yad b2 a1 hh
     omega
   have:=YnU (J:=100) (w:=wP) (by decide) hl (fun x hx=>YCG (Ycw (hl x hx)).1 (YuO (hl x hx))) hu
   rw[<-YhX]at this
   exact this
theorem YBO{l:List (Int×Int)}(hl:∀x,x∈l->okU x)(hn:l.length<=20)(h:¬0<=YcJ l):upP l<dnP l:=by
 obtain⟨⟨a1,a2⟩,b1,b2⟩:=YaB (K:=2^2048) (g:=loN) (h:=hiN) (fun n k1 k2=>YaS k1 k2) _ hl
 exact Yad a2 b1 (Nat.lt_of_not_le fun hh=>h ((YlA hl hn).2 hh))
theorem Rep.cast{L:Int}{r:Rt}{a b c a' b' c':Int}(h:Rep L r a b c)(ea:a=a')(eb:b=b')(ec:c=c'):Rep L r a' b' c':=by
 subst ea eb ec;exact h
theorem YeC{a b c a' b' c':Int}(h:Le0 a b c)(ea:a=a')(eb:b=b')(ec:c=c'):Le0 a' b' c':=by
 subst ea eb ec;exact h
theorem UP_2(n:Nat):UP n 0 0=2^n/\UP (-(n:Int)) 0 0=1:=by
 unfold UP
 rw[show(-(n:Int)).toNat=0 by omega]
 simp
theorem Yqy{x y z:Int}{n:Nat}(h:UP (-x) (-y) (-z)<=UP x y z*2^n):Le0 (-x+ -(n:Int)) (-y) (-z):=by
 have e:=Ymz (-x) (-y) (-z) (-(n:Int)) 0 0
 rw[Int.neg_neg,Int.neg_neg,Int.neg_neg,Int.neg_neg,Int.neg_zero,Int.add_zero,Int.add_zero,(UP_2 n).1,(UP_2 n).2,YDN]at e
 unfold Le0
 refine YDc (c:=UP x y z*2^n) ?_ (YDo (Yas _ _ _) (Y3 n))
 rw[e]
 exact YCU _ h
theorem YkS(l:List (Int×Int))(e:Int):upP (l++[(2,e)])=upP l*UP e 0 0/\dnP (l++[(2,e)])=dnP l*UP (-e) 0 0:=by
 rw[(Yao _ _).1,(Yao _ _).2]
 have h:upP [(2,e)]=UP e 0 0/\dnP [(2,e)]=UP (-e) 0 0:=by
   unfold UP
   by_cases c:e<0
   . simp only[upP,dnP,if_pos c]
     rw[show e.toNat=0 by omega]
     simp
   . simp only[upP,dnP,if_neg c]
     rw[show(-e).toNat=0 by omega]
     simp
 rw[h.1,h.2]
 exact⟨rfl,rfl⟩
theorem Yjg{r:Rt}(h:chkR r=0):∀x,x∈Yf r->2<=x.1/\x.1<=13/\ -100000<=x.2/\x.2<=100000:=by
 intro x hx
 have h2:=YhS h x hx
 have key:∀(p n:Int),x∈tm1 p n->x.1=p:=fun p n hx=>by
   unfold tm1 at hx
   split at hx
   . cases hx
   . rw[YDv]at hx;rw[hx]
 simp only[Yf,YDi]at hx
 rcases hx with hx|hx|hx|hx|hx|hx
 all_goals (have:=key _ _ hx;omega)
theorem YrX{r:Rt}(h:chkR r=0):Yep (Yf r)=0:=by
 unfold Yep
 have:=Ybp r
 rw[if_neg (by omega),if_neg]
 rw[List.any_eq_true]
 rintro⟨x,hx,ho⟩
 have:=Yjg h x hx
 simp only[okT0,YDG,decide_eq_true_eq]at ho
 omega
theorem scl_1(l:List (Int×Int)):l.map (sclT 1)=l:=by
 have:sclT 1=id:=by funext x;unfold sclT;simp
 rw[this,List.map_id]
theorem Ys8{L:Int}{r:Rt}{a b c:Int}(hL:1<=L/\L<=1000)(h:Rep L r a b c)(sa:sm a)(sb:sm b)(sc:sm c)(hz:24*(b.natAbs:Int)+35*(c.natAbs:Int)<=15*(100000-L)):
   ∃k:Int,(YcT r).2.2=0/\Rep L (YcT r).1 (a-k*L) b c/\Le0 (a-k*L-L) b c/\Le0 (8* -(a-k*L)-L) (8* -b) (8* -c):=by
 have hn:=h.n_rng
 obtain⟨tu,td⟩:=YkU h
 have tw:=YhV h
 have hlen:=Ybp r
 obtain⟨n,hnn⟩:∃n:Nat,r.n=n:=⟨r.n.toNat,by omega⟩
 obtain⟨M,hM⟩:∃M:Nat,L=M:=⟨L.toNat,by omega⟩
 --what the sign says
 have okl:∀m:Int, -1000000000000<=m->m<=1000000000001->∀x,x∈atG (Yf r) r.n m->okU x:=fun m m1 m2 x hx=>by
   rw[atG,YDi,YDv]at hx
   rcases hx with hx|rfl
   . have:=Yjg h.ok x hx
     unfold okU;omega
   . have:=YaE (x:= -m) (y:=r.n) (X:=1000000000001) (Y:=1000) (by omega) (by omega)
     unfold okU;simp only;omega
 have lenl:∀m:Int,(atG (Yf r) r.n m).length<=20:=fun m=>by rw[atG,YDy];simp;omega
 have idn:∀e:Int,UP (r.a+e) r.b r.c*(dnP (Yf r++[(2,e)]))=UP (-(r.a+e)) (-r.b) (-r.c)*upP (Yf r++[(2,e)]):=fun e=>by
   have:=Ymz r.a r.b r.c e 0 0
   rw[Int.add_zero,Int.add_zero,Int.neg_zero]at this
   rw[(YkS _ _).1,(YkS _ _).2,tu,td]
   exact this
 have pos:∀e:Int,0<upP (Yf r++[(2,e)])/\0<dnP (Yf r++[(2,e)]):=fun e=>by
   rw[(YkS _ _).1,(YkS _ _).2,tu,td]
   exact⟨YDo (Yas _ _ _) (Yas _ _ _),YDo (Yas _ _ _) (Yas _ _ _)⟩
 have scale:∀m x:Int,x*L=(a-m*L)*r.n->∀{y z:Int},y*L=b*r.n->z*L=c*r.n->(Le0 x y z->Le0 (a-m*L) b c):=fun m x hx y z hy hz h0=>by
   have h1:=(Yc0 (m:=M) (by omega)).2 h0
   rw[<-hM,Int.mul_comm L x,Int.mul_comm L y,Int.mul_comm L z,hx,hy,hz,Int.mul_comm _ r.n,Int.mul_comm _ r.n,Int.mul_comm _ r.n,hnn]at h1
   exact(Yc0 (m:=n) (by omega)).1 h1
 have neg:∀m:Int, -1000000000000<=m->m<=1000000000001->isG (Yf r) r.n m=false->Le0 (a-m*L) b c:=fun m m1 m2 hm=>by
   rw[isG,decide_eq_false_iff_not]at hm
   have h1:=YBO (okl m m1 m2) (lenl m) hm
   refine scale m (r.a+ -m*r.n) ?_ h.hb h.hc ?_
   . have:=h.ha;grind
   . unfold Le0
     have e:=idn (-m*r.n)
     have p:=pos (-m*r.n)
     refine YDc (c:=upP (Yf r++[(2, -m*r.n)])) ?_ p.1
     rw[<-e]
     exact YCU _ (Nat.le_of_lt h1)
 have posi:∀m:Int, -1000000000000<=m->m<=1000000000001->isG (Yf r) r.n m=true->Le0 (8* -(a-m*L)-L) (8* -b) (8* -c):=fun m m1 m2 hm=>by
   rw[isG,decide_eq_true_eq]at hm
   have h1:=Yxr (okl m m1 m2) (lenl m) hm
   have hE:upS wP (atG (Yf r) r.n m)+dnS wP (atG (Yf r) r.n m)<=200000:=by
     rw[atG,(Yab wP _ _).1,(Yab wP _ _).2]
     have:upS wP [(2, -m*r.n)]+dnS wP [(2, -m*r.n)]=0:=by
       unfold upS dnS upS dnS
       have:wP (2:Int).toNat=0:=rfl
       simp only[this,Nat.zero_mul,ite_self]
     omega
   have e:=idn (-m*r.n)
   have p:=pos (-m*r.n)
   have hu:upP (atG (Yf r) r.n m)=upP (Yf r++[(2, -m*r.n)]):=rfl
   have hd:dnP (atG (Yf r) r.n m)=dnP (Yf r++[(2, -m*r.n)]):=rfl
   rw[hu,hd]at h1
   have h2:UP (-(8*(r.a+ -m*r.n))) (-(8*r.b)) (-(8*r.c))<=UP (8*(r.a+ -m*r.n)) (8*r.b) (8*r.c)*2^n:=by
     have e8:∀x y z:Int,UP (8*x) (8*y) (8*z)=UP x y z^8:=fun x y z=>YmA 8 x y z
     rw[<-Int.mul_neg,<-Int.mul_neg,<-Int.mul_neg,e8,e8]
     have hQ0:QJ≠0:=by rw[YhX];have:=Y3 100;omega
     rw[<-Nat.pow_le_pow_iff_left hQ0]
     refine YDc (c:=(upP (Yf r++[(2, -m*r.n)])^QJ)^8) ?_ (YDl (YDl p.1))
     have h3:(2^(upS wP (atG (Yf r) r.n m)+dnS wP (atG (Yf r) r.n m)))^8<=(2^n)^QJ:=by
       rw[<-YC5,<-YC5]
       refine YDf (by decide) (YC4 (YCT 8 hE) ?_)
       have:1*QJ<=n*QJ:=YCT QJ (by omega)
       have:1600000<=QJ:=by rw[YhX];decide
       omega
     have h4:=YC2 h1 8
     rw[YDj]at h4
     have e2:=congrArg (fun z=>(z^QJ)^8) e
     simp only[YDj]at e2
     have c1:∀x:Nat,(x^8)^QJ=(x^QJ)^8:=fun x=>by rw[<-YC5,<-YC5,YCX]
     rw[c1,YDj,c1]
     have e3:=YCU ((UP (r.a+ -m*r.n) r.b r.c^QJ)^8) (YC4 h4 (YCU _ h3))
     rw[e2]at e3
     refine YC4 e3 (YDO ?_)
     rw[<-YCW,Nat.mul_right_comm]
   have h5:=Yqy h2
   have h6:=(Yc0 (m:=M) (by omega)).2 h5
   refine(Yc0 (m:=n) (by omega)).1 (YeC h6 ?_ ?_ ?_)
   . rw[<-hM,<-hnn];have:=h.ha;grind
   . rw[<-hM,<-hnn];have:=h.hb;grind
   . rw[<-hM,<-hnn];have:=h.hc;grind
 have bd:=fun m hm1 hm2 hx=>YeB (neg m hm1 hm2 hx)
 have bp:=fun m hm1 hm2 hx=>YeB (posi m hm1 hm2 hx)
 unfold sm at*
 have htop:isG (Yf r) r.n 1000000000001=false:=by
   cases hh:isG (Yf r) r.n 1000000000001 with
   |false=>rfl
   |true=>
     have:=bp 1000000000001 (by decide) (by decide) hh
     omega
 have hbot:isG (Yf r) r.n (-1000000000000)=true:=by
   cases hh:isG (Yf r) r.n (-1000000000000)with
   |true=>rfl
   |false=>
     have:=bd (-1000000000000) (by decide) (by decide) hh
     omega
 have hfl:flrF (Yf r) r.n 1=(bisL 64 (isG (Yf r) r.n) (-1000000000000) 1000000000001,oneF (atG (Yf r) r.n (bisL 64 (isG (Yf r) r.n) (-1000000000000) 1000000000001)),0):=by
   unfold flrF
   rw[if_neg (by rw[YrX h.ok];decide),if_neg,scl_1]
   . unfold flrG
     rw[if_neg (by rw[htop,hbot];decide)]
   . simp only[YpA,YDG,decide_eq_true_eq];omega
 obtain⟨s1,s2⟩:=Yhl (t:=isG (Yf r) r.n) 64 (-1000000000000) 1000000000001 (by decide) (by decide)
 have hr:=YjF (t:=isG (Yf r) r.n) 64 (-1000000000000) 1000000000001 (by decide)
 generalize bisL 64 (isG (Yf r) r.n) (-1000000000000) 1000000000001=k at*
 have hk:isG (Yf r) r.n k=true:=by
   rcases s1 with e|e
   . rw[e];exact hbot
   . exact e
 have hk1:isG (Yf r) r.n (k+1)=false:=by
   rcases s2 with e|e
   . rw[e];exact htop
   . exact e
 have l1:=neg (k+1) (by omega) (by omega) hk1
 have l2:=posi k (by omega) (by omega) hk
 have b1:=bd (k+1) (by omega) (by omega) hk1
 have b2:=bp k (by omega) (by omega) hk
 rw[Int.add_mul,Int.one_mul]at b1 l1
 have hm:=YiP (x:=offR r k) (a:=a-k*L) hL hn.1 (by show(r.a-k*r.n)*L=(a-k*L)*r.n;have:=h.ha;grind) h.hb h.hc h.hd h.he h.hf (by unfold sm;omega) sb sc
 refine⟨k,?_⟩
 unfold YcT
 rw[if_neg (by rw[h.ok];decide),hfl]
 simp only
 rw[if_neg (by rw[hm.1];decide)]
 exact⟨rfl,hm.2,YeC l1 (by omega) rfl rfl,l2⟩
theorem YmC{T:Tm}:∀{k i:Nat},i<k->allT T k<=120->(T.p i).2.toNat∣allT T k
 |k+1,i,hi,h=>by
   rw[allT]at h⊢
   by_cases c:allT T k<=120
   . rw[if_pos c]at h⊢
     by_cases e:i=k
     . rw[e];exact Nat.dvd_mul_left ..
     . have ih:=YmC (T:=T) (show i<k by omega) c
       refine Nat.dvd_trans ih ?_
       obtain⟨x,hx⟩:=Nat.gcd_dvd_left (allT T k) (T.p k).2.toNat
       obtain⟨y,hy⟩:=Nat.gcd_dvd_right (allT T k) (T.p k).2.toNat
       generalize YDC (allT T k) (T.p k).2.toNat=g at*
       refine⟨y,?_⟩
       rcases YDw g with h0|h0
       . rw[h0,Nat.zero_mul]at hx hy
         rw[hx,hy,h0]
         simp
       . rw[hx,hy,Nat.mul_div_cancel_left _ h0]
         simp only[YCW,YDh]
   . rw[if_neg c]at h
     exact absurd h c
def Lm(T:Tm):Int:=allT T 12
def tI(T:Tm)(i:Nat):Int:=(T.p i).1*(Lm T/(T.p i).2)
def cA(T:Tm):Int:=if T.syn=true then -4 else -19
def cB(T:Tm):Int:=if T.syn=true then 4 else 12
def cC(T:Tm):Int:=if T.syn=true then -1 else 0
def bB(T:Tm):Int:=if T.syn=true then 9 else 25
def bC(T:Tm):Int:=if T.syn=true then 2 else 0
theorem YmQ(T:Tm):Yer T=⟨cA T,cB T,cC T,0,0,0,1⟩:=by
 unfold Yer cA cB cC
 split
 . decide+kernel
 . decide+kernel
theorem of_32:(ofRF 3 2).1=⟨-1,1,0,0,0,0,1⟩:=by decide+kernel
theorem YAK:(ofRF 128 1).1=⟨7,0,0,0,0,0,1⟩:=by decide+kernel
theorem of_11:(ofRF 1 1).1=⟨0,0,0,0,0,0,1⟩:=by decide+kernel
theorem YbT{T:Tm}(h:YY T=0):1<=Lm T/\Lm T<=120:=by
 obtain⟨_,h1,_,_,_,h2⟩:=YdZ h
 have:=(Ydq (T:=T) (i:=12) h1).1
 unfold Lm;omega
theorem Yu1{T:Tm}(h:YY T=0){i:Nat}(hi:i<12): -2*Lm T<=tI T i/\tI T i<=2*Lm T/\(Lm T/(T.p i).2)*(T.p i).2=Lm T:=by
 obtain⟨_,h1,_,_,_,h2⟩:=YdZ h
 obtain⟨b1,b2,b3⟩:=Yhj (h1 i hi)
 have hL:=YbT h
 have hd:(T.p i).2∣Lm T:=by
   have:=Int.natCast_dvd_natCast.2 (YmC hi h2)
   rwa [YDk (by omega)]at this
 have he:=Int.ediv_mul_cancel hd
 have hm:0<=Lm T/(T.p i).2:=Int.ediv_nonneg (by omega) (by omega)
 unfold tI
 generalize Lm T/(T.p i).2=m at*
 have k1:=Int.mul_le_mul_of_nonneg_right b2 hm
 have k2:=Int.mul_le_mul_of_nonneg_right b3 hm
 have e1: -2*(T.p i).2*m= -2*Lm T:=by rw[<-he];grind
 have e2:2*(T.p i).2*m=2*Lm T:=by rw[<-he];grind
 exact⟨by omega,by omega,he⟩
theorem YwR{T:Tm}(h:YY T=0){i:Nat}(hi:i<12):Rep (Lm T) (pwrF (Yer T) (T.p i).1 (T.p i).2).1 (cA T*tI T i) (cB T*tI T i) (cC T*tI T i):=by
 have hL:=YbT h
 obtain⟨t1,t2,t3⟩:=Yu1 h hi
 obtain⟨_,h1,_,_,_,h2⟩:=YdZ h
 obtain⟨b1,b2,b3⟩:=Yhj (h1 i hi)
 have hk:chkR (Yer T)=0:=by
   rw[YmQ];unfold cA cB cC;cases T.syn <;> decide+kernel
 have hbad:Yk8 (T.p i).1 (T.p i).2=false:=by
   simp only[Yk8,YDm,decide_eq_false_iff_not];omega
 have e:pwrF (Yer T) (T.p i).1 (T.p i).2=powN (Yer T) (T.p i).1 (T.p i).2:=by
   unfold pwrF
   rw[if_neg (by rw[hk];decide),if_neg (by rw[hbad];decide),if_neg (by omega)]
 rw[e,powN,YmQ]
 have key:∀v:Int,v*(T.p i).1*Lm T=v*tI T i*(1*(T.p i).2):=fun v=>by
   unfold tI
   have e1:v*(T.p i).1*Lm T=v*(T.p i).1*(Lm T/(T.p i).2*(T.p i).2):=by rw[t3]
   rw[e1];grind
 have smv:∀v:Int, -19<=v->v<=19->sm (v*tI T i):=fun v v1 v2=>by
   have:=YaE (x:=v) (y:=tI T i) (X:=19) (Y:=240) ⟨v1,v2⟩ (by omega)
   unfold sm;omega
 have rA: -19<=cA T/\cA T<=19:=by unfold cA;split <;> omega
 have rB: -19<=cB T/\cB T<=19:=by unfold cB;split <;> omega
 have rC: -19<=cC T/\cC T<=19:=by unfold cC;split <;> omega
 exact(YiP (L:=Lm T) (by omega) (by simp only;omega) (key _) (key _) (key _) (by simp) (by simp) (by simp) (smv _ rA.1 rA.2) (smv _ rB.1 rB.2) (smv _ rC.1 rC.2)).2
def fA(T:Tm)(i:Nat):Int:= -Lm T-cA T*tI T i
def fB(T:Tm)(i:Nat):Int:=Lm T-cB T*tI T i
def fC(T:Tm)(i:Nat):Int:= -(cC T*tI T i)
theorem Ys3{T:Tm}(h:YY T=0){i:Nat}(hi:i<12):(-(39*Lm T)<=fA T i/\fA T i<=39*Lm T)/\(-(bB T*Lm T)<=fB T i/\fB T i<=bB T*Lm T)/\ -(bC T*Lm T)<=fC T i/\fC T i<=bC T*Lm T:=by
 have hL:=YbT h
 obtain⟨t1,t2,_⟩:=Yu1 h hi
 unfold fA fB fC cA cB cC bB bC
 split <;> omega
theorem Yp9{T:Tm}(h:YY T=0){i:Nat}(hi:i<12):Rep (Lm T) (fifR T i) (fA T i) (fB T i) (fC T i):=by
 have hL:=YbT h
 have r32:Rep (Lm T) (ofRF 3 2).1 (-Lm T) (Lm T) 0:=by
   rw[of_32]
   exact⟨by decide+kernel,by simp,by simp,by simp,rfl,rfl,rfl⟩
 have hf:=Ys3 h hi
 have hb:bB T<=25/\bC T<=2/\0<=bB T/\0<=bC T:=by unfold bB bC;split <;> omega
 have m1:=Int.mul_le_mul_of_nonneg_right hb.1 (show 0<=Lm T by omega)
 have m2:=Int.mul_le_mul_of_nonneg_right hb.2.1 (show 0<=Lm T by omega)
 have e1: -Lm T+ -1*(cA T*tI T i)=fA T i:=by unfold fA;omega
 have e2:Lm T+ -1*(cB T*tI T i)=fB T i:=by unfold fB;omega
 have e3:0+ -1*(cC T*tI T i)=fC T i:=by unfold fC;omega
 have:=(YeA (s:= -1) (by omega) r32 (YwR h hi) (by rw[e1];unfold sm;omega) (by rw[e2];unfold sm;omega) (by rw[e3];unfold sm;omega)).2
 exact this.cast e1 e2 e3
def sumF(f:Nat->Int)(w:Int):Nat->Int
 |0=>0
 |i+1=>sumF f w i+(if(i:Int)=w then 0 else f i)
theorem Yja{f:Nat->Int}{w B:Int}(hB:0<=B)(h:∀i,i<12-> -B<=f i/\f i<=B)(i:Nat):∀d,i+d<=12-> -(B*d)<=sumF f w (i+d)-sumF f w i/\sumF f w (i+d)-sumF f w i<=B*d
 |0,_=>by simp
 |d+1,hd=>by
   have ih:=Yja hB h (w:=w) i d (by omega)
   rw[<-Nat.add_assoc,sumF]
   have:=h (i+d) (by omega)
   have e:B*((d+1:Nat):Int)=B*d+B:=by rw[Int.natCast_add,Int.mul_add];simp
   rw[e]
   split <;> omega
def gA(T:Tm)(i:Nat):Int:=sumF (fA T) T.wolf i
def gB(T:Tm)(i:Nat):Int:=sumF (fB T) T.wolf i
def gC(T:Tm)(i:Nat):Int:=sumF (fC T) T.wolf i
theorem Yhi{T:Tm}(h:YY T=0):0<=bB T*Lm T/\bB T*Lm T<=3000/\0<=bC T*Lm T/\bC T*Lm T<=240:=by
 have hL:=YbT h
 have hb:bB T<=25/\bC T<=2/\0<=bB T/\0<=bC T:=by unfold bB bC;split <;> omega
 have m1:=Int.mul_le_mul_of_nonneg_right hb.1 (show 0<=Lm T by omega)
 have m2:=Int.mul_le_mul_of_nonneg_right hb.2.1 (show 0<=Lm T by omega)
 exact⟨YC8 hb.2.2.1 (by omega),by omega,YC8 hb.2.2.2 (by omega),by omega⟩
theorem g_bd{T:Tm}(h:YY T=0)(i d:Nat)(hd:i+d<=12):(-(39*Lm T*d)<=gA T (i+d)-gA T i/\gA T (i+d)-gA T i<=39*Lm T*d)/\(-(bB T*Lm T*d)<=gB T (i+d)-gB T i/\gB T (i+d)-gB T i<=bB T*Lm T*d)/\ -(bC T*Lm T*d)<=gC T (i+d)-gC T i/\gC T (i+d)-gC T i<=bC T*Lm T*d:=by
 have hL:=YbT h
 have hb:=Yhi h
 exact⟨Yja (by omega) (fun j hj=>(Ys3 h hj).1) i d hd,Yja hb.1 (fun j hj=>(Ys3 h hj).2.1) i d hd,Yja hb.2.2.1 (fun j hj=>(Ys3 h hj).2.2) i d hd⟩
theorem YiQ{B:Int}{d n:Nat}(hB:0<=B)(h:d<=n):B*d<=B*n:=YDg (by omega) hB
theorem YnF{T:Tm}(h:YY T=0):∀i,i<=12->Rep (Lm T) (YaN T i) (7*Lm T-gA T i) (-gB T i) (-gC T i)
 |0,_=>by
   rw[YaN,YAK]
   exact⟨by decide+kernel,by show 7*Lm T=(7*Lm T-0)*1;omega,by show 0*Lm T=(-0)*1;simp,by show 0*Lm T=(-0)*1;simp,rfl,rfl,rfl⟩
 |i+1,hi=>by
   have ih:=YnF h i (by omega)
   have hL:=YbT h
   have hb:=Yhi h
   have bd:=g_bd h 0 (i+1) (by omega)
   have z:gA T 0=0/\gB T 0=0/\gC T 0=0:=⟨rfl,rfl,rfl⟩
   rw[YDH,z.1,z.2.1,z.2.2]at bd
   have m1:=YiQ (show 0<=39*Lm T by omega) hi
   have m2:=YiQ hb.1 hi
   have m3:=YiQ hb.2.2.1 hi
   rw[YaN]
   by_cases c:(i:Int)=T.wolf
   . rw[if_pos c]
     refine ih.cast ?_ ?_ ?_
     . unfold gA;rw[sumF,if_pos c];omega
     . unfold gB;rw[sumF,if_pos c];omega
     . unfold gC;rw[sumF,if_pos c];omega
   . rw[if_neg c]
     have e1:7*Lm T-gA T i+ -1*fA T i=7*Lm T-gA T (i+1):=by unfold gA;rw[sumF,if_neg c];omega
     have e2: -gB T i+ -1*fB T i= -gB T (i+1):=by unfold gB;rw[sumF,if_neg c];omega
     have e3: -gC T i+ -1*fC T i= -gC T (i+1):=by unfold gC;rw[sumF,if_neg c];omega
     have:=(YeA (s:= -1) (by omega) ih (Yp9 h (show i<12 by omega)) (by rw[e1];unfold sm;omega) (by rw[e2];unfold sm;omega) (by rw[e3];unfold sm;omega)).2
     exact this.cast e1 e2 e3
def sA(T:Tm)(i:Nat):Int:=gA T i+(if T.wolf<i then 7*Lm T-gA T 12 else 0)
def sB(T:Tm)(i:Nat):Int:=gB T i+(if T.wolf<i then -gB T 12 else 0)
def sC(T:Tm)(i:Nat):Int:=gC T i+(if T.wolf<i then -gC T 12 else 0)
theorem s_bd{T:Tm}(h:YY T=0){i m:Nat}(hi:i<=12)(hm:i<=T.wolf->i<=m)(hm2:T.wolf<i->12-i<=m):(-(39*Lm T*12)-7*Lm T<=sA T i/\sA T i<=39*Lm T*12+7*Lm T)/\(-(bB T*Lm T*m)<=sB T i/\sB T i<=bB T*Lm T*m)/\ -(bC T*Lm T*m)<=sC T i/\sC T i<=bC T*Lm T*m:=by
 have hL:=YbT h
 have hb:=Yhi h
 unfold sA sB sC
 by_cases c:T.wolf<i
 . have bd:=g_bd h i (12-i) (by omega)
   rw[show i+(12-i)=12 by omega]at bd
   rw[if_pos c,if_pos c,if_pos c]
   have m1:=YiQ (show 0<=39*Lm T by omega) (show 12-i<=12 by omega)
   have m2:=YiQ hb.1 (hm2 c)
   have m3:=YiQ hb.2.2.1 (hm2 c)
   omega
 . have bd:=g_bd h 0 i (by omega)
   have z:gA T 0=0/\gB T 0=0/\gC T 0=0:=⟨rfl,rfl,rfl⟩
   rw[YDH,z.1,z.2.1,z.2.2]at bd
   rw[if_neg c,if_neg c,if_neg c]
   have m1:=YiQ (show 0<=39*Lm T by omega) hi
   have m2:=YiQ hb.1 (hm (by omega))
   have m3:=YiQ hb.2.2.1 (hm (by omega))
   omega
theorem Yn8{T:Tm}(h:YY T=0){k:Nat}(hk:k<12):Rep (Lm T) (Yby T k) (sA T (k+1)-sA T k) (sB T (k+1)-sB T k) (sC T (k+1)-sC T k):=by
 obtain⟨hw,_⟩:=YdZ h
 unfold Yby
 by_cases c:k=T.wolf.toNat
 . rw[if_pos c]
   have c2:(k:Int)=T.wolf:=by omega
   have w1:T.wolf<((k+1:Nat):Int):=by omega
   have w2:¬T.wolf<(k:Int):=by omega
   have gw:∀f:Nat->Int,sumF f T.wolf (k+1)=sumF f T.wolf k:=fun f=>by rw[sumF,if_pos c2,Int.add_zero]
   refine(YnF h 12 (by decide)).cast ?_ ?_ ?_
   . unfold sA;rw[if_pos w1,if_neg w2];unfold gA;rw[gw];omega
   . unfold sB;rw[if_pos w1,if_neg w2];unfold gB;rw[gw];omega
   . unfold sC;rw[if_pos w1,if_neg w2];unfold gC;rw[gw];omega
 . rw[if_neg c,fifL,if_pos hk]
   have c2:¬(k:Int)=T.wolf:=by omega
   rw[if_neg c2]
   refine(Yp9 h hk).cast ?_ ?_ ?_
   . unfold sA gA;rw[sumF,if_neg c2];split <;> split <;> omega
   . unfold sB gB;rw[sumF,if_neg c2];split <;> split <;> omega
   . unfold sC gC;rw[sumF,if_neg c2];split <;> split <;> omega
theorem Ynv{T:Tm}(h:YY T=0):∀i,i<=12->Rep (Lm T) (notL T i).2 (sA T i) (sB T i) (sC T i)
 |0,_=>by
   obtain⟨hw,_⟩:=YdZ h
   rw[notL]
   show Rep (Lm T) (ofRF 1 1).1 _ _ _
   rw[of_11]
   have c:¬T.wolf<((0:Nat):Int):=by omega
   refine⟨by decide+kernel,?_,?_,?_,rfl,rfl,rfl⟩
   . show 0*Lm T=sA T 0*1
     unfold sA;rw[if_neg c];unfold gA sumF;simp
   . show 0*Lm T=sB T 0*1
     unfold sB;rw[if_neg c];unfold gB sumF;simp
   . show 0*Lm T=sC T 0*1
     unfold sC;rw[if_neg c];unfold gC sumF;simp
 |i+1,hi=>by
   have ih:=Ynv h i (by omega)
   have hL:=YbT h
   have hb:=Yhi h
   have bd:=s_bd h (i:=i+1) (m:=12) (by omega) (by omega) (by omega)
   rw[notL]
   show Rep (Lm T) (YaI (notL T i).2 (Yby T i) 1).1 _ _ _
   have e1:sA T i+1*(sA T (i+1)-sA T i)=sA T (i+1):=by omega
   have e2:sB T i+1*(sB T (i+1)-sB T i)=sB T (i+1):=by omega
   have e3:sC T i+1*(sC T (i+1)-sC T i)=sC T (i+1):=by omega
   have:=(YeA (s:=1) (by omega) ih (Yn8 h (show i<12 by omega)) (by rw[e1];unfold sm;omega) (by rw[e2];unfold sm;omega) (by rw[e3];unfold sm;omega)).2
   exact this.cast e1 e2 e3
theorem Yrc(T:Tm):∀i j,j<i->i<=12->(notL T i).1 (7*j%12)=(YcT (notL T j).2).1
 |i+1,j,hj,hi=>by
   rw[notL]
   show YrJ (notL T i).1 (7*i%12) (YcT (notL T i).2).1 (7*j%12)=_
   unfold YrJ
   by_cases c:j=i
   . subst c;rw[if_pos rfl]
   . rw[if_neg (by omega)]
     exact Yrc T i j (by omega) (by omega)
theorem YgD{T:Tm}(h:YY T=0){j:Nat}(hj:j<12):∃k:Int,Rep (Lm T) (Yp T (7*j%12)) (sA T j-k*Lm T) (sB T j) (sC T j)/\Le0 (sA T j-k*Lm T-Lm T) (sB T j) (sC T j)/\Le0 (8* -(sA T j-k*Lm T)-Lm T) (8* -sB T j) (8* -sC T j):=by
 obtain⟨hw,_⟩:=YdZ h
 have hL:=YbT h
 have hb:=Yhi h
 have bd:=s_bd h (i:=j) (m:=11) (by omega) (by omega) (by omega)
 obtain⟨k,_,h1,h2,h3⟩:=Ys8 (by omega) (Ynv h j (by omega)) (by unfold sm;omega) (by unfold sm;omega) (by unfold sm;omega) (by omega)
 refine⟨k,?_,h2,h3⟩
 rw[Yp,Yrc T 12 j hj (YCY _)]
 exact h1
theorem YsU{c:Nat}(hc:c<12):∃j,j<12/\7*j%12=c:=⟨7*c%12,by omega,by omega⟩
theorem Yrd{T:Tm}(h:YY T=0){note:Int}(hn:0<=note):∃a b c:Int,Rep (Lm T) (Ycu (Yp T) note) a b c/\Le0 (8*a-9*Lm T) (8*b) (8*c)/\Le0 (8* -a-9*Lm T) (8* -b) (8* -c):=by
 obtain⟨hw,_⟩:=YdZ h
 have hL:=YbT h
 have hb:=Yhi h
 obtain⟨j,hj,hjc⟩:=YsU (c:=(note%12).toNat) (by omega)
 obtain⟨k,r1,l1,l2⟩:=YgD h hj
 obtain⟨k9,r9,m1,m2⟩:=YgD h (show 3<12 by decide)
 rw[hjc]at r1
 rw[show 7*3%12=9 from rfl]at r9
 have bd:=s_bd h (i:=j) (m:=11) (by omega) (by omega) (by omega)
 have b9:=s_bd h (i:=3) (m:=9) (by omega) (by omega) (by omega)
 have u:=Yqx ((Yc0 (m:=8) (by decide)).2 l1) m2
 have d:=Yqx l2 ((Yc0 (m:=8) (by decide)).2 m1)
 have u2:Le0 (8*(sA T j-k*Lm T+ -1*(sA T 3-k9*Lm T))-9*Lm T) (8*(sB T j+ -1*sB T 3)) (8*(sC T j+ -1*sC T 3)):=YeC u (by omega) (by omega) (by omega)
 have d2:Le0 (8* -(sA T j-k*Lm T+ -1*(sA T 3-k9*Lm T))-9*Lm T) (8* -(sB T j+ -1*sB T 3)) (8* -(sC T j+ -1*sC T 3)):=YeC d (by omega) (by omega) (by omega)
 have q1:=YeB u2
 have q2:=YeB d2
 have hbc:(bB T=25/\bC T=0)\/(bB T=9/\bC T=2):=by unfold bB bC;split <;> simp
 have hab: -98000<=sA T j-k*Lm T+ -1*(sA T 3-k9*Lm T)/\sA T j-k*Lm T+ -1*(sA T 3-k9*Lm T)<=98000:=by
   rcases hbc with⟨e1,e2⟩ | ⟨e1,e2⟩
   . rw[e1,e2]at bd b9;omega
   . rw[e1,e2]at bd b9;omega
 have hj2:=(YeA (s:= -1) (by omega) r1 r9 (by unfold sm;omega) (by unfold sm;rcases hbc with⟨e1,e2⟩ | ⟨e1,e2⟩ <;> (rw[e1,e2]at bd b9;omega)) (by unfold sm;rcases hbc with⟨e1,e2⟩ | ⟨e1,e2⟩ <;> (rw[e1,e2]at bd b9;omega))).2
 exact⟨_,_,_,hj2,u2,d2⟩
theorem YuF{x y z:Int}{n:Nat}(h:Le0 (x+ -(n:Int)) y z):UP x y z<=UP (-x) (-y) (-z)*2^n:=by
 have e:=Ymz x y z (-(n:Int)) 0 0
 rw[Int.neg_neg,Int.neg_zero,Int.add_zero,Int.add_zero,(UP_2 n).1,(UP_2 n).2,YDN]at e
 unfold Le0 at h
 have p:=Yas (x+ -(n:Int)) y z
 have p2:=Yas (-(x+ -(n:Int))) (-y) (-z)
 refine Nat.le_of_mul_le_mul_left (c:=UP (-(x+ -(n:Int))) (-y) (-z)) ?_ p2
 rw[<-e]
 exact YCT _ h
theorem YtD{T:Tm}(h:YY T=0){note:Int}(hn:0<=note):∃(r:Rt) (n:Nat),Ycu (Yp T) note=r/\r.n=n/\(1<=n/\n<=1000)/\(∃L a b c,Rep L r a b c)/\UP r.a r.b r.c^8<=UP (-r.a) (-r.b) (-r.c)^8*2^(9*n)/\UP (-r.a) (-r.b) (-r.c)^8<=UP r.a r.b r.c^8*2^(9*n):=by
 obtain⟨a,b,c,hr,hu,hd⟩:=Yrd h hn
 have hL:=YbT h
 have hnr:=hr.n_rng
 obtain⟨r,hre⟩:∃r,r=Ycu (Yp T) note:=⟨_,rfl⟩
 rw[<-hre]at hr hnr
 obtain⟨n,hnn⟩:∃n:Nat,r.n=n:=⟨r.n.toNat,by omega⟩
 obtain⟨M,hM⟩:∃M:Nat,Lm T=M:=⟨(Lm T).toNat,by omega⟩
 have ha:=hr.ha
 have hb:=hr.hb
 have hc:=hr.hc
 rw[hM,hnn]at ha hb hc
 rw[hM]at hu hd
 have scale:∀{x y z x' y' z':Int},x'*M=x*n->y'*M=y*n->z'*M=z*n->Le0 x y z->Le0 x' y' z':=fun h1 h2 h3 h0=>by
   have h4:=(Yc0 (m:=n) (by omega)).2 h0
   refine(Yc0 (m:=M) (by omega)).1 (YeC h4 ?_ ?_ ?_)
   . rw[Int.mul_comm,<-h1,Int.mul_comm]
   . rw[Int.mul_comm,<-h2,Int.mul_comm]
   . rw[Int.mul_comm,<-h3,Int.mul_comm]
 have u:Le0 (8*r.a+ -((9*n:Nat):Int)) (8*r.b) (8*r.c):=scale (by rw[Int.natCast_mul];grind) (by grind) (by grind) hu
 have d:Le0 (8* -r.a+ -((9*n:Nat):Int)) (8* -r.b) (8* -r.c):=scale (by rw[Int.natCast_mul];grind) (by grind) (by grind) hd
 have e8:∀x y z:Int,UP (8*x) (8*y) (8*z)=UP x y z^8:=fun x y z=>YmA 8 x y z
 have u3:=YuF u
 have d3:=YuF d
 rw[<-Int.mul_neg,<-Int.mul_neg,<-Int.mul_neg,e8,e8]at u3
 rw[<-Int.mul_neg,<-Int.mul_neg,<-Int.mul_neg,Int.neg_neg,Int.neg_neg,Int.neg_neg,e8,e8]at d3
 exact⟨r,n,hre.symm,hnn,by omega,⟨_,_,_,_,hr⟩,u3,d3⟩
set_option maxHeartbeats 4000000
def v100:VF:=⟨41,[.cell 10 true 27],(ZR [u1 10 (.alloc [(.val (.string ⟨#[]⟩)),(.bool false),(.int .i64 0),(.int .i64 0),(.int .i64 0),(.int .i64 0),(.int .i64 0),(.int .i64 0),(.int .i64 0),(.int .i64 0),(.int .i64 0),(.int .i64 0),(.int .i64 0),(.int .i64 0),(.int .i64 0),(.int .i64 0),(.int .i64 0),(.int .i64 0),(.int .i64 0),(.int .i64 0),(.int .i64 0),(.int .i64 0),(.int .i64 0),(.int .i64 0),(.int .i64 0),(.int .i64 0),(.int .i64 0)]) []] (ZR [Zm 14 0,Zm 15 1,Zm 16 2,u1 17 (.build [(.val (.string ⟨#[]⟩)),(.bool false),(.int .i64 0),(.int .i64 0),(.int .i64 0),(.int .i64 0),(.int .i64 0),(.int .i64 0),(.int .i64 0),(.int .i64 0),(.int .i64 0),(.int .i64 0),(.int .i64 0),(.int .i64 0),(.int .i64 0),(.int .i64 0),(.int .i64 0),(.int .i64 0),(.int .i64 0),(.int .i64 0),(.int .i64 0),(.int .i64 0),(.int .i64 0),(.int .i64 0),(.int .i64 0),(.int .i64 0),(.int .i64 0)] [(0,1),(1,1),(2,1)]) [.tm 14,.tm 15,.tm 16],u1 11 (.alloc [(.val (.string ⟨#[]⟩)),(.bool false),(.int .i64 0),(.int .i64 0),(.int .i64 0),(.int .i64 0),(.int .i64 0),(.int .i64 0),(.int .i64 0),(.int .i64 0),(.int .i64 0),(.int .i64 0),(.int .i64 0),(.int .i64 0),(.int .i64 0),(.int .i64 0),(.int .i64 0),(.int .i64 0),(.int .i64 0),(.int .i64 0),(.int .i64 0),(.int .i64 0),(.int .i64 0),(.int .i64 0),(.int .i64 0),(.int .i64 0),(.int .i64 0)]) [],Zs 27 11 17] (.seq (ZR [Zi 12 0] (.block 0 (.loop (.seq (ZR [Zm 18 12,Zq 19 .lss 18 12] (ZC 19 .skip (.exit 0))) (.seq (.block 1 (.region [Zm 22 12,u1 23 (.build [(.int .i64 0),(.int .i64 0)] [(0,1),(1,1)]) [.cn (.int .i64 0),.cn (.int .i64 1)],Za 24 3 11,u1 25 (.idxArr 12 2) [.tm 24,.tm 22],Zs 2 25 23])) (.region [Zm 20 12,Zp 21 20 1,Zm 12 21])))))) (.seq (ZR [Zi 13 0] (.block 2 (.loop (.seq (ZR [Zm 26 13,Zm 27 4,Zl 28 27,Zr 29 .lss 26 28] (ZC 29 .skip (.exit 2))) (.seq (.block 3 (.region [Zm 32 4,Zm 33 13,Zx 34 1 32 33,Zf 35 1 34,Zm 36 3,u1 37 (.build [(.int .i64 0),(.int .i64 0)] [(0,1),(1,1)]) [.cn (.int .i64 1),.tm 36],Za 38 3 11,u1 39 (.idxArr 12 2) [.tm 38,.tm 35],Zs 2 39 37])) (.region [Zm 30 13,Zp 31 30 1,Zm 13 31])))))) (ZR [Zt 40 27 11,Zs 27 10 40] .ret)))))⟩
theorem Yxx:Yh YCS Tryz.f100=some v100:=by kernel_rfl
def v78:VF:=⟨40,[.cell 2 true 27,.tmp 3],(ZR [u1 2 (.alloc [(.val (.string ⟨#[]⟩)),(.bool false),(.int .i64 0),(.int .i64 0),(.int .i64 0),(.int .i64 0),(.int .i64 0),(.int .i64 0),(.int .i64 0),(.int .i64 0),(.int .i64 0),(.int .i64 0),(.int .i64 0),(.int .i64 0),(.int .i64 0),(.int .i64 0),(.int .i64 0),(.int .i64 0),(.int .i64 0),(.int .i64 0),(.int .i64 0),(.int .i64 0),(.int .i64 0),(.int .i64 0),(.int .i64 0),(.int .i64 0),(.int .i64 0)]) [],Zi 3 0] (.seq (ZR [Zm 4 0] (.block 0 (ZR [u1 6 (.eqStr false) [.tm 4,.cn (.val (.string ⟨#[101,113,117,97,108]⟩))],Zm 5 6] (ZC 5 (ZR [Zm 7 0,u1 8 (.buildSlice 1 11 [(.int .i64 0)] [(0,1),(1,1),(2,1),(3,1),(4,1),(5,1),(6,1),(7,1),(8,1),(9,1),(10,1)]) [.cn (.int .i64 0),.cn (.int .i64 1),.cn (.int .i64 2),.cn (.int .i64 3),.cn (.int .i64 4),.cn (.int .i64 5),.cn (.int .i64 6),.cn (.int .i64 7),.cn (.int .i64 8),.cn (.int .i64 9),.cn (.int .i64 10)],u1 9 (.call 100) [.tm 7,.cn (.bool false),.cn (.int .i64 11),.cn (.int .i64 12),.tm 8],Zs 27 2 9,Zi 3 0] .ret) (ZR [u1 11 (.eqStr false) [.tm 4,.cn (.val (.string ⟨#[112,121,116,104,97,103,111,114,101,97,110]⟩))],Zm 10 11] (ZC 10 (ZR [Zm 12 0,u1 13 (.call 100) [.tm 12,.cn (.bool false),.cn (.int .i64 8),.cn (.int .i64 1),.cn .nil],Zs 27 2 13,Zi 3 0] .ret) (ZR [u1 15 (.eqStr false) [.tm 4,.cn (.val (.string ⟨#[109,101,97,110,116,111,110,101]⟩))],Zm 14 15] (ZC 14 (ZR [Zm 16 0,u1 17 (.buildSlice 1 11 [(.int .i64 0)] [(0,1),(1,1),(2,1),(3,1),(4,1),(5,1),(6,1),(7,1),(8,1),(9,1),(10,1)]) [.cn (.int .i64 0),.cn (.int .i64 1),.cn (.int .i64 2),.cn (.int .i64 3),.cn (.int .i64 4),.cn (.int .i64 5),.cn (.int .i64 6),.cn (.int .i64 7),.cn (.int .i64 9),.cn (.int .i64 10),.cn (.int .i64 11)],u1 18 (.call 100) [.tm 16,.cn (.bool true),.cn (.int .i64 8),.cn (.int .i64 4),.tm 17],Zs 27 2 18,Zi 3 0] .ret) (ZR [u1 20 (.eqStr false) [.tm 4,.cn (.val (.string ⟨#[119,101,114,99,107,109,101,105,115,116,101,114]⟩))],Zm 19 20] (ZC 19 (ZR [Zm 21 0,u1 22 (.buildSlice 1 4 [(.int .i64 0)] [(0,1),(1,1),(2,1),(3,1)]) [.cn (.int .i64 0),.cn (.int .i64 1),.cn (.int .i64 2),.cn (.int .i64 5)],u1 23 (.call 100) [.tm 21,.cn (.bool false),.cn (.int .i64 11),.cn (.int .i64 4),.tm 22],Zs 27 2 23,Zi 3 0] .ret) (ZR [u1 25 (.eqStr false) [.tm 4,.cn (.val (.string ⟨#[107,105,114,110,98,101,114,103,101,114]⟩))],Zm 24 25] (ZC 24 (ZR [Zm 26 0,u1 27 (.buildSlice 1 4 [(.int .i64 0)] [(0,1),(1,1),(2,1),(3,1)]) [.cn (.int .i64 0),.cn (.int .i64 1),.cn (.int .i64 2),.cn (.int .i64 3)],u1 28 (.call 100) [.tm 26,.cn (.bool true),.cn (.int .i64 6),.cn (.int .i64 4),.tm 27],Zs 27 2 28,Zi 3 0] .ret) (ZR [u1 30 (.eqStr false) [.tm 4,.cn (.val (.string ⟨#[118,97,108,108,111,116,116,105]⟩))],Zm 29 30] (ZC 29 (ZR [Zm 31 0,u1 32 (.buildSlice 1 6 [(.int .i64 0)] [(0,1),(1,1),(2,1),(3,1),(4,1),(5,1)]) [.cn (.int .i64 0),.cn (.int .i64 1),.cn (.int .i64 2),.cn (.int .i64 3),.cn (.int .i64 4),.cn (.int .i64 11)],u1 33 (.call 100) [.tm 31,.cn (.bool false),.cn (.int .i64 6),.cn (.int .i64 6),.tm 32],Zs 27 2 33,Zi 3 0] .ret) (ZR [u1 35 (.eqStr false) [.tm 4,.cn (.val (.string ⟨#[121,111,117,110,103]⟩))],Zm 34 35] (ZC 34 (ZR [Zm 36 0,u1 37 (.buildSlice 1 6 [(.int .i64 0)] [(0,1),(1,1),(2,1),(3,1),(4,1),(5,1)]) [.cn (.int .i64 0),.cn (.int .i64 1),.cn (.int .i64 2),.cn (.int .i64 3),.cn (.int .i64 4),.cn (.int .i64 5)],u1 38 (.call 100) [.tm 36,.cn (.bool false),.cn (.int .i64 11),.cn (.int .i64 6),.tm 37],Zs 27 2 38,Zi 3 0] .ret) .skip)))))))))))))))) (ZR [u1 39 (.build [(.val (.string ⟨#[]⟩)),(.bool false),(.int .i64 0),(.int .i64 0),(.int .i64 0),(.int .i64 0),(.int .i64 0),(.int .i64 0),(.int .i64 0),(.int .i64 0),(.int .i64 0),(.int .i64 0),(.int .i64 0),(.int .i64 0),(.int .i64 0),(.int .i64 0),(.int .i64 0),(.int .i64 0),(.int .i64 0),(.int .i64 0),(.int .i64 0),(.int .i64 0),(.int .i64 0),(.int .i64 0),(.int .i64 0),(.int .i64 0),(.int .i64 0)] []) [],Zs 27 2 39,Zi 3 4] .ret)))⟩
theorem YCq:Yh YCS Tryz.f78=some v78:=by kernel_rfl
def v47:VF:=⟨11,[.cell 2 true 27],(ZR [u1 2 (.alloc [(.val (.string ⟨#[]⟩)),(.bool false),(.int .i64 0),(.int .i64 0),(.int .i64 0),(.int .i64 0),(.int .i64 0),(.int .i64 0),(.int .i64 0),(.int .i64 0),(.int .i64 0),(.int .i64 0),(.int .i64 0),(.int .i64 0),(.int .i64 0),(.int .i64 0),(.int .i64 0),(.int .i64 0),(.int .i64 0),(.int .i64 0),(.int .i64 0),(.int .i64 0),(.int .i64 0),(.int .i64 0),(.int .i64 0),(.int .i64 0),(.int .i64 0)]) []] (ZR [Zm 6 0,Zc 7 78 6,Zm 5 7,Ze 8 0 5,Ze 9 1 5,u1 3 (.alloc [(.val (.string ⟨#[]⟩)),(.bool false),(.int .i64 0),(.int .i64 0),(.int .i64 0),(.int .i64 0),(.int .i64 0),(.int .i64 0),(.int .i64 0),(.int .i64 0),(.int .i64 0),(.int .i64 0),(.int .i64 0),(.int .i64 0),(.int .i64 0),(.int .i64 0),(.int .i64 0),(.int .i64 0),(.int .i64 0),(.int .i64 0),(.int .i64 0),(.int .i64 0),(.int .i64 0),(.int .i64 0),(.int .i64 0),(.int .i64 0),(.int .i64 0)]) [],Zs 27 3 8,Zm 4 9] (ZR [Zt 10 27 3,Zs 27 2 10] .ret)))⟩
theorem YCc:Yh YCS Tryz.f47=some v47:=by kernel_rfl
def v46:VF:=⟨5,[.cell 2 true 3],(ZR [u1 2 (.alloc [(.int .i64 0),(.int .i64 0),(.int .i64 0)]) []] (ZR [Zm 3 0,u1 4 (.build [(.int .i64 0),(.int .i64 0),(.int .i64 0)] [(0,1),(1,1),(2,1)]) [.cn (.int .i64 440000),.cn (.int .i64 15000),.tm 3],Zs 3 2 4] .ret))⟩
theorem YCb:Yh YCS Tryz.f46=some v46:=by kernel_rfl
def setP(p:Nat->Int×Int)(i:Nat)(x:Int×Int):Nat->Int×Int:=fun k=>if k=i then x else p k
theorem Ym8(nm:ByteArray)(syn:Bool)(w:Int)(p:Nat->Int×Int){i:Nat}(h:i<12)(a b:Int):
   YJ (encT ⟨nm,syn,w,p⟩) (3+idxN (i:Int) 2) [.int .i64 a,.int .i64 b]=encT ⟨nm,syn,w,setP p i (a,b)⟩:=by
 rcases Yfw h with rfl|rfl|rfl|rfl|rfl|rfl|rfl|rfl|rfl|rfl|rfl|rfl <;> rfl
theorem Yz2(i:Nat):idxN (i:Int) 2=i*2:=by simp [idxN]
def fstP:Nat->Nat->Int×Int
 |0=>fun _=>(0,0)
 |i+1=>setP (fstP i) i (0,1)
def madP(den:Int)(l:List Int):Nat->Int×Int:=l.foldl (fun p x=>setP p x.toNat (1,den)) (fstP 12)
def madC:Ctr:={ alias:=false,of:=fun l=>match l with
 | [.val (.string nm),.bool syn,.int .i64 w,.int .i64 den,.vs _ _ n sz get]=> .ex (List Int) fun l=> .pre (lsP 1 enc1 n sz get l/\l.length<=100/\∀x,x∈l->0<=x/\x<=11) (.fin (.agg (encT ⟨nm,syn,w,madP den l⟩)) [])
 |_=>noC}
theorem Yzp{k:SV->List HO->Prop}{al:Bool}{hp:List HO}{T:Tm}(h:k (.agg (encT T)) []):YH al k (.agg (encT T)) hp:=
 YT h (YP (.agg (encT T)) (Yak T _)) (fun _=>by simp [Yo,Ys,encT,encP])
def TM0:Env:={ ct:=fun _=>none,fn:=fun _=>none,meth:=fun _ _=>none}
theorem Yug:Yr YCS TM0:=by
 refine⟨fun f c h=>?_,fun f vf h=>?_,(fun _ _ _ h=>by cases h),by kernel_rfl,(fun _ h=>by cases h)⟩
 . cases h
 . cases h
theorem mad_c:madC.ok YCS 100:=by
 refine Yb Tryz.func100 Yxx Yug 600 madC fun args k h=>?_
 simp only[madC]at h
 split at h
 . rename_i nm syn w den tt z n sz get
   obtain⟨l,⟨⟨rfl,rfl,hg⟩,hn,hl⟩,h⟩:=h
   refine⟨[.val (.string nm),.bool syn,.int .i64 w,.int .i64 den,.vs tt z l.length 1 (fun k=>enc1 (l.getD k default))],⟨⟨rfl,trivial⟩,rfl,⟨rfl,rfl⟩,⟨rfl,rfl⟩,⟨id,rfl,rfl,rfl,hg⟩,trivial⟩,?_⟩
   dsimp only[v100,enc1,go_sem,reduceIte,YCL]
   simp only[Yc,YCL,YCN,reduceCtorEq,YCM]
   refine⟨rfl,rfl,?_⟩
   refine Loop.keep [3,0,5,0] Nat (fun i=>[(12,.int .i64 i)]) (fun i=>[(1,.box (encT ⟨nm,syn,w,fstP i⟩))]) [] (fun i=>i<=12) (fun i=>12-i) ?_ ?_
   . refine⟨0,by omega,?_⟩
     dsimp only[encT,encP,fstP,go_sem,reduceIte,YCL]
     simp only[Ya]
     repeat' apply YC1
     all_goals first|exact trivial|decide|rfl|omega|exact(YDk (by omega)).symm|exact Yi _ (Yak _ _) |simp
   . rintro i hi
     dsimp only[YCP,go_sem,reduceIte,YCL]
     simp only[Yc,YCL,YCN,reduceCtorEq,YCM]
     refine⟨fun hlt=>?_,fun hge=>?_⟩
     . have hi12:i<12:=by omega
       rw[Ym8 _ _ _ _ hi12,YCQ ((i:Int)+1) (by omega)]
       refine⟨⟨by omega,by omega⟩,by rw[Yz2,lenT];omega,i+1,by omega,by omega,?_⟩
       simp only[Ya]
       refine⟨⟨by decide,by decide,by simp⟩,Yi _ (Yak _ _)⟩
     . obtain rfl:i=12:=by omega
       refine Loop.keep [3,0,5,0] Nat (fun i=>[(13,.int .i64 i)]) (fun i=>[(1,.box (encT ⟨nm,syn,w,madP den (l.take i)⟩))]) [] (fun i=>i<=l.length) (fun i=>l.length-i) ?_ ?_
       . refine⟨0,by omega,?_⟩
         dsimp only[go_sem,reduceIte,YCL]
         simp only[Ya]
         refine⟨⟨by decide,by decide,rfl⟩,Yi _ (Yak _ _)⟩
       . rintro i hi
         dsimp only[YCP,go_sem,reduceIte,YCL]
         simp only[Yc,YCL,YCN,reduceCtorEq,YCM]
         refine⟨fun hlt=>?_,fun hge=>?_⟩
         . have hil:i<l.length:=by omega
           have hx:=hl _ (YG hil)
           obtain⟨m,hm⟩:∃m:Nat,l.getD i default=(m:Int):=⟨(l.getD i default).toNat,by omega⟩
           have hm12:m<12:=by omega
           rw[hm,Ym8 _ _ _ _ hm12,YhU hil (by omega)]
           have hS:madP den (l.take (i+1))=setP (madP den (l.take i)) m (1,den):=by
             rw[madP,YN hil,hm,YCP];rfl
           refine⟨⟨by omega,by omega⟩,⟨by omega,by omega⟩,by rw[Yz2,lenT];omega,i+1,by omega,by omega,?_⟩
           rw[hS]
           simp only[Ya]
           refine⟨⟨by decide,by decide⟩,Yi _ (Yak _ _)⟩
         . obtain rfl:i=l.length:=by omega
           rw[List.take_length]
           exact⟨YCY 27,⟨rfl,YbB _⟩,YCY 27,Yzp (T:=⟨nm,syn,w,madP den l⟩) h⟩
 . exact h.1.elim
theorem YnS{a b:ByteArray}:(a.toList==b.toList)=decide (a.data.toList=b.data.toList):=by
 rw[ByteArray.toList_eq,ByteArray.toList_eq]
 by_cases h:a.data.toList=b.data.toList
 . rw[decide_eq_true h,beq_iff_eq];exact h
 . rw[decide_eq_false h,beq_eq_false_iff_ne];exact h
def EQ:Tm:=⟨⟨#[101,113,117,97,108]⟩,false,11,madP 12 [0,1,2,3,4,5,6,7,8,9,10]⟩
def MT:Tm:=⟨⟨#[109,101,97,110,116,111,110,101]⟩,true,8,madP 4 [0,1,2,3,4,5,6,7,9,10,11]⟩
def nmdC:Ctr:={ alias:=false,of:=fun l=>match l with
 | [.val (.string b)]=> .ex Bool fun m=> .pre (b=if m then MT.nm else EQ.nm) (.fin (.agg (encT (if m then MT else EQ))) [])
 |_=>noC}
def stdC:Ctr:={ alias:=false,of:=fun l=>match l with
 | [.val (.string b)]=> .ex Bool fun m=> .pre (b=if m then MT.nm else EQ.nm) (.fin (.tup [.agg (encT (if m then MT else EQ)),.int .i64 0]) [])
 |_=>noC}
theorem Yuk{k:SV->List HO->Prop}{al:Bool}{hp:List HO}{T:Tm}{e:Int}(h:k (.tup [.agg (encT T),.int .i64 e]) []):YH al k (.tup [.agg (encT T),.int .i64 e]) hp:=
 YT h (YP (.tup [.agg (encT T),.int .i64 e]) ⟨Yak T _,trivial,trivial⟩) (fun _=>by simp [Yo,Ys,encT,encP])
theorem elev{k:Nat}(h:k<11):k=0\/k=1\/k=2\/k=3\/k=4\/k=5\/k=6\/k=7\/k=8\/k=9\/k=10:=by omega
def TM1:Env:={ ct:=fun n=>match n with|100=>some madC|_=>none,fn:=fun _=>none,meth:=fun _ _=>none}
theorem Yo4:TM1.ct 100=some madC:=rfl
theorem Yy8:Yr YCS TM1:=by
 refine⟨fun f c h=>?_,fun f vf h=>?_,(fun _ _ _ h=>by cases h),by kernel_rfl,(fun _ h=>by cases h)⟩
 . simp only[TM1]at h
   split at h
   . cases h;exact⟨mad_c,Tryz.f100,Tryz.func100,by kernel_rfl,by kernel_rfl⟩
   . cases h
 . cases h
theorem std_c:stdC.ok YCS 78:=by
 refine Yb Tryz.func78 YCq Yy8 600 stdC fun args k h=>?_
 simp only[stdC]at h
 split at h
 . rename_i b
   obtain⟨m,hb,h⟩:=h
   have h:k (.tup [.agg (encT (if m then MT else EQ)),.int .i64 0]) []:=h
   refine⟨[.val (.string b)],⟨⟨rfl,trivial⟩,trivial⟩,?_⟩
   subst hb
   dsimp only[v78,Yo4,madC,go_sem,reduceIte,YCL]
   simp only[Yc,YCL,YCN,reduceCtorEq,YCM]
   cases m
   . refine⟨fun _=>⟨by decide,[0,1,2,3,4,5,6,7,8,9,10],⟨⟨rfl,rfl,fun j hj=>?_⟩,by decide,by decide⟩,⟨rfl,YbB _⟩,YCY 27,Yuk (T:=EQ) h⟩,fun hf=>?_⟩
     . rcases elev hj with rfl|rfl|rfl|rfl|rfl|rfl|rfl|rfl|rfl|rfl|rfl <;> exact Ye _
     . exact absurd hf (by rw[YnS];decide)
   . refine⟨fun hf=>?_,fun _=>⟨fun hf=>?_,fun _=>⟨fun _=>⟨by decide,[0,1,2,3,4,5,6,7,9,10,11],⟨⟨rfl,rfl,fun j hj=>?_⟩,by decide,by decide⟩,⟨rfl,YbB _⟩,YCY 27,Yuk (T:=MT) h⟩,fun hf=>?_⟩⟩⟩
     . exact absurd hf (by rw[YnS];decide)
     . exact absurd hf (by rw[YnS];decide)
     . rcases elev hj with rfl|rfl|rfl|rfl|rfl|rfl|rfl|rfl|rfl|rfl|rfl <;> exact Ye _
     . exact absurd hf (by rw[YnS];decide)
 . exact h.1.elim
theorem Yvh{k:SV->List HO->Prop}{al:Bool}{hp:List HO}{x y z:Int}(h:k (.agg [.int .i64 x,.int .i64 y,.int .i64 z]) []):YH al k (.agg [.int .i64 x,.int .i64 y,.int .i64 z]) hp:=
 YT h (YP (.agg [.int .i64 x,.int .i64 y,.int .i64 z]) ⟨trivial,trivial,trivial,trivial⟩) (fun _=>by simp [Yo,Ys])
def usu6C:Ctr:={ alias:=false,of:=fun l=>match l with
 | [.int .i64 t]=> .fin (.agg [.int .i64 440000,.int .i64 15000,.int .i64 t]) []
 |_=>noC}
theorem YB1:usu6C.ok YCS 46:=by
 refine Yb Tryz.func46 YCb Yug 600 usu6C fun args k h=>?_
 simp only[usu6C]at h
 split at h
 . rename_i t
   refine⟨[.int .i64 t],by simp [leL,le],?_⟩
   dsimp only[v46,go_sem,reduceIte,YCL]
   simp only[Yc,YCL,YCN,reduceCtorEq,YCM]
   exact Yvh h
 . exact h.1.elim
def TM2:Env:={ ct:=fun n=>match n with|78=>some stdC|_=>none,fn:=fun _=>none,meth:=fun _ _=>none}
theorem Ysu:TM2.ct 78=some stdC:=rfl
theorem Yy9:Yr YCS TM2:=by
 refine⟨fun f c h=>?_,fun f vf h=>?_,(fun _ _ _ h=>by cases h),by kernel_rfl,(fun _ h=>by cases h)⟩
 . simp only[TM2]at h
   split at h
   . cases h;exact⟨std_c,Tryz.f78,Tryz.func78,by kernel_rfl,by kernel_rfl⟩
   . cases h
 . cases h
theorem YAG:nmdC.ok YCS 47:=by
 refine Yb Tryz.func47 YCc Yy9 600 nmdC fun args k h=>?_
 simp only[nmdC]at h
 split at h
 . rename_i b
   obtain⟨m,hb,h⟩:=h
   have h:k (.agg (encT (if m then MT else EQ))) []:=h
   refine⟨[.val (.string b)],⟨⟨rfl,trivial⟩,trivial⟩,?_⟩
   dsimp only[v47,Ysu,stdC,go_sem,reduceIte,YCL]
   simp only[Yc,YCL,YCN,reduceCtorEq,YCM]
   exact⟨m,hb,by decide,by decide,⟨rfl,YbB _⟩,YCY 27,⟨rfl,YbB _⟩,YCY 27,Yzp h⟩
 . exact h.1.elim
def v8:VF:=⟨15,[.cell 6 true 2,.tmp 7],(ZR [u1 3 .box [.tm 0],u1 4 .box [.tm 1],u1 5 .box [.tm 2],Zn 6,Zi 7 0] (ZR [Zt 8 3 3,Zt 9 27 4,Zf 10 1 5,u1 11 (.mkfn (.func 25) 0) [.tm 5,.tm 3],u1 12 (.call 24) [.tm 8,.tm 9,.tm 10,.tm 11],Ze 13 0 12,Ze 14 1 12,Zs 2 6 13,Zm 7 14] .ret))⟩
theorem v8_is:Yh YCS Tryz.f8=some v8:=by kernel_rfl
def v25:VF:=⟨10,[.cell 4 true 2],(ZR [Zn 4] (ZR [Zm 5 0,Zf 6 1 1,Za 7 0 2,Zf 8 1 7,u1 9 (.call 26) [.tm 5,.tm 6,.tm 8],Zs 2 4 9] .ret))⟩
theorem YB7:Yh YCS Tryz.f25=some v25:=by kernel_rfl
def v51:VF:=⟨27,[.tmp 2],(ZR [u1 2 .mov [.cn .nil]] (ZR [Zm 6 0,Zl 7 6,Zp 8 7 4,u1 9 (.make 2 16 [(.int .i64 0),(.int .i64 0)]) [.cn (.int .i64 0),.tm 8],Zm 3 9] (.seq (ZR [Zm 10 0,Zl 11 10,Zi 12 0] (.block 0 (.loop (ZR [Zr 13 .lss 12 11] (.seq (ZC 13 .skip (.exit 0)) (.seq (.block 1 (ZR [Zx 14 2 10 12,Zt 15 2 14,Zn 5,Zs 2 5 15] (.region [Zm 16 3,Za 17 0 5,Zf 18 1 17,Za 19 1 5,Zf 20 1 19,u1 21 .neg [.tm 20],u1 22 (.build [(.int .i64 0),(.int .i64 0)] [(0,1),(1,1)]) [.tm 18,.tm 21],u1 23 (.buildSlice 2 1 [(.int .i64 0),(.int .i64 0)] [(0,2)]) [.tm 22],u1 24 (.append 2 16 [(.int .i64 0),(.int .i64 0)]) [.tm 16,.tm 23],Zm 3 24]))) (.region [Zp 25 12 1,Zm 12 25]))))))) (ZR [Zm 26 3,Zm 2 26] .ret))))⟩
theorem YCg:Yh YCS Tryz.f51=some v51:=by kernel_rfl
def v18:VF:=⟨15,[.cell 6 true 2,.tmp 7],(ZR [u1 3 .box [.tm 0],u1 4 .box [.tm 1],u1 5 .box [.tm 2],Zn 6,Zi 7 0] (ZR [Zt 8 3 3,Zt 9 27 4,Zf 10 1 5,u1 11 (.mkfn (.func 48) 0) [.tm 3,.tm 5],u1 12 (.call 24) [.tm 8,.tm 9,.tm 10,.tm 11],Ze 13 0 12,Ze 14 1 12,Zs 2 6 13,Zm 7 14] .ret))⟩
theorem YB4:Yh YCS Tryz.f18=some v18:=by kernel_rfl
def v48:VF:=⟨39,[.cell 4 true 2],(ZR [Zn 4] (ZR [Zm 7 0,Za 8 1 1,Zf 9 1 8,u1 10 .nilCheck [.tm 7],Za 11 0 10,Za 12 2 11,Zs 1 12 9] (ZR [Zm 14 0,Zf 15 1 2,Zd 16 49 14 15,Zm 13 16,Ze 17 0 13,Ze 18 1 13,Zm 5 17,Zm 6 18] (.seq (.draw [] [Zu 19 6,Zu 20 5,Zy 22 0 1,Zv 23 1 22,Zu 24 6,w1 25 .neg [.tm 24],w1 26 (.build [(.int .i64 0),(.int .i64 0)] [(0,1),(1,1)]) [.tm 23,.tm 25],Zy 27 1 1,Zv 28 1 27,Zu 29 6,w1 30 .quo [.tm 29,.cn (.int .i64 2)],Zu 32 6,w1 33 .neg [.tm 32],w1 34 .quo [.tm 33,.cn (.int .i64 2)],w1 21 (.call 51) [.tm 20],Zz 31 52 28 30,w1 35 (.call 52) [.cn (.int .i64 0),.tm 34],w1 36 (.buildSlice 2 3 [(.int .i64 0),(.int .i64 0)] [(0,2),(2,2),(4,2)]) [.tm 26,.tm 31,.tm 35],⟨u1 37 (.append 2 16 [(.int .i64 0),(.int .i64 0)]) [.tm 21,.tm 36],[.tm 6,.tm 19]⟩,w1 38 (.call 50) [.cn (.int .i64 331300000000),.tm 19,.tm 37],ZS 2 4 38]) .ret))))⟩
theorem YCd:Yh YCS Tryz.f48=some v48:=by kernel_rfl
def v20:VF:=⟨26,[.tmp 2,.tmp 3],(ZR [u1 1 .box [.tm 0],Zi 2 0,Zi 3 0] (.seq (ZR [Zt 8 3 1,Zc 9 53 8,Zm 4 9] (ZR [Zm 10 4,Zq 11 .neq 10 0] (ZC 11 (ZR [Zm 12 4,Zi 2 0,Zm 3 12] .ret) .skip))) (.seq (.draw [] [Zy 14 2 1,Zv 15 1 14,Zy 17 1 1,Zv 18 1 17,w1 16 (.call 52) [.tm 15,.cn (.int .i64 1)],w1 19 (.call 52) [.tm 18,.cn (.int .i64 (-1))],w1 20 (.buildSlice 2 2 [(.int .i64 0),(.int .i64 0)] [(0,2),(2,2)]) [.tm 16,.tm 19],w1 21 (.call 54) [.tm 20,.cn (.int .i64 1),.cn (.int .i64 600000)],Zu 13 21,ZE 22 0 13,ZE 23 1 13,ZE 24 2 13,Zu 5 22,Zu 6 23,Zu 7 24]) (ZR [Zm 25 5,Zm 2 25,Zi 3 0] .ret))))⟩
theorem YB6:Yh YCS Tryz.f20=some v20:=by kernel_rfl
def ngT(x:Int×Int):Int×Int:=(x.1,IntKind.i64.wrap (0-x.2))
def invC:Ctr:={ alias:=false,of:=fun l=>match l with
 | [.vs _ _ n sz get]=> .ex (List (Int×Int)) fun l=> .pre (lsP 2 enc2 n sz get l/\n<=1000000) (.fin (.own 0 0 l.length 2) [.own false 2 l.length (fun k=>enc2 ((l.map ngT).getD k default))])
 |_=>noC}
def TW0:Env:={ ct:=fun _=>none,fn:=fun _=>none,meth:=fun _ _=>none}
theorem Yzc:Yr YCS TW0:=by
 refine⟨fun f c h=>?_,fun f vf h=>?_,(fun _ _ _ h=>by cases h),by kernel_rfl,(fun _ h=>by cases h)⟩
 . cases h
 . cases h
theorem inv_c:invC.ok YCS 51:=by
 refine Yfj Tryz.func51 YCg Yzc 300 invC fun args k h=>?_
 simp only[invC]at h
 split at h
 . rename_i tt z n sz get
   obtain⟨l,⟨⟨rfl,rfl,hg⟩,hn⟩,h⟩:=h
   refine⟨[.vs tt z l.length 2 (fun k=>enc2 (l.getD k default))],⟨⟨id,rfl,rfl,rfl,hg⟩,trivial⟩,?_⟩
   dsimp only[v51,enc2,go_sem,reduceIte,YCL]
   simp only[Yc,YCL,YCN,reduceCtorEq,YCM]
   have hw:IntKind.i64.wrap ((l.length:Int)+4)=((l.length+4:Nat):Int):=by rw[YCQ ((l.length:Int)+4) (by omega)];rfl
   rw[hw]
   refine⟨⟨by decide,by decide,by omega,by unfold Y2;omega⟩,?_⟩
   refine Loop.keep [10,0] Nat (fun i=>[(3,.own 0 0 i 2),(12,.int .i64 i)]) (fun i=>[(0,.own false 2 i (fun k=>enc2 ((l.map ngT).getD k default)))]) [] (fun i=>i<=l.length) (fun i=>l.length-i) ?_ ?_
   . refine⟨0,Nat.zero_le _,?_⟩
     dsimp only[go_sem,reduceIte,YCL]
     simp only[Ya]
     exact⟨⟨⟨rfl,by decide⟩,rfl⟩,rfl,fun q hq=>absurd hq (Nat.not_lt_zero _)⟩
   . rintro i hi
     replace hi:i<=l.length:=hi
     dsimp only[enc2,YCP,go_sem,reduceIte,YCL]
     simp only[Yc,YCL,YCN,reduceCtorEq,YCM]
     refine⟨fun hlt=>⟨⟨by omega,by omega⟩,by decide,⟨by unfold Y2;omega,fun q hq=>one2 hq⟩,i+1,by omega,by omega,?_⟩,fun hge=>?_⟩
     . have hil:i<l.length:=by omega
       rw[YhU hil (by omega)]
       simp only[Ya]
       refine⟨by decide,rfl,fun q hq=>?_⟩
       by_cases hc:q<i
       . rw[if_pos hc];exact Yi _ ⟨trivial,trivial,trivial⟩
       . obtain rfl:q=i:=by omega
         rw[if_neg hc,Nat.sub_self,Ylp hil];exact Yi _ ⟨trivial,trivial,trivial⟩
     . obtain rfl:i=l.length:=by omega
       exact⟨h,trivial,by simp [Ybz,Ys,Yo]⟩
 . exact h.1.elim
def frq6C:Ctr:={ alias:=false,of:=fun l=>match l with
 | [.agg [.int .i64 a,.int .i64 t0,.int .i64 t],.agg cs,.int .i64 note]=> .ex Tm fun T=> .pre (cs=encT T/\T.nm.size<=9223372036854775807/\chkS a t0 t=0/\YY T=0/\0<=note/\note<=139) (.fin (.tup [.agg [.int .i64 (Yd3 (Yp T) t0 t note a).1,.int .i64 (Yd3 (Yp T) t0 t note a).2],.int .i64 0]) [])
 |_=>noC}
def TW1:Env:={ ct:=fun n=>match n with|26=>some freqC|53=>some chkSC|87=>some NotC|_=>none,fn:=fun n=>match n with|24=>some v24|56=>some v56|62=>some v62|25=>some v25|_=>none,meth:=fun _ _=>none}
theorem Yl5:TW1.ct 26=some freqC:=rfl
theorem Yl6:TW1.ct 53=some chkSC:=rfl
theorem Yl9:TW1.ct 87=some NotC:=rfl
theorem Yl3:TW1.ct 24=none:=rfl
theorem Yma:TW1.fn 24=some v24:=rfl
theorem Yl7:TW1.ct 56=none:=rfl
theorem Ymc:TW1.fn 56=some v56:=rfl
theorem Yl8:TW1.ct 62=none:=rfl
theorem Ymd:TW1.fn 62=some v62:=rfl
theorem Yl4:TW1.ct 25=none:=rfl
theorem Ymb:TW1.fn 25=some v25:=rfl
theorem Yzd:Yr YCS TW1:=by
 refine⟨fun f c h=>?_,fun f vf h=>?_,(fun _ _ _ h=>by cases h),by kernel_rfl,(fun _ h=>by cases h)⟩
 . simp only[TW1]at h
   split at h
   . cases h;exact⟨YzW,Tryz.f26,Tryz.func26,by kernel_rfl,by kernel_rfl⟩
   . cases h;exact⟨YpS,Tryz.f53,Tryz.func53,by kernel_rfl,by kernel_rfl⟩
   . cases h;exact⟨YyB,Tryz.f87,Tryz.func87,by kernel_rfl,by kernel_rfl⟩
   . cases h
 . simp only[TW1]at h
   split at h
   . cases h;exact⟨Tryz.f24,Tryz.func24,Yu5,Tryz.f24,Tryz.func24,by kernel_rfl,by kernel_rfl⟩
   . cases h;exact⟨Tryz.f56,Tryz.func56,Yu6,Tryz.f56,Tryz.func56,by kernel_rfl,by kernel_rfl⟩
   . cases h;exact⟨Tryz.f62,Tryz.func62,Yu7,Tryz.f62,Tryz.func62,by kernel_rfl,by kernel_rfl⟩
   . cases h;exact⟨Tryz.f25,Tryz.func25,YB7,Tryz.f25,Tryz.func25,by kernel_rfl,by kernel_rfl⟩
   . cases h
theorem Yux:frq6C.ok YCS 8:=by
 refine Yb Tryz.func8 v8_is Yzd 900 frq6C fun args k h=>?_
 simp only[frq6C]at h
 split at h
 . rename_i a t0 t cs note
   obtain⟨T,⟨rfl,hnm,hS,hT,hn0,hn1⟩,h⟩:=h
   refine⟨[.agg [.int .i64 a,.int .i64 t0,.int .i64 t],.agg (encT T),.int .i64 note],⟨⟨⟨rfl,rfl⟩,⟨rfl,rfl⟩,⟨rfl,rfl⟩,trivial⟩,Yi _ (Yak T _),⟨rfl,rfl⟩,trivial⟩,?_⟩
   dsimp only[v8,YlG,lenT,Yl5,freqC,Yl6,chkSC,Yl9,NotC,Yl3,Yma,v24,Yl7,Ymc,v56,Yl8,Ymd,v62,Yl4,Ymb,v25,go_sem,reduceIte,YCL]
   simp only[Yc,YCL,YCN,reduceCtorEq,YCM]
   refine⟨YbB T,YbB T,YbB T,fun hs=>absurd hS hs,fun hs=>⟨T,⟨rfl,hnm⟩,?_⟩⟩
   rw[if_neg (fun hh=>hh hT)]
   dsimp only[YlG,lenT,Yl5,freqC,Yl6,chkSC,Yl9,NotC,Yl3,Yma,v24,Yl7,Ymc,v56,Yl8,Ymd,v62,Yl4,Ymb,v25,go_sem,reduceIte,YCL]
   simp only[Yc,YCL,YCN,reduceCtorEq,YCM]
   obtain⟨ha,hb0,hb1⟩:=Yeo hS
   refine⟨by decide,by decide,fun hh=>absurd trivial hh,by decide,by decide,fun hh=>absurd trivial hh,fun hc=>?_,fun hc=>⟨Yp T,⟨fun q _=>Ye _,⟨hn0,hn1⟩,hb0,hb1⟩,by decide,by decide,?_⟩⟩
   . simp only[Bool.and_eq_false_iff,decide_eq_false_iff_not]at hc;omega
   . exact Ypr (show k _ []from h)
 . exact h.1.elim
def drfF(t0 t:Int):Int:=(flrF [(273150+t,1),(273150+t0, -1)] 1 600000).1
def drfC:Ctr:={ alias:=false,of:=fun l=>match l with
 | [.agg [.int .i64 a,.int .i64 t0,.int .i64 t]]=> .pre (chkS a t0 t=0) (.fin (.tup [.int .i64 (drfF t0 t),.int .i64 0]) [])
 |_=>noC}
def TW2:Env:={ ct:=fun n=>match n with|53=>some chkSC|52=>some warmC|54=>some flrC|_=>none,fn:=fun _=>none,meth:=fun _ _=>none}
theorem Ysx:TW2.ct 53=some chkSC:=rfl
theorem Ysw:TW2.ct 52=some warmC:=rfl
theorem Ysy:TW2.ct 54=some flrC:=rfl
theorem Yze:Yr YCS TW2:=by
 refine⟨fun f c h=>?_,fun f vf h=>?_,(fun _ _ _ h=>by cases h),by kernel_rfl,(fun _ h=>by cases h)⟩
 . simp only[TW2]at h
   split at h
   . cases h;exact⟨YpS,Tryz.f53,Tryz.func53,by kernel_rfl,by kernel_rfl⟩
   . cases h;exact⟨Yr9,Tryz.f52,Tryz.func52,by kernel_rfl,by kernel_rfl⟩
   . cases h;exact⟨YzT,Tryz.f54,Tryz.func54,by kernel_rfl,by kernel_rfl⟩
   . cases h
 . cases h
theorem drf_c:drfC.ok YCS 20:=by
 refine Yb Tryz.func20 YB6 Yze 600 drfC fun args k h=>?_
 simp only[drfC]at h
 split at h
 . rename_i a t0 t
   obtain⟨hS,h⟩:=h
   have h:k (.tup [.int .i64 (drfF t0 t),.int .i64 0]) []:=h
   refine⟨[.agg [.int .i64 a,.int .i64 t0,.int .i64 t]],by simp [leL,le],?_⟩
   dsimp only[v20,Ysx,chkSC,Ysw,warmC,Ysy,flrC,go_sem,reduceIte,YCL]
   simp only[Yc,YCL,YCN,reduceCtorEq,YCM]
   obtain⟨ha,hb0,hb1⟩:=Yeo hS
   refine⟨fun hh=>absurd hS hh,fun _=>⟨hb1,hb0,by decide,[(273150+t,1),(273150+t0, -1)],⟨rfl,rfl,fun q hq=>?_⟩,by decide,by decide,by decide,Yff h⟩⟩
   rcases(show q=0\/q=1 by omega)with rfl|rfl <;> exact Ye _
 . exact h.1.elim
def wavL(L:Nat->Rt)(a t0 note:Int):List (Int×Int):=
 (YaP L t0 t0 note).1.map ngT++[(a,IntKind.i64.wrap (0-(YaP L t0 t0 note).2)),(273150+t0,IntKind.i64.wrap ((YaP L t0 t0 note).2.tdiv 2)),(273150+0,IntKind.i64.wrap ((IntKind.i64.wrap (0-(YaP L t0 t0 note).2)).tdiv 2))]
def wavF(L:Nat->Rt)(a t0 note:Int):Int×Int:=pspF 331300000000 (wavL L a t0 note) (YaP L t0 t0 note).2
def wavC:Ctr:={ alias:=false,of:=fun l=>match l with
 | [.agg [.int .i64 a,.int .i64 t0,.int .i64 t],.agg cs,.int .i64 note]=> .ex Tm fun T=> .pre (cs=encT T/\T.nm.size<=9223372036854775807/\chkS a t0 t=0/\YY T=0/\0<=note/\note<=139) (.fin (.tup [.agg [.int .i64 (wavF (Yp T) a t0 note).1,.int .i64 (wavF (Yp T) a t0 note).2],.int .i64 0]) [])
 |_=>noC}
def TW3:Env:={ ct:=fun n=>match n with|49=>some termC|51=>some invC|52=>some warmC|50=>some pspC|53=>some chkSC|87=>some NotC|_=>none,fn:=fun n=>match n with|24=>some v24|56=>some v56|62=>some v62|48=>some v48|_=>none,meth:=fun _ _=>none}
theorem Ymg:TW3.ct 49=some termC:=rfl
theorem Ymi:TW3.ct 51=some invC:=rfl
theorem Ymj:TW3.ct 52=some warmC:=rfl
theorem Ymh:TW3.ct 50=some pspC:=rfl
theorem Ymk:TW3.ct 53=some chkSC:=rfl
theorem Ymn:TW3.ct 87=some NotC:=rfl
theorem Yme:TW3.ct 24=none:=rfl
theorem Ymo:TW3.fn 24=some v24:=rfl
theorem Yml:TW3.ct 56=none:=rfl
theorem Ymq:TW3.fn 56=some v56:=rfl
theorem Ymm:TW3.ct 62=none:=rfl
theorem Ymr:TW3.fn 62=some v62:=rfl
theorem Ymf:TW3.ct 48=none:=rfl
theorem Ymp:TW3.fn 48=some v48:=rfl
theorem Yzf:Yr YCS TW3:=by
 refine⟨fun f c h=>?_,fun f vf h=>?_,(fun _ _ _ h=>by cases h),by kernel_rfl,(fun _ h=>by cases h)⟩
 . simp only[TW3]at h
   split at h
   . cases h;exact⟨Yu2,Tryz.f49,Tryz.func49,by kernel_rfl,by kernel_rfl⟩
   . cases h;exact⟨inv_c,Tryz.f51,Tryz.func51,by kernel_rfl,by kernel_rfl⟩
   . cases h;exact⟨Yr9,Tryz.f52,Tryz.func52,by kernel_rfl,by kernel_rfl⟩
   . cases h;exact⟨YAX,Tryz.f50,Tryz.func50,by kernel_rfl,by kernel_rfl⟩
   . cases h;exact⟨YpS,Tryz.f53,Tryz.func53,by kernel_rfl,by kernel_rfl⟩
   . cases h;exact⟨YyB,Tryz.f87,Tryz.func87,by kernel_rfl,by kernel_rfl⟩
   . cases h
 . simp only[TW3]at h
   split at h
   . cases h;exact⟨Tryz.f24,Tryz.func24,Yu5,Tryz.f24,Tryz.func24,by kernel_rfl,by kernel_rfl⟩
   . cases h;exact⟨Tryz.f56,Tryz.func56,Yu6,Tryz.f56,Tryz.func56,by kernel_rfl,by kernel_rfl⟩
   . cases h;exact⟨Tryz.f62,Tryz.func62,Yu7,Tryz.f62,Tryz.func62,by kernel_rfl,by kernel_rfl⟩
   . cases h;exact⟨Tryz.f48,Tryz.func48,YCd,Tryz.f48,Tryz.func48,by kernel_rfl,by kernel_rfl⟩
   . cases h
theorem wav_c:wavC.ok YCS 18:=by
 refine Yb Tryz.func18 YB4 Yzf 900 wavC fun args k h=>?_
 simp only[wavC]at h
 split at h
 . rename_i a t0 t cs note
   obtain⟨T,⟨rfl,hnm,hS,hT,hn0,hn1⟩,h⟩:=h
   refine⟨[.agg [.int .i64 a,.int .i64 t0,.int .i64 t],.agg (encT T),.int .i64 note],⟨⟨⟨rfl,rfl⟩,⟨rfl,rfl⟩,⟨rfl,rfl⟩,trivial⟩,Yi _ (Yak T _),⟨rfl,rfl⟩,trivial⟩,?_⟩
   dsimp only[v18,YlG,lenT,Ymg,termC,Ymi,invC,Ymj,warmC,Ymh,pspC,Ymk,chkSC,Ymn,NotC,Yme,Ymo,v24,Yml,Ymq,v56,Ymm,Ymr,v62,Ymf,Ymp,v48,go_sem,reduceIte,YCL]
   simp only[Yc,YCL,YCN,reduceCtorEq,YCM]
   refine⟨YbB T,YbB T,YbB T,fun hs=>absurd hS hs,fun hs=>⟨T,⟨rfl,hnm⟩,?_⟩⟩
   rw[if_neg (fun hh=>hh hT)]
   dsimp only[YlG,lenT,Ymg,termC,Ymi,invC,Ymj,warmC,Ymh,pspC,Ymk,chkSC,Ymn,NotC,Yme,Ymo,v24,Yml,Ymq,v56,Ymm,Ymr,v62,Ymf,Ymp,v48,go_sem,reduceIte,YCL]
   simp only[Yc,YCL,YCN,reduceCtorEq,YCM]
   obtain⟨ha,hb0,hb1⟩:=Yeo hS
   have hl:=YkT (Yp T) t0 t0 note
   refine⟨by decide,by decide,fun hh=>absurd trivial hh,by decide,by decide,fun hh=>absurd trivial hh,fun hc=>?_,fun hc=>⟨Yp T,⟨fun q _=>Ye _,⟨hn0,hn1⟩,hb0⟩,by decide,by decide,by decide,by decide,(YaP (Yp T) t0 t0 note).1,⟨⟨rfl,rfl,fun q _=>Ye _⟩,by omega⟩,?_⟩⟩
   . simp only[Bool.and_eq_false_iff,decide_eq_false_iff_not]at hc;omega
   refine⟨hb0,by decide,by decide,⟨by unfold Y2;omega,fun q hq=>YrY hq⟩,wavL (Yp T) a t0 note,⟨⟨rfl,by simp [wavL],fun q hq=>?_⟩,by omega⟩,?_⟩
   . have em:((YaP (Yp T) t0 t0 note).1.map ngT).length=(YaP (Yp T) t0 t0 note).1.length:=by simp
     by_cases hc:q<(YaP (Yp T) t0 t0 note).1.length
     . simp only[if_pos hc]
       rw[wavL,Ydz (by omega)]
       exact Ye _
     . simp only[if_neg hc]
       rw[wavL,YdA (by omega),em]
       rcases(show q-(YaP (Yp T) t0 t0 note).1.length=0\/q-(YaP (Yp T) t0 t0 note).1.length=1\/q-(YaP (Yp T) t0 t0 note).1.length=2 by omega)with e|e|e
       . rw[e];exact Ye _
       . rw[e];exact Ye _
       . rw[e];exact Ye _
   exact⟨by decide,by decide,Ypr (show k _ []from h)⟩
 . exact h.1.elim
theorem Yqf(M:Nat)(t:Bool)(c:Nat):∀(f A B S:Nat),(gl M t f A B (S+c)).1=(gl M t f A B S).1+c*2^f/\(gl M t f A B (S+c)).2=(gl M t f A B S).2+c*2^f
 |0,A,B,S=>by
   rw[Nat.pow_zero,YDN]
   exact⟨rfl,Nat.add_right_comm S c 1⟩
 |f+1,A,B,S=>by
   have hp:(2:Nat)^(f+1)=2*2^f:=by rw[YDa,YCX]
   have e0:c*2^(f+1)=2*c*2^f:=by rw[hp,<-YCW,YCX c]
   rw[gl.eq_def M t (f+1),gl.eq_def M t (f+1)]
   simp only
   split
   . split
     . have:=Yqf M t (2*c) f (A*A/M) (cdiv (B*B) M) (2*S)
       rw[show 2*(S+c)=2*S+2*c by omega,e0]
       exact this
     . exact⟨YDb ..,by
         show(S+c+1)*2^(f+1)=(S+1)*2^(f+1)+c*2^(f+1)
         rw[Nat.add_right_comm S c 1]
         exact YDb ..⟩
   . split
     . exact⟨YDb ..,by
         show(S+c+1)*2^(f+1)=(S+1)*2^(f+1)+c*2^(f+1)
         rw[Nat.add_right_comm S c 1]
         exact YDb ..⟩
     . have:=Yqf M t (2*c) f (A*A/M/2) (cdiv (cdiv (B*B) M) 2) (2*S+1)
       rw[show 2*(S+c)+1=2*S+1+2*c by omega,e0]
       exact this
theorem YqP{n:Nat}(h:1<=n):lgK (2*n)=lgK n+1:=by
 obtain⟨a,b⟩:=Ykl h
 obtain⟨c,d⟩:=Ykl (n:=2*n) (by omega)
 have key:∀{x y:Nat},2^x<2^y->x<y:=fun h=>(Nat.pow_lt_pow_iff_right (by decide)).1 h
 have h1:2^lgK (2*n)<2^(lgK n+2):=by rw[YDa];omega
 have h2:2^(lgK n+1)<2^(lgK (2*n)+1):=by rw[YDa];omega
 have:=key h1
 have:=key h2
 omega
theorem Yqs{n:Nat}(h1:1<=n)(h2:n<1152921504606846976):YaY ((2*n:Nat):Int)=YaY (n:Int):=by
 have hk:lgK n<60:=Yc1 (by decide) h2
 cases ha:YaY (n:Int)with
 |true=>
   have:=YiE h1 (by omega) ha
   rw[this,<-Nat.pow_succ']
   exact Ygu _ (by omega)
 |false=>
   cases hb:YaY ((2*n:Nat):Int)with
   |false=>rfl
   |true=>
     have:=YiE (n:=2*n) (by omega) (by omega) hb
     rw[YqP h1,YDa]at this
     have e:n=2^lgK n:=by omega
     rw[e,Ygu _ (by omega)]at ha
     cases ha
theorem Yz8{n p:Nat}(h1:1<=n)(h2:n<1152921504606846976):(lN (2*n) p).1=(lN n p).1+2^p/\(lN (2*n) p).2=(lN n p).2+2^p:=by
 have hk:lgK n<60:=Yc1 (by decide) h2
 unfold lN
 rw[Yqs h1 h2,YqP h1]
 split
 . simp only[YDb,YDx,and_self]
 . have e:2*n*2^(2*p+64-(lgK n+1))=n*2^(2*p+64-lgK n):=by
     rw[show 2*p+64-lgK n=(2*p+64-(lgK n+1))+1 by omega,YDa]
     grind
   rw[e]
   have:=Yqf (2^(2*p+64)) false 1 p (n*2^(2*p+64-lgK n)) (n*2^(2*p+64-lgK n)) (lgK n)
   rw[YDx]at this
   exact this
def W2:Nat:=2^2048
theorem Ywt{n:Nat}(h1:1<=n)(h2:n<2^29):loN (2*n)=loN n+W2:=(Yz8 h1 (by omega)).1
theorem lo_2:loN 2=W2/\hiN 2=W2:=by
 have e:lgK 2=1:=by
   obtain⟨a,b⟩:=Ykl (n:=2) (by decide)
   have key:∀{x y:Nat},2^x<2^y->x<y:=fun h=>(Nat.pow_lt_pow_iff_right (by decide)).1 h
   have h1:2^lgK 2<2^2:=by omega
   have h2:2^1<2^(lgK 2+1):=by omega
   have:=key h1
   have:=key h2
   omega
 unfold loN hiN lN W2
 rw[if_pos Yqr,e]
 simp only[YDx,and_self]
theorem YvJ:∀l:List (Int×Int),upP (l.map dblT)=upP l^2/\dnP (l.map dblT)=dnP l^2
 | []=>by simp [upP,dnP]
 |x::l=>by
   obtain⟨h1,h2⟩:=YvJ l
   rw[YDd,upP,dnP,upP,dnP,h1,h2,YDj,YDj]
   unfold dblT
   by_cases c:x.2<0
   . have c2:x.2*2<0:=by omega
     simp only[if_pos c,if_pos c2,Nat.one_pow]
     rw[show(-(x.2*2)).toNat=(-x.2).toNat*2 by omega,YC5]
     exact⟨trivial,rfl⟩
   . have c2:¬x.2*2<0:=by omega
     simp only[if_neg c,if_neg c2,Nat.one_pow]
     rw[show(x.2*2).toNat=x.2.toNat*2 by omega,YC5]
     exact⟨rfl,trivial⟩
theorem YvK(w:Nat->Nat):∀l:List (Int×Int),upS w (l.map dblT)=2*upS w l/\dnS w (l.map dblT)=2*dnS w l
 | []=>by simp [upS,dnS]
 |x::l=>by
   obtain⟨h1,h2⟩:=YvK w l
   rw[YDd,upS,dnS,upS,dnS,h1,h2]
   unfold dblT
   by_cases c:x.2<0
   . have c2:x.2*2<0:=by omega
     simp only[if_pos c,if_pos c2]
     rw[show(-(x.2*2)).toNat=2*(-x.2).toNat by omega,YDh]
     omega
   . have c2:¬x.2*2<0:=by omega
     simp only[if_neg c,if_neg c2]
     rw[show(x.2*2).toNat=2*x.2.toNat by omega,YDh]
     omega
theorem Yno{x:Int×Int}(h:okU x):ngT x=(x.1, -x.2):=by
 obtain⟨_,_,h3,h4⟩:=h
 unfold ngT
 rw[YCQ (0-x.2) (by omega)]
 simp
theorem ng_P:∀l:List (Int×Int),(∀x,x∈l->okU x)->upP (l.map ngT)=dnP l/\dnP (l.map ngT)=upP l
 | [],_=>by simp [upP,dnP]
 |x::l,h=>by
   obtain⟨h1,h2⟩:=ng_P l fun y hy=>h y (YC3 _ hy)
   rw[YDd,Yno (h x (YC6 ..)),upP,dnP,upP,dnP,h1,h2]
   rcases Int.lt_trichotomy x.2 0 with c|c|c
   . have c2:¬ -x.2<0:=by omega
     simp only[if_pos c,if_neg c2,and_self]
   . simp only[c,Int.neg_zero,Int.lt_irrefl,if_false,Int.toNat_zero,Nat.pow_zero,and_self]
   . have c1:¬x.2<0:=by omega
     have c2: -x.2<0:=by omega
     simp only[if_neg c1,if_pos c2,Int.neg_neg,and_self]
theorem ng_S(w:Nat->Nat):∀l:List (Int×Int),(∀x,x∈l->okU x)->upS w (l.map ngT)=dnS w l/\dnS w (l.map ngT)=upS w l
 | [],_=>by simp [upS,dnS]
 |x::l,h=>by
   obtain⟨h1,h2⟩:=ng_S w l fun y hy=>h y (YC3 _ hy)
   rw[YDd,Yno (h x (YC6 ..)),upS,dnS,upS,dnS,h1,h2]
   rcases Int.lt_trichotomy x.2 0 with c|c|c
   . have c2:¬ -x.2<0:=by omega
     simp only[if_pos c,if_neg c2,and_self]
   . simp only[c,Int.neg_zero,Int.lt_irrefl,if_false,Int.toNat_zero,Nat.mul_zero,and_self]
   . have c1:¬x.2<0:=by omega
     have c2: -x.2<0:=by omega
     simp only[if_neg c1,if_pos c2,Int.neg_neg,and_self]
def lstF(r:Rt)(n:Nat)(o t t0:Int):List (Int×Int):=(Yf r).map dblT++[(2,2*(n:Int)*o),(273150+t,(n:Int)),(273150+t0, -(n:Int))]
structure NR (r:Rt) (n:Nat):Prop where
 hn:r.n=n
 rng:1<=n/\n<=1000
 rep:∃L a b c,Rep L r a b c
 u:UP r.a r.b r.c^8<=UP (-r.a) (-r.b) (-r.c)^8*2^(9*n)
 d:UP (-r.a) (-r.b) (-r.c)^8<=UP r.a r.b r.c^8*2^(9*n)
theorem YiS{T:Tm}(h:YY T=0){note:Int}(hn:0<=note):∃(r:Rt) (n:Nat),Ycu (Yp T) note=r/\NR r n:=by
 obtain⟨r,n,h1,h2,h3,h4,h5,h6⟩:=YtD h hn
 exact⟨r,n,h1,⟨h2,h3,h4,h5,h6⟩⟩
theorem NR.ok{r:Rt}{n:Nat}(h:NR r n):chkR r=0:=by
 obtain⟨_,_,_,_,hr⟩:=h.rep
 exact hr.ok
theorem Yjf{T:Tm}{r:Rt}{n:Nat}{t t0 note:Int}(hr:Ycu (Yp T) note=r)(h:NR r n):YaP (Yp T) t0 t note=(lstF r n (note/12-5) t t0,2*(n:Int)):=by
 unfold YaP lstF trmL trmD
 rw[hr,if_pos h.ok,if_pos h.ok,h.hn]
theorem Ylo{r:Rt}{n:Nat}{o t t0:Int}(h:NR r n)(ht:Yaf t=true)(ht0:Yaf t0=true):
   upP (lstF r n o t t0)=UP r.a r.b r.c^2*(UP (2*(n:Int)*o) 0 0*(273150+t).toNat^n)/\dnP (lstF r n o t t0)=UP (-r.a) (-r.b) (-r.c)^2*(UP (-(2*(n:Int)*o)) 0 0*(273150+t0).toNat^n):=by
 obtain⟨_,_,_,_,hr⟩:=h.rep
 obtain⟨tu,td⟩:=YkU hr
 have hn:=h.rng
 unfold lstF
 rw[(Yao _ _).1,(Yao _ _).2,(YvJ _).1,(YvJ _).2,tu,td]
 have h1:¬((n:Int)<0):=by omega
 have h2: -(n:Int)<0:=by omega
 have e:upP [(2,2*(n:Int)*o),(273150+t,(n:Int)),(273150+t0, -(n:Int))]=UP (2*(n:Int)*o) 0 0*(273150+t).toNat^n/\dnP [(2,2*(n:Int)*o),(273150+t,(n:Int)),(273150+t0, -(n:Int))]=UP (-(2*(n:Int)*o)) 0 0*(273150+t0).toNat^n:=by
   have a:=YkS [] (2*(n:Int)*o)
   simp only[List.nil_append,upP,dnP,if_neg h1,if_pos h2,YCP,Int.neg_neg,YDN,YDx]at a⊢
   rw[a.1,a.2]
   exact⟨rfl,rfl⟩
 rw[e.1,e.2]
 exact⟨rfl,rfl⟩
theorem Ykm{r:Rt}{n:Nat}{o t t0:Int}(h:NR r n)(ht:Yaf t=true)(ht0:Yaf t0=true)(ho: -5<=o/\o<=6):(∀x,x∈lstF r n o t t0->okU x/\x.1<=1000000/\ -1000000<=x.2/\x.2<=1000000)/\(lstF r n o t t0).length<=9:=by
 have ht:=YcD ht
 have ht0:=YcD ht0
 have hn:=h.rng
 have hlen:=Ybp r
 constructor
 . intro x hx
   unfold lstF at hx
   rw[YDi,YDP]at hx
   rcases hx with⟨y,hy,rfl⟩ |hx
   . have:=Yjg h.ok y hy
     unfold okU dblT;simp only;omega
   . have hm:=YaE (x:=2*(n:Int)) (y:=o) (X:=2000) (Y:=6) (by omega) (by omega)
     simp only[YDq,List.not_mem_nil,or_false]at hx
     unfold okU
     rcases hx with rfl|rfl|rfl <;> simp only <;> omega
 . unfold lstF
   rw[YDy,List.length_map]
   simp only[YDI,List.length_nil]
   omega
theorem Yuo{l:List (Int×Int)}(h:∀x,x∈l->okU x/\x.1<=1000000/\ -1000000<=x.2/\x.2<=1000000)(hn:l.length<=16):Yep l=0:=by
 unfold Yep
 rw[if_neg (by omega),if_neg]
 rw[List.any_eq_true]
 rintro⟨x,hx,ho⟩
 obtain⟨h1,h2,h3,h4⟩:=h x hx
 have:=h1.1
 simp only[okT0,YDG,decide_eq_true_eq]at ho
 omega
theorem YlP{n:Nat}(h:n<2^29\/n=331300000000):wP n<=2^52:=by
 unfold wP
 split
 . decide
 . split
   . decide
   . exact YCY _
theorem YAw{r:Rt}{n:Nat}{o t t0:Int}(h:NR r n)(ht:Yaf t=true)(ht0:Yaf t0=true):upS wP (lstF r n o t t0)+dnS wP (lstF r n o t t0)<=400000+n*2^53:=by
 obtain⟨_,_,_,_,hr⟩:=h.rep
 have tw:=YhV hr
 have ht:=YcD ht
 have ht0:=YcD ht0
 unfold lstF
 rw[(Yab wP _ _).1,(Yab wP _ _).2,(YvK wP _).1,(YvK wP _).2]
 have h1:¬((n:Int)<0):=by omega
 have w1:=YlP (n:=(273150+t).toNat) (Or.inl (by omega))
 have w2:=YlP (n:=(273150+t0).toNat) (Or.inl (by omega))
 have m1:=YCT n w1
 have m2:=YCT n w2
 have e:upS wP [(2,2*(n:Int)*o),(273150+t,(n:Int)),(273150+t0, -(n:Int))]+dnS wP [(2,2*(n:Int)*o),(273150+t,(n:Int)),(273150+t0, -(n:Int))]<=wP (273150+t).toNat*n+wP (273150+t0).toNat*n:=by
   have z:wP (2:Int).toNat=0:=rfl
   simp only[upS,dnS,if_neg h1,z,Nat.zero_mul,ite_self,YCP,Int.neg_neg]
   split
   . omega
   . rename_i h2
     have:n=0:=by omega
     subst this
     simp
 omega
theorem Yzj{n:Nat}{o:Int}(h:o<=6):UP (2*(n:Int)*o) 0 0<=UP (-(2*(n:Int)*o)) 0 0*64^(2*n):=by
 have hm:(2*(n:Int))*o<=2*(n:Int)*6:=YDg h (by omega)
 unfold UP
 simp only[Int.toNat_zero,Nat.pow_zero,YDN]
 rw[show(64:Nat)=2^6 from rfl,<-YC5,<-YCZ]
 exact YDf (by decide) (by omega)
theorem Yvf{n:Nat}{o:Int}(h: -5<=o):UP (-(2*(n:Int)*o)) 0 0<=UP (2*(n:Int)*o) 0 0*32^(2*n):=by
 have hm:2*(n:Int)*(-5)<=2*(n:Int)*o:=YDg h (by omega)
 unfold UP
 simp only[Int.toNat_zero,Nat.pow_zero,YDN]
 rw[show(32:Nat)=2^5 from rfl,<-YC5,<-YCZ]
 exact YDf (by decide) (by omega)
theorem YrC{U V E F n c x y s B:Nat}(hn:1<=n)(hV:0<V)(hF:0<F)(h1:U^8<=V^8*2^(9*n))(h2:E<=F*c^(2*n))(h:2^9*c^8*x^4*s^8<y^4*B^8):
   U^2*(E*x^n)*s^(2*n)<V^2*(F*y^n)*B^(2*n):=by
 refine(Nat.pow_lt_pow_iff_left (show 4≠0 by decide)).1 ?_
 have e1:(U^2*(E*x^n)*s^(2*n))^4=U^8*E^4*((x^4*s^8)^n):=by
   simp only[YDj,<-YC5]
   rw[show 2*4=8 from rfl,YCX n 4,show 2*n*4=8*n by omega]
   simp only[YCW]
 have e2:(V^2*(F*y^n)*B^(2*n))^4=V^8*F^4*((y^4*B^8)^n):=by
   simp only[YDj,<-YC5]
   rw[show 2*4=8 from rfl,YCX n 4,show 2*n*4=8*n by omega]
   simp only[YCW]
 rw[e1,e2]
 have h3:=YC2 h2 4
 rw[YDj,<-YC5]at h3
 have h4:=YCT ((x^4*s^8)^n) (YC9 h1 h3)
 refine YDB h4 ?_
 have e3:V^8*2^(9*n)*(F^4*c^(2*n*4))*(x^4*s^8)^n=V^8*F^4*(2^9*c^8*x^4*s^8)^n:=by
   rw[YC5 2 9,show 2*n*4=8*n by omega,YC5 c 8,YCW (2^9*c^8),YDj (2^9*c^8),YDj (2^9)]
   generalize(2^9)^n=p at*
   generalize(c^8)^n=q at*
   generalize(x^4*s^8)^n=z at*
   generalize V^8=v at*
   generalize F^4=f at*
   grind
 rw[e3]
 refine Nat.mul_lt_mul_of_pos_left ?_ (YDo (YDl hV) (YDl hF))
 exact Nat.pow_lt_pow_left h (by omega)
def Yfd(k:Nat)(ex:Bool):Int×Int:=if ex=true then((k:Int),(k:Int))else((k:Int),(k:Int)+1)
theorem Ynw{s:Int}{l:List (Int×Int)}{den:Int}{k:Nat}(h:(YdR s l den).1=(k:Int))(hk:k<2^29):pspF s l den=Yfd k (YdR s l den).2.1:=by
 unfold pspF Yfd
 rw[h]
 split
 . rfl
 . rw[YCQ ((k:Int)+1) (by omega)]
theorem YbN{t:Int}(h:Yaf t=true):253150<=(273150+t).toNat/\(273150+t).toNat<=323150:=by
 have:=YcD h
 omega
theorem YwF{x y a:Nat}(hx:x<=323150)(hy:253150<=y)(ha:a<=1000000):2^9*64^8*x^4*a^8<y^4*160000000^8:=by
 have h1:=YC2 hx 4
 have h2:=YC2 hy 4
 have h3:=YC2 ha 8
 exact YDB (YC9 (YCU _ h1) h3) (YDz (show 2^9*64^8*323150^4*1000000^8<253150^4*160000000^8 by decide+kernel) (YCT _ h2))
theorem Yiw{a t0 t note:Int}{T:Tm}{r:Rt}{n:Nat}(hS:chkS a t0 t=0)(hn:0<=note/\note<=139)(hr:Ycu (Yp T) note=r)(h:NR r n):
   ∃k ex,Yd3 (Yp T) t0 t note a=Yfd k ex/\PowR (lstF r n (note/12-5) t t0) a.toNat (2*n) 160000000 k ex:=by
 obtain⟨ha,h0,h1⟩:=Yeo hS
 have ho: -5<=note/12-5/\note/12-5<=6:=by omega
 obtain⟨l1,l2⟩:=Ykm h h1 h0 ho
 obtain⟨p1,p2⟩:=Ylo (o:=note/12-5) h h1 h0
 have hs:=YAw (o:=note/12-5) h h1 h0
 have hrn:=h.rng
 have t1:=YbN h1
 have t2:=YbN h0
 have posV:=Yas (-r.a) (-r.b) (-r.c)
 have posF:=Yas (-(2*(n:Int)*(note/12-5))) 0 0
 have hw:wide (lstF r n (note/12-5) t t0) a.toNat (2*n):=by
   have w:=YCT (2*n) (YlP (n:=a.toNat) (Or.inl (by omega)))
   unfold wide
   omega
 have hY:0<dnP (lstF r n (note/12-5) t t0):=by
   rw[p2]
   exact YDo (YDl posV) (YDo posF (YDl (by omega)))
 have hB:upP (lstF r n (note/12-5) t t0)*a.toNat^(2*n)<dnP (lstF r n (note/12-5) t t0)*160000000^(2*n):=by
   rw[p1,p2]
   exact YrC hrn.1 posV posF h.u (Yzj ho.2) (YwF t1.2 t2.1 (by omega))
 obtain⟨k,hk,hp⟩:=Yrm (s:=a.toNat) (den:=2*n) (B:=160000000) (Yuo l1 (by omega)) (fun x hx=>(l1 x hx).1) (by omega) (by omega) hw hY hB (by decide)
 have ea:((a.toNat:Nat):Int)=a:=YDk (by omega)
 rw[ea]at hk hp
 refine⟨k,_,?_,hp⟩
 unfold Yd3
 rw[Yjf hr h]
 have e2:2*(n:Int)=((2*n:Nat):Int):=by omega
 simp only
 rw[e2]
 exact Ynw hk (Nat.lt_of_succ_lt hp.lt)
def lstW(r:Rt)(n:Nat)(o a t0:Int):List (Int×Int):=(lstF r n o t0 t0).map ngT++[(a, -(2*(n:Int))),(273150+t0,(n:Int)),(273150, -(n:Int))]
theorem YqW{r:Rt}{n:Nat}{o a t0:Int}(h:NR r n)(ht0:Yaf t0=true)(ho: -5<=o/\o<=6):
   upP (lstW r n o a t0)=dnP (lstF r n o t0 t0)*(273150+t0).toNat^n/\dnP (lstW r n o a t0)=upP (lstF r n o t0 t0)*(a.toNat^(2*n)*273150^n):=by
 obtain⟨l1,l2⟩:=Ykm h ht0 ht0 ho
 have hn:=h.rng
 unfold lstW
 rw[(Yao _ _).1,(Yao _ _).2,(ng_P _ fun x hx=>(l1 x hx).1).1,(ng_P _ fun x hx=>(l1 x hx).1).2]
 have h1:¬((n:Int)<0):=by omega
 have h2: -(n:Int)<0:=by omega
 have h3: -(2*(n:Int))<0:=by omega
 have e:(2*(n:Int)).toNat=2*n:=by omega
 have e3:(273150:Int).toNat=273150:=rfl
 simp only[upP,dnP,if_neg h1,if_pos h2,if_pos h3,YCP,Int.neg_neg,YDN,YDx,e,e3,and_self]
theorem YAv{r:Rt}{n:Nat}{o a t0:Int}(h:NR r n)(ht0:Yaf t0=true)(ho: -5<=o/\o<=6)(ha:100000<=a/\a<=1000000):upS wP (lstW r n o a t0)+dnS wP (lstW r n o a t0)<=400000+6*(n*2^52):=by
 obtain⟨l1,l2⟩:=Ykm h ht0 ht0 ho
 have hs:=YAw (o:=o) h ht0 ht0
 have hn:=h.rng
 have t2:=YbN ht0
 unfold lstW
 rw[(Yab wP _ _).1,(Yab wP _ _).2,(ng_S wP _ fun x hx=>(l1 x hx).1).1,(ng_S wP _ fun x hx=>(l1 x hx).1).2]
 have h1:¬((n:Int)<0):=by omega
 have h2: -(n:Int)<0:=by omega
 have h3: -(2*(n:Int))<0:=by omega
 have e:(2*(n:Int)).toNat=2*n:=by omega
 have w1:=YCT (2*n) (YlP (n:=a.toNat) (Or.inl (by omega)))
 have w2:=YCT n (YlP (n:=(273150+t0).toNat) (Or.inl (by omega)))
 have w3:=YCT n (YlP (n:=(273150:Int).toNat) (Or.inl (by decide)))
 simp only[upS,dnS,if_neg h1,if_pos h2,if_pos h3,YCP,Int.neg_neg,e]
 omega
theorem YwG{x a:Nat}(hx:x<=323150)(ha:100000<=a):2^9*32^8*x^4*331300000000^8<(a^2*273150)^4*260000000^8:=by
 have h1:=YC2 hx 4
 have h2:=YC2 (YCT 273150 (YC2 ha 2)) 4
 exact YDB (YCT _ (YCU _ h1)) (YDz (show 2^9*32^8*323150^4*331300000000^8<(100000^2*273150)^4*260000000^8 by decide+kernel) (YCT _ h2))
theorem Yyu{T:Tm}{r:Rt}{n:Nat}{a t0 note:Int}(hr:Ycu (Yp T) note=r)(h:NR r n):wavL (Yp T) a t0 note=lstW r n (note/12-5) a t0:=by
 have hn:=h.rng
 unfold wavL lstW
 rw[Yjf hr h]
 simp only
 rw[YCQ (0-2*(n:Int)) (by omega),show(2*(n:Int)).tdiv 2=n by rw[Int.mul_comm];exact Int.mul_tdiv_cancel _ (by decide),YCQ (n:Int) (by omega),show(0-2*(n:Int))= -(n:Int)*2 by omega,Int.mul_tdiv_cancel _ (by decide),YCQ (-(n:Int)) (by omega),show -(n:Int)*2= -(2*(n:Int))by omega]
 rfl
theorem YlQ{a t0 t note:Int}{T:Tm}{r:Rt}{n:Nat}(hS:chkS a t0 t=0)(hn:0<=note/\note<=139)(hr:Ycu (Yp T) note=r)(h:NR r n):
   ∃k ex,wavF (Yp T) a t0 note=Yfd k ex/\PowR (lstW r n (note/12-5) a t0) 331300000000 (2*n) 260000000 k ex:=by
 obtain⟨ha,h0,h1⟩:=Yeo hS
 have ho: -5<=note/12-5/\note/12-5<=6:=by omega
 obtain⟨l1,l2⟩:=Ykm h h0 h0 ho
 obtain⟨p1,p2⟩:=Ylo (o:=note/12-5) h h0 h0
 obtain⟨q1,q2⟩:=YqW (a:=a) h h0 ho
 have hs:=YAv h h0 ho ha
 have hrn:=h.rng
 have t2:=YbN h0
 have t0r:=YcD h0
 have posU:=Yas r.a r.b r.c
 have posE:=Yas (2*(n:Int)*(note/12-5)) 0 0
 have okl:∀x,x∈lstW r n (note/12-5) a t0->okU x/\x.1<=1000000/\ -1000000<=x.2/\x.2<=1000000:=by
   intro x hx
   unfold lstW at hx
   rw[YDi,YDP]at hx
   rcases hx with⟨y,hy,rfl⟩ |hx
   . obtain⟨y1,y2,y3,y4⟩:=l1 y hy
     rw[Yno y1]
     unfold okU at y1⊢
     simp only
     omega
   . simp only[YDq,List.not_mem_nil,or_false]at hx
     unfold okU
     rcases hx with rfl|rfl|rfl <;> simp only <;> omega
 have lenl:(lstW r n (note/12-5) a t0).length<=16:=by
   unfold lstW
   rw[YDy,List.length_map]
   simp only[YDI,List.length_nil]
   omega
 have hw:wide (lstW r n (note/12-5) a t0) 331300000000 (2*n):=by
   have w:=YCT (2*n) (YlP (n:=331300000000) (Or.inr rfl))
   unfold wide
   omega
 have hY:0<dnP (lstW r n (note/12-5) a t0):=by
   rw[q2,p1]
   exact YDo (YDo (YDl posU) (YDo posE (YDl (by omega)))) (YDo (YDl (by omega)) (YDl (by decide)))
 have hB:upP (lstW r n (note/12-5) a t0)*331300000000^(2*n)<dnP (lstW r n (note/12-5) a t0)*260000000^(2*n):=by
   have h3:=YrC (s:=331300000000) (B:=260000000) hrn.1 posU posE h.d (Yvf ho.1) (YwG (a:=a.toNat) t2.2 (by omega))
   rw[q1,q2,p1,p2]
   have hx:0<(273150+t0).toNat^n:=YDl (by omega)
   have e1:a.toNat^(2*n)*273150^n=(a.toNat^2*273150)^n:=by rw[YDj,<-YC5]
   rw[e1]
   generalize(a.toNat^2*273150)^n=y at*
   generalize(273150+t0).toNat^n=x at*
   generalize UP (-r.a) (-r.b) (-r.c)^2=V at*
   generalize UP r.a r.b r.c^2=U at*
   generalize UP (-(2*(n:Int)*(note/12-5))) 0 0=F at*
   generalize UP (2*(n:Int)*(note/12-5)) 0 0=E at*
   have h4:=Nat.mul_lt_mul_of_pos_right h3 hx
   refine YDB (YDO ?_) (YDz h4 (YDO ?_))
   . grind
   . grind
 obtain⟨k,hk,hp⟩:=Yrm (s:=331300000000) (den:=2*n) (B:=260000000) (Yuo okl lenl) (fun x hx=>(okl x hx).1) (by decide) (by omega) hw hY hB (by decide)
 refine⟨k,_,?_,hp⟩
 unfold wavF
 rw[Yyu hr h,Yjf hr h]
 have e2:2*(n:Int)=((2*n:Nat):Int):=by omega
 simp only
 rw[e2]
 exact Ynw hk (Nat.lt_of_succ_lt hp.lt)
theorem PowR.le_of{l:List (Int×Int)}{s den B r v:Nat}{ex:Bool}(h:PowR l s den B r ex)(hd:1<=den)(hY:0<dnP l)(hv:v<2^30)(hx:upP l*s^den<=dnP l*v^den):r<=v:=by
 rcases YDw r with h0|h0
 . omega
 . have h1:=h.near h0
   have h1':(dnP l*r^den)^QJ<=(upP l*s^den)^QJ*2^(den*(0*QJ+2^55)):=by rw[Nat.zero_mul,YDH];exact h1
   have h2:=Ygz (t:=2^40) (show 1<=QJ by rw[YhX];decide) (by rw[YhX];decide) (by decide) h1'
   have h3:dnP l*(r*2^40)^den<=dnP l*(v*(2^0*(2^40+1)))^den:=by
     refine YC4 h2 ?_
     rw[YDj v,<-YCW]
     exact YCT _ hx
   have h4:=Nat.le_of_mul_le_mul_left h3 hY
   have h5:=(Nat.pow_le_pow_iff_left (show den≠0 by omega)).1 h4
   omega
theorem PowR.exact{l:List (Int×Int)}{s den B r v:Nat}{ex:Bool}(h:PowR l s den B r ex)(hd:1<=den)(hY:0<dnP l)(hv1:1<=v)(hv:v<2^29)(hx:upP l*s^den=dnP l*v^den):r=v/\ex=true:=by
 have h1:=h.le_of hd hY (by omega) (YDO hx)
 have h2:=h.tru v hv1 hv (YDO hx.symm)
 have e:r=v:=by omega
 subst e
 exact⟨rfl,h.ex_iff.2 ⟨hv1,hx⟩⟩
theorem Yr0{l l':List (Int×Int)}{s s' den B B' r r':Nat}{ex ex':Bool}(h:PowR l s den B r ex)(h':PowR l' s' den B' r' ex')(hd:1<=den)(hB:B<2^28-2)(hY:0<dnP l)(hY':0<dnP l')
   (hS:∀k,1<=k->k<2^28->(isS l' s' den (2*k)↔isS l s den k))(hx:upP l'*s'^den*dnP l=upP l*s^den*dnP l'*2^den):
   (r'=2*r\/r'=2*r+1)/\(ex=true->r'=2*r/\ex'=true)/\(ex'=true->ex=false->r'=2*r+1):=by
 have hrB:=h.leB
 have h1:2*r<=r':=by
   rcases YDw r with h0|h0
   . omega
   . exact(h'.seg (2*r) (by omega) (by omega)).1 ((hS r h0 (by omega)).2 ((h.seg r h0 (by omega)).2 (YCY r)))
 have h2:r'<2*(r+1):=by
   refine Nat.lt_of_not_le fun hh=>?_
   have:=(hS (r+1) (by omega) (by omega)).1 ((h'.seg (2*(r+1)) (by omega) (by omega)).2 hh)
   have:=(h.seg (r+1) (by omega) (by omega)).1 this
   omega
 have back:∀v,upP l'*s'^den=dnP l'*(2*v)^den->upP l*s^den=dnP l*v^den:=fun v hv=>by
   rw[hv,YDj]at hx
   have hp:0<dnP l'*2^den:=YDo hY' (Y3 den)
   refine Nat.eq_of_mul_eq_mul_right hp ?_
   generalize upP l*s^den=a at*
   generalize v^den=b at*
   generalize 2^den=c at*
   grind
 have forth:∀v,upP l*s^den=dnP l*v^den->upP l'*s'^den=dnP l'*(2*v)^den:=fun v hv=>by
   rw[hv]at hx
   rw[YDj]
   refine Nat.eq_of_mul_eq_mul_right hY ?_
   generalize upP l'*s'^den=a at*
   generalize v^den=b at*
   generalize 2^den=c at*
   grind
 refine⟨by omega,fun he=>?_,fun he' he=>?_⟩
 . obtain⟨e1,e2⟩:=h.ex_iff.1 he
   obtain⟨e3,e4⟩:=h'.exact hd hY' (by omega) (by omega) (forth r e2)
   exact⟨e3,e4⟩
 . rcases(show r'=2*r\/r'=2*r+1 by omega)with c|c
   . exfalso
     obtain⟨e1,e2⟩:=h'.ex_iff.1 he'
     rw[c]at e2
     have:=h.ex_iff.2 ⟨by omega,back r e2⟩
     rw[he]at this
     cases this
   . exact c
def dblB(a b:Int×Int):Bool:=
 decide (a.1<=a.2)&&decide (b.1<=b.2)&&decide (0<=a.1)&&decide (a.2<1099511627776)&&(decide (b.1=2*a.1) || decide (b.1=2*a.1+1))&&(decide (b.2=2*a.2) || decide (b.2=2*a.2-1))&&(decide (a.1<a.2) || decide (b.1=b.2))
theorem YjW{l l':List (Int×Int)}{s s' den B B' r r':Nat}{ex ex':Bool}(h:PowR l s den B r ex)(h':PowR l' s' den B' r' ex')(hd:1<=den)(hB:B<2^28-2)(hY:0<dnP l)(hY':0<dnP l')
   (hS:∀k,1<=k->k<2^28->(isS l' s' den (2*k)↔isS l s den k))(hx:upP l'*s'^den*dnP l=upP l*s^den*dnP l'*2^den):dblB (Yfd r ex) (Yfd r' ex')=true:=by
 obtain⟨h1,h2,h3⟩:=Yr0 h h' hd hB hY hY' hS hx
 have:=h.lt
 unfold dblB Yfd
 cases hex:ex with
 |true=>
   obtain⟨e1,e2⟩:=h2 hex
   rw[e1,e2]
   simp only[eq_self,if_true,YCV,YDG,decide_eq_true_eq,or_true,and_true]
   omega
 |false=>
   cases hex':ex' with
   |true=>
     have:=h3 hex' hex
     rw[this]
     simp only[eq_self,if_true,YDu,if_false,YCV,YDG,decide_eq_true_eq]
     omega
   |false=>
     simp only[YDu,if_false,YCV,YDG,decide_eq_true_eq]
     omega
theorem Ytv(g:Nat->Nat)(e:Int)(a b:List (Int×Int)):upS g (a++(2,e)::b)=upS g a+(g 2*e.toNat+upS g b)/\dnS g (a++(2,e)::b)=dnS g a+(g 2*(-e).toNat+dnS g b):=by
 rw[(Yab g _ _).1,(Yab g _ _).2,upS,dnS]
 by_cases c:e<0
 . simp only[if_pos c]
   rw[show e.toNat=0 by omega,Nat.mul_zero]
   exact⟨rfl,rfl⟩
 . simp only[if_neg c]
   rw[show(-e).toNat=0 by omega,Nat.mul_zero]
   exact⟨rfl,rfl⟩
theorem YAI{a b:List (Int×Int)}{s n k:Nat}{e:Int}(hk:1<=k/\k<2^28):isS (a++(2,e+2*(n:Int))::b) s (2*n) (2*k)↔isS (a++(2,e)::b) s (2*n) k:=by
 unfold isS
 rw[(Ytv loN _ a b).2,(Ytv hiN _ a b).1,(Ytv loN _ a b).2,(Ytv hiN _ a b).1,Ywt hk.1 (by omega),lo_2.1,lo_2.2]
 have hi:(e+2*(n:Int)).toNat+(-e).toNat=e.toNat+(-(e+2*(n:Int))).toNat+2*n:=by omega
 have hm:=congrArg (fun z=>W2*z) hi
 simp only[YDM]at hm
 rw[YDb,YCX W2 (2*n)]at*
 generalize W2*(e+2*(n:Int)).toNat=x1 at*
 generalize W2*(-e).toNat=x2 at*
 generalize W2*e.toNat=x3 at*
 generalize W2*(-(e+2*(n:Int))).toNat=x4 at*
 have h2:W2*(2*n)=2*n*W2:=YCX ..
 generalize 2*n*W2=x5 at*
 constructor <;> intro h <;> omega
theorem Yo6{n:Nat}{o:Int}:UP (2*(n:Int)*(o+1)) 0 0*UP (-(2*(n:Int)*o)) 0 0=UP (2*(n:Int)*o) 0 0*UP (-(2*(n:Int)*(o+1))) 0 0*2^(2*n):=by
 have e:2*(n:Int)*(o+1)=2*(n:Int)*o+2*(n:Int):=by grind
 rw[e]
 generalize 2*(n:Int)*o=x
 unfold UP
 simp only[Int.toNat_zero,Nat.pow_zero,YDN]
 rw[<-YCZ,<-YCZ,<-YCZ]
 congr 1
 omega
theorem YfQ(r:Rt)(n:Nat)(o t t0:Int):lstF r n o t t0=(Yf r).map dblT++(2,2*(n:Int)*o):: [(273150+t,(n:Int)),(273150+t0, -(n:Int))]:=rfl
theorem Ynj{r:Rt}{n:Nat}{o a t0:Int}(h:NR r n)(ht0:Yaf t0=true)(ho: -5<=o/\o<=6):lstW r n o a t0=(((Yf r).map dblT).map ngT)++(2, -(2*(n:Int)*o))::([(273150+t0,(n:Int)),(273150+t0, -(n:Int))].map ngT++[(a, -(2*(n:Int))),(273150+t0,(n:Int)),(273150, -(n:Int))]):=by
 have hl:=(Ykm h ht0 ht0 ho).1 (2,2*(n:Int)*o) (by rw[YfQ];simp)
 have e:=Yno hl.1
 unfold lstW
 rw[YfQ,List.map_append,YDd,e,List.append_assoc]
 rfl
theorem Ylu(L:Nat->Rt)(note:Int):Ycu L (note+12)=Ycu L note:=by
 unfold Ycu
 rw[show(note+12)%12=note%12 by omega]
theorem YvZ{a t0 t note:Int}{T:Tm}(hS:chkS a t0 t=0)(hT:YY T=0)(hn:0<=note)(hn2:note+12<=139):dblB (Yd3 (Yp T) t0 t note a) (Yd3 (Yp T) t0 t (note+12) a)=true:=by
 obtain⟨ha,h0,h1⟩:=Yeo hS
 obtain⟨r,n,hr,h⟩:=YiS hT hn
 obtain⟨k,ex,e1,p⟩:=Yiw hS ⟨hn,by omega⟩ hr h
 obtain⟨k',ex',e2,p'⟩:=Yiw (note:=note+12) hS ⟨by omega,hn2⟩ (by rw[Ylu];exact hr) h
 rw[show(note+12)/12-5=note/12-5+1 by omega]at p'
 rw[e1,e2]
 have hrn:=h.rng
 have t1:=YbN h1
 have t2:=YbN h0
 obtain⟨p1,p2⟩:=Ylo (o:=note/12-5) h h1 h0
 obtain⟨q1,q2⟩:=Ylo (o:=note/12-5+1) h h1 h0
 have posV:=Yas (-r.a) (-r.b) (-r.c)
 have hst:=Yo6 (n:=n) (o:=note/12-5)
 refine YjW p p' (by omega) (by decide) ?_ ?_ (fun j j1 j2=>?_) ?_
 . rw[p2];exact YDo (YDl posV) (YDo (Yas _ _ _) (YDl (by omega)))
 . rw[q2];exact YDo (YDl posV) (YDo (Yas _ _ _) (YDl (by omega)))
 . rw[YfQ,YfQ,show 2*(n:Int)*(note/12-5+1)=2*(n:Int)*(note/12-5)+2*(n:Int)by grind]
   exact YAI ⟨j1,j2⟩
 . rw[p1,p2,q1,q2]
   generalize UP (2*(n:Int)*(note/12-5+1)) 0 0=E' at*
   generalize UP (2*(n:Int)*(note/12-5)) 0 0=E at*
   generalize UP (-(2*(n:Int)*(note/12-5+1))) 0 0=F' at*
   generalize UP (-(2*(n:Int)*(note/12-5))) 0 0=F at*
   generalize UP r.a r.b r.c^2=U at*
   generalize UP (-r.a) (-r.b) (-r.c)^2=V at*
   generalize(273150+t).toNat^n=x at*
   generalize(273150+t0).toNat^n=y at*
   generalize a.toNat^(2*n)=z at*
   generalize 2^(2*n)=c at*
   have e3:U*(E'*x)*z*(V*(F*y))=(E'*F)*(U*x*z*V*y):=by grind
   rw[e3,hst];grind
theorem Yyv{a t0 t note:Int}{T:Tm}(hS:chkS a t0 t=0)(hT:YY T=0)(hn:0<=note)(hn2:note+12<=139):dblB (wavF (Yp T) a t0 (note+12)) (wavF (Yp T) a t0 note)=true:=by
 obtain⟨ha,h0,h1⟩:=Yeo hS
 obtain⟨r,n,hr,h⟩:=YiS hT hn
 obtain⟨k,ex,e1,p⟩:=YlQ (t:=t) hS ⟨hn,by omega⟩ hr h
 obtain⟨k',ex',e2,p'⟩:=YlQ (t:=t) (note:=note+12) hS ⟨by omega,hn2⟩ (by rw[Ylu];exact hr) h
 rw[show(note+12)/12-5=note/12-5+1 by omega]at p'
 rw[e1,e2]
 have hrn:=h.rng
 have t2:=YbN h0
 have ho: -5<=note/12-5/\note/12-5<=6:=by omega
 have ho2: -5<=note/12-5+1/\note/12-5+1<=6:=by omega
 obtain⟨p1,p2⟩:=Ylo (o:=note/12-5) h h0 h0
 obtain⟨q1,q2⟩:=Ylo (o:=note/12-5+1) h h0 h0
 obtain⟨P1,P2⟩:=YqW (a:=a) h h0 ho
 obtain⟨Q1,Q2⟩:=YqW (a:=a) h h0 ho2
 have posU:=Yas r.a r.b r.c
 have hst:=Yo6 (n:=n) (o:=note/12-5)
 have pa:0<a.toNat^(2*n)*273150^n:=YDo (YDl (by omega)) (YDl (by decide))
 refine YjW p' p (by omega) (by decide) ?_ ?_ (fun j j1 j2=>?_) ?_
 . rw[Q2,q1];exact YDo (YDo (YDl posU) (YDo (Yas _ _ _) (YDl (by omega)))) pa
 . rw[P2,p1];exact YDo (YDo (YDl posU) (YDo (Yas _ _ _) (YDl (by omega)))) pa
 . rw[Ynj h h0 ho,Ynj h h0 ho2,show -(2*(n:Int)*(note/12-5))= -(2*(n:Int)*(note/12-5+1))+2*(n:Int)by grind]
   exact YAI ⟨j1,j2⟩
 . rw[P1,P2,Q1,Q2,p1,p2,q1,q2]
   generalize UP (2*(n:Int)*(note/12-5+1)) 0 0=E' at*
   generalize UP (2*(n:Int)*(note/12-5)) 0 0=E at*
   generalize UP (-(2*(n:Int)*(note/12-5+1))) 0 0=F' at*
   generalize UP (-(2*(n:Int)*(note/12-5))) 0 0=F at*
   generalize UP r.a r.b r.c^2=U at*
   generalize UP (-r.a) (-r.b) (-r.c)^2=V at*
   generalize(273150+t0).toNat^n=y at*
   generalize a.toNat^(2*n)*273150^n=z at*
   generalize 331300000000^(2*n)=s at*
   generalize 2^(2*n)=c at*
   have e3:V*(F*y)*y*s*(U*(E'*y)*z)=(E'*F)*(V*y*y*s*U*y*z):=by grind
   rw[e3,hst];grind
theorem YzX{a t0:Int}{T:Tm}(hS:chkS a t0 t0=0)(hT:YY T=0):Yd3 (Yp T) t0 t0 69 a=(a,a):=by
 obtain⟨ha,h0,_⟩:=Yeo hS
 obtain⟨r,n,hr,h⟩:=YiS hT (note:=69) (by decide)
 have hz:r.a=0/\r.b=0/\r.c=0:=by
   obtain⟨k9,r9,_⟩:=YgD hT (show 3<12 by decide)
   rw[show 7*3%12=9 from rfl]at r9
   have hL:=YbT hT
   have hj:=(YeA (s:= -1) (by omega) r9 r9 (by unfold sm;omega) (by unfold sm;omega) (by unfold sm;omega)).2
   have e:(YaI (Yp T 9) (Yp T 9) (-1)).1=r:=by rw[<-hr];rfl
   rw[e]at hj
   have key:∀{x y:Int},x*Lm T=(y+ -1*y)*r.n->x=0:=fun {x y} hh=>by
     rw[show y+ -1*y=0 by omega,Int.zero_mul]at hh
     rcases Int.mul_eq_zero.1 hh with h|h
     . exact h
     . omega
   exact⟨key hj.ha,key hj.hb,key hj.hc⟩
 obtain⟨k,ex,e1,p⟩:=Yiw hS (by decide) hr h
 rw[show(69:Int)/12-5=0 by decide]at p
 obtain⟨p1,p2⟩:=Ylo (o:=0) h h0 h0
 have t2:=YbN h0
 have hrn:=h.rng
 have eu:UP r.a r.b r.c=1/\UP (-r.a) (-r.b) (-r.c)=1:=by
   rw[hz.1,hz.2.1,hz.2.2];exact⟨rfl,rfl⟩
 have ez:UP (2*(n:Int)*0) 0 0=1/\UP (-(2*(n:Int)*0)) 0 0=1:=by
   rw[Int.mul_zero];exact⟨rfl,rfl⟩
 have hY:0<dnP (lstF r n 0 t0 t0):=by
   rw[p2,eu.2,ez.2];exact YDo (by decide) (YDo (by decide) (YDl (by omega)))
 obtain⟨hk,hex⟩:=p.exact (v:=a.toNat) (by omega) hY (by omega) (by omega) (by rw[p1,p2,eu.1,eu.2,ez.1,ez.2])
 rw[e1,hk,hex]
 unfold Yfd
 rw[if_pos rfl,YDk (by omega)]
set_option maxHeartbeats 8000000
def v17:VF:=⟨48,[.tmp 0],(ZR [u1 0 .mov [.cn (.bool false)]] (ZR [u1 8 (.call 46) [.cn (.int .i64 15000)],u1 9 (.call 47) [.cn (.val (.string ⟨#[101,113,117,97,108]⟩))],u1 10 (.call 8) [.tm 8,.tm 9,.cn (.int .i64 60)],Zm 7 10,Ze 11 0 7,Ze 12 1 7,Zn 1,Zs 2 1 11,Zm 2 12] (ZR [u1 14 (.call 46) [.cn (.int .i64 20000)],u1 15 (.call 47) [.cn (.val (.string ⟨#[101,113,117,97,108]⟩))],u1 16 (.call 8) [.tm 14,.tm 15,.cn (.int .i64 69)],Zm 13 16,Ze 17 0 13,Ze 18 1 13,Zn 3,Zs 2 3 17,Zm 4 18] (ZR [u1 20 (.call 46) [.cn (.int .i64 20000)],Zc 21 20 20,Zm 19 21,Ze 22 0 19,Ze 23 1 19,Zm 5 22,Zm 6 23] (ZR [Zm 24 2,Zq 25 .eql 24 0,Zm 26 25,Zg 27 26 true 4,u2 28 26 true (.cmp .eql) [.tm 27,.cn (.int .i64 0)],u1 29 .and [.tm 26,.tm 28],Zm 30 29,Zg 31 30 true 6,u2 32 30 true (.cmp .eql) [.tm 31,.cn (.int .i64 0)],u1 33 .and [.tm 30,.tm 32],Zm 34 33,u2 35 34 true (.load true 2) [.tm 1],u2 36 34 true (.build [(.int .i64 0),(.int .i64 0)] [(0,1),(1,1)]) [.cn (.int .i64 261625),.cn (.int .i64 261626)],u2 37 34 true (.eqv false [true,true]) [.tm 35,.tm 36],u1 38 .and [.tm 34,.tm 37],Zm 39 38,u2 40 39 true (.load true 2) [.tm 3],u2 41 39 true (.build [(.int .i64 0),(.int .i64 0)] [(0,1),(1,1)]) [.cn (.int .i64 443801),.cn (.int .i64 443802)],u2 42 39 true (.eqv false [true,true]) [.tm 40,.tm 41],u1 43 .and [.tm 39,.tm 42],Zm 44 43,Zg 45 44 true 5,u2 46 44 true (.cmp .eql) [.tm 45,.cn (.int .i64 14891)],u1 47 .and [.tm 44,.tm 46],Zm 0 47] .ret)))))⟩
theorem YB3:Yh YCS Tryz.f17=some v17:=by kernel_rfl
def v16:VF:=⟨23,[.tmp 4],(ZR [u1 2 .box [.tm 0],u1 4 .mov [.cn (.bool false)]] (ZR [Za 5 0 2,Zt 6 3 5,Zc 7 44 6,Zq 8 .eql 7 0,Zm 9 8,Zj 10 9 true 3 2,u2 11 9 true (.load true 27) [.tm 10],u2 12 9 true (.call 45) [.tm 11],u2 13 9 true (.cmp .eql) [.tm 12,.cn (.int .i64 0)],u1 14 .and [.tm 9,.tm 13],Zm 15 14,Zg 16 15 true 1,u2 17 15 true (.cmp .geq) [.tm 16,.cn (.int .i64 0)],u1 18 .and [.tm 15,.tm 17],Zm 19 18,Zg 20 19 true 1,u2 21 19 true (.cmp .leq) [.tm 20,.cn (.int .i64 139)],u1 22 .and [.tm 19,.tm 21],Zm 4 22] .ret))⟩
theorem YB2:Yh YCS Tryz.f16=some v16:=by kernel_rfl
def v19:VF:=⟨75,[.tmp 4],(ZR [u1 2 .box [.tm 0],u1 3 .box [.tm 1],u1 4 .mov [.cn (.bool false)]] (ZR [Za 5 0 2,Zf 6 1 5,Za 7 1 2,Zf 8 1 7,Zr 9 .leq 6 8,Zm 10 9,Zj 11 10 true 0 3,Zh 12 10 true 1 11,Zj 13 10 true 1 3,Zh 14 10 true 1 13,u2 15 10 true (.cmp .leq) [.tm 12,.tm 14],u1 16 .and [.tm 10,.tm 15],Zm 17 16,Zj 18 17 true 0 2,Zh 19 17 true 1 18,u2 20 17 true (.cmp .geq) [.tm 19,.cn (.int .i64 0)],u1 21 .and [.tm 17,.tm 20],Zm 22 21,Zj 23 22 true 1 2,Zh 24 22 true 1 23,u2 25 22 true (.cmp .lss) [.tm 24,.cn (.int .i64 1099511627776)],u1 26 .and [.tm 22,.tm 25],Zm 27 26,Zj 28 27 true 0 3,Zh 29 27 true 1 28,Zj 30 27 true 0 2,Zh 31 27 true 1 30,u2 32 27 true (.ari .mul) [.cn (.int .i64 2),.tm 31],u2 33 27 true (.cmp .eql) [.tm 29,.tm 32],Zg 34 27 true 33,Zj 35 34 false 0 3,Zh 36 34 false 1 35,Zj 37 34 false 0 2,Zh 38 34 false 1 37,u2 39 34 false (.ari .mul) [.cn (.int .i64 2),.tm 38],u2 40 34 false (.ari .add) [.tm 39,.cn (.int .i64 1)],u2 41 34 false (.cmp .eql) [.tm 36,.tm 40],u2 42 27 true .or [.tm 34,.tm 41],u1 43 .and [.tm 27,.tm 42],Zm 44 43,Zj 45 44 true 1 3,Zh 46 44 true 1 45,Zj 47 44 true 1 2,Zh 48 44 true 1 47,u2 49 44 true (.ari .mul) [.cn (.int .i64 2),.tm 48],u2 50 44 true (.cmp .eql) [.tm 46,.tm 49],Zg 51 44 true 50,Zj 52 51 false 1 3,Zh 53 51 false 1 52,Zj 54 51 false 1 2,Zh 55 51 false 1 54,u2 56 51 false (.ari .mul) [.cn (.int .i64 2),.tm 55],u2 57 51 false (.ari .sub) [.tm 56,.cn (.int .i64 1)],u2 58 51 false (.cmp .eql) [.tm 53,.tm 57],u2 59 44 true .or [.tm 51,.tm 58],u1 60 .and [.tm 44,.tm 59],Zm 61 60,Zj 62 61 true 0 2,Zh 63 61 true 1 62,Zj 64 61 true 1 2,Zh 65 61 true 1 64,u2 66 61 true (.cmp .lss) [.tm 63,.tm 65],Zg 67 61 true 66,Zj 68 67 false 0 3,Zh 69 67 false 1 68,Zj 70 67 false 1 3,Zh 71 67 false 1 70,u2 72 67 false (.cmp .eql) [.tm 69,.tm 71],u2 73 61 true .or [.tm 67,.tm 72],u1 74 .and [.tm 61,.tm 73],Zm 4 74] .ret))⟩
theorem YB5:Yh YCS Tryz.f19=some v19:=by kernel_rfl
def v4:VF:=⟨118,[.tmp 4],(ZR [u1 2 .box [.tm 0],u1 4 .mov [.cn (.bool false)]] (.seq (ZR [Zt 15 30 2,Zm 16 1,Zd 17 16 15 16,u1 18 .not [.tm 17],Zm 19 18,u2 20 19 false (.load true 30) [.tm 2],Zg 21 19 false 1,u2 22 19 false (.ari .add) [.tm 21,.cn (.int .i64 12)],u2 23 19 false (.call 16) [.tm 20,.tm 22],u2 24 19 false .not [.tm 23],u1 25 .or [.tm 19,.tm 24]] (ZC 25 (ZR [u1 26 (.call 17) [],Zm 4 26] .ret) .skip)) (ZR [Za 28 0 2,Zt 29 3 28,Za 30 3 2,Zt 31 27 30,Zm 32 1,u1 33 (.call 8) [.tm 29,.tm 31,.tm 32],Zm 27 33,Ze 34 0 27,Ze 35 1 27,Zn 5,Zs 2 5 34,Zm 6 35] (ZR [Za 37 0 2,Zt 38 3 37,Za 39 3 2,Zt 40 27 39,Zm 41 1,Zp 42 41 12,u1 43 (.call 8) [.tm 38,.tm 40,.tm 42],Zm 36 43,Ze 44 0 36,Ze 45 1 36,Zn 7,Zs 2 7 44,Zm 8 45] (ZR [Za 47 0 2,Zt 48 3 47,Za 49 3 2,Zt 50 27 49,Zm 51 1,u1 52 (.call 18) [.tm 48,.tm 50,.tm 51],Zm 46 52,Ze 53 0 46,Ze 54 1 46,Zn 9,Zs 2 9 53,Zm 10 54] (ZR [Za 56 0 2,Zt 57 3 56,Za 58 3 2,Zt 59 27 58,Zm 60 1,Zp 61 60 12,u1 62 (.call 18) [.tm 57,.tm 59,.tm 61],Zm 55 62,Ze 63 0 55,Ze 64 1 55,Zn 11,Zs 2 11 63,Zm 12 64] (ZR [Za 65 0 2,Za 66 1 65,Zf 67 1 66,Za 68 0 2,Za 69 2 68,Zs 1 69 67] (ZR [Za 71 0 2,Zt 72 3 71,Za 73 3 2,Zt 74 27 73,u1 75 (.call 8) [.tm 72,.tm 74,.cn (.int .i64 69)],Zm 70 75,Ze 76 0 70,Ze 77 1 70,Zn 13,Zs 2 13 76,Zm 14 77] (.seq (ZR [Zm 78 6,Zq 79 .neq 78 0,Zm 80 79,Zg 81 80 false 8,u2 82 80 false (.cmp .neq) [.tm 81,.cn (.int .i64 0)],u1 83 .or [.tm 80,.tm 82],Zm 84 83,Zg 85 84 false 10,u2 86 84 false (.cmp .neq) [.tm 85,.cn (.int .i64 0)],u1 87 .or [.tm 84,.tm 86],Zm 88 87,Zg 89 88 false 12,u2 90 88 false (.cmp .neq) [.tm 89,.cn (.int .i64 0)],u1 91 .or [.tm 88,.tm 90],Zm 92 91,Zg 93 92 false 14,u2 94 92 false (.cmp .neq) [.tm 93,.cn (.int .i64 0)],u1 95 .or [.tm 92,.tm 94],Zm 96 95,u2 97 96 false (.load true 2) [.tm 13],Zj 98 96 false 0 2,Zj 99 96 false 0 98,Zh 100 96 false 1 99,Zj 101 96 false 0 2,Zj 102 96 false 0 101,Zh 103 96 false 1 102,u2 104 96 false (.build [(.int .i64 0),(.int .i64 0)] [(0,1),(1,1)]) [.tm 100,.tm 103],u2 105 96 false (.eqv true [true,true]) [.tm 97,.tm 104],u1 106 .or [.tm 96,.tm 105]] (ZC 106 (ZR [u1 4 .mov [.cn (.bool false)]] .ret) .skip)) (ZR [Zt 107 2 5,Zt 108 2 7,Zd 109 19 107 108,Zm 110 109,u2 111 110 true (.load true 2) [.tm 11],u2 112 110 true (.load true 2) [.tm 9],u2 113 110 true (.call 19) [.tm 111,.tm 112],u1 114 .and [.tm 110,.tm 113],Zm 115 114,u2 116 115 true (.call 17) [],u1 117 .and [.tm 115,.tm 116],Zm 4 117] .ret))))))))))⟩
theorem v4_is:Yh YCS Tryz.f4=some v4:=by kernel_rfl
theorem exf_5:Yd3 (Yp EQ) 15000 15000 60 440000=(261625,261626):=by decide+kernel
theorem exf_6:Yd3 (Yp EQ) 15000 20000 69 440000=(443801,443802):=by decide+kernel
theorem exd_1:drfF 15000 20000=14891:=by decide+kernel
theorem nmE6(m:Bool):(if m=true then MT else EQ).nm.size<=9223372036854775807:=by cases m <;> decide
theorem eqT:YY EQ=0:=by decide+kernel
def UA0:Env:={ ct:=fun n=>match n with|46=>some usu6C|47=>some nmdC|8=>some frq6C|20=>some drfC|_=>none,fn:=fun _=>none,meth:=fun _ _=>none}
theorem YsA:UA0.ct 46=some usu6C:=rfl
theorem YsB:UA0.ct 47=some nmdC:=rfl
theorem Yve:UA0.ct 8=some frq6C:=rfl
theorem Ysz:UA0.ct 20=some drfC:=rfl
theorem Yzg:Yr YCS UA0:=by
 refine⟨fun f c h=>?_,fun f vf h=>?_,(fun _ _ _ h=>by cases h),by kernel_rfl,(fun _ h=>by cases h)⟩
 . simp only[UA0]at h
   split at h
   . cases h;exact⟨YB1,Tryz.f46,Tryz.func46,by kernel_rfl,by kernel_rfl⟩
   . cases h;exact⟨YAG,Tryz.f47,Tryz.func47,by kernel_rfl,by kernel_rfl⟩
   . cases h;exact⟨Yux,Tryz.f8,Tryz.func8,by kernel_rfl,by kernel_rfl⟩
   . cases h;exact⟨drf_c,Tryz.f20,Tryz.func20,by kernel_rfl,by kernel_rfl⟩
   . cases h
 . cases h
theorem YsK:trueC.ok YCS 17:=by
 refine Yb Tryz.func17 YB3 Yzg 600 trueC fun args k h=>?_
 simp only[trueC]at h
 split at h
 . refine⟨[],trivial,?_⟩
   have h:k (.bool true) []:=h
   dsimp only[v17,YlG,lenT,YsA,YsB,Yve,Ysz,usu6C,nmdC,frq6C,drfC,go_sem,reduceIte,YCL]
   simp only[Yc,YCL,YCN,reduceCtorEq,YCM]
   refine⟨false,rfl,EQ,⟨rfl,nmE6 false,by decide,eqT,by decide⟩,by decide,by decide,false,rfl,EQ,⟨rfl,nmE6 false,by decide,eqT,by decide⟩,by decide,by decide,by decide,by decide,by decide,?_⟩
   rw[exf_5,exf_6,exd_1]
   exact YB h
 . exact h.1.elim
def YvA(a t0 t:Int)(T:Tm):List SV:= .int .i64 a:: .int .i64 t0:: .int .i64 t::encT T
def shp6:List Sh:=[.int .i64,.int .i64,.int .i64,.str,.bool,.int .i64,.int .i64,.int .i64,.int .i64,.int .i64,.int .i64,.int .i64,.int .i64,.int .i64,.int .i64,.int .i64,.int .i64,.int .i64,.int .i64,.int .i64,.int .i64,.int .i64,.int .i64,.int .i64,.int .i64,.int .i64,.int .i64,.int .i64,.int .i64,.int .i64]
def tmOf(nm:ByteArray)(syn:Bool)(w:Int)(l:List Int):Tm:=⟨nm,syn,w,fun i=>(l.getD (2*i) 0,l.getD (2*i+1) 0)⟩
theorem Yz{l:List Sh}{c:List SV}(h:okSL (.int .i64::l) c):∃(x:Int) (r:List SV),c= .int .i64 x::r/\okSL l r:=by
 obtain⟨v,r,rfl,h1,h2⟩:=Ycv h
 obtain⟨a,rfl,_⟩:=YgE h1
 exact⟨a,r,rfl,h2⟩
theorem YsS{cs:List SV}(h:okSL shp6 cs):∃(a t0 t:Int) (T:Tm),cs=YvA a t0 t T/\T.nm.size<=maxLen:=by
 obtain⟨a,r0,e0,h0⟩:=Yz h
 obtain⟨t0,r1,e1,h1⟩:=Yz h0
 obtain⟨t,r2,e2,h2⟩:=Yz h1
 obtain⟨v3,r3,e3,⟨nm,u3,hnm⟩,h3⟩:=Ycv h2
 obtain⟨v4,r4,e4,⟨syn,u4⟩,h4⟩:=Ycv h3
 obtain⟨w,r5,e5,h5⟩:=Yz h4
 obtain⟨x0,r6,e6,h6⟩:=Yz h5
 obtain⟨x1,r7,e7,h7⟩:=Yz h6
 obtain⟨x2,r8,e8,h8⟩:=Yz h7
 obtain⟨x3,r9,e9,h9⟩:=Yz h8
 obtain⟨x4,r10,e10,h10⟩:=Yz h9
 obtain⟨x5,r11,e11,h11⟩:=Yz h10
 obtain⟨x6,r12,e12,h12⟩:=Yz h11
 obtain⟨x7,r13,e13,h13⟩:=Yz h12
 obtain⟨x8,r14,e14,h14⟩:=Yz h13
 obtain⟨x9,r15,e15,h15⟩:=Yz h14
 obtain⟨x10,r16,e16,h16⟩:=Yz h15
 obtain⟨x11,r17,e17,h17⟩:=Yz h16
 obtain⟨x12,r18,e18,h18⟩:=Yz h17
 obtain⟨x13,r19,e19,h19⟩:=Yz h18
 obtain⟨x14,r20,e20,h20⟩:=Yz h19
 obtain⟨x15,r21,e21,h21⟩:=Yz h20
 obtain⟨x16,r22,e22,h22⟩:=Yz h21
 obtain⟨x17,r23,e23,h23⟩:=Yz h22
 obtain⟨x18,r24,e24,h24⟩:=Yz h23
 obtain⟨x19,r25,e25,h25⟩:=Yz h24
 obtain⟨x20,r26,e26,h26⟩:=Yz h25
 obtain⟨x21,r27,e27,h27⟩:=Yz h26
 obtain⟨x22,r28,e28,h28⟩:=Yz h27
 obtain⟨x23,r29,e29,h29⟩:=Yz h28
 have e30:=Ykv h29
 exact⟨a,t0,t,tmOf nm syn w [x0,x1,x2,x3,x4,x5,x6,x7,x8,x9,x10,x11,x12,x13,x14,x15,x16,x17,x18,x19,x20,x21,x22,x23],by rw[e0,e1,e2,e3,u3,e4,u4,e5,e6,e7,e8,e9,e10,e11,e12,e13,e14,e15,e16,e17,e18,e19,e20,e21,e22,e23,e24,e25,e26,e27,e28,e29,e30];rfl,hnm⟩
def dblC:Ctr:={ alias:=false,of:=fun l=>match l with
 | [.agg [.int .i64 a,.int .i64 b],.agg [.int .i64 c,.int .i64 d]]=> .pre ((-1000000000000<=a/\a<=1000000000000)/\ -1000000000000<=b/\b<=1000000000000) (.fin (.bool (dblB (a,b) (c,d))) [])
 |_=> .pre False (.fin (.bool false) [])}
def UD0:Env:={ ct:=fun _=>none,fn:=fun _=>none,meth:=fun _ _=>none}
theorem Yzh:Yr YCS UD0:=by
 refine⟨fun f c h=>?_,fun f vf h=>?_,(fun _ _ _ h=>by cases h),by kernel_rfl,(fun _ h=>by cases h)⟩
 . cases h
 . cases h
theorem dbl_c:dblC.ok YCS 19:=by
 refine Yb Tryz.func19 YB5 Yzh 300 dblC fun args k h=>?_
 simp only[dblC]at h
 split at h
 . rename_i a b c d
   obtain⟨⟨ha,hb⟩,h⟩:=h
   have h:k (.bool (dblB (a,b) (c,d))) []:=h
   refine⟨[.agg [.int .i64 a,.int .i64 b],.agg [.int .i64 c,.int .i64 d]],by simp [leL,le],?_⟩
   dsimp only[v19,go_sem,reduceIte,YCL]
   simp only[Yc,YCL,YCN,reduceCtorEq,YCM]
   rw[YCQ (2*a) (by omega),YCQ (2*a+1) (by omega),YCQ (2*b) (by omega),YCQ (2*b-1) (by omega)]
   exact⟨fun u v=>by rw[u,decide_eq_false v];rfl,fun u v=>by rw[u,decide_eq_false v];rfl,fun u v=>by rw[u,decide_eq_false v];rfl,YB h⟩
 . exact h.1.elim
theorem vw_T(b:Bool)(hp:List HO)(f:List SV->List SV)(T:Tm):Ycg b hp f (encT T)=encT T:=rfl
theorem YnQ{k:Nat}(ex:Bool)(h:k+1<2^29):(0<=(Yfd k ex).1/\(Yfd k ex).1<=600000000)/\0<=(Yfd k ex).2/\(Yfd k ex).2<=600000000:=by
 unfold Yfd
 split <;> simp only <;> omega
theorem sp_T(T:Tm):YJ (encT T) 0 []=encT T:=rfl
def UO0:Env:={ ct:=fun n=>match n with|19=>some dblC|44=>some chkSC|45=>some chk5A|8=>some frq6C|18=>some wavC|17=>some trueC|_=>none,fn:=fun n=>match n with|16=>some v16|_=>none,meth:=fun _ _=>none}
theorem Ymv:UO0.ct 19=some dblC:=rfl
theorem Ymw:UO0.ct 44=some chkSC:=rfl
theorem Ymx:UO0.ct 45=some chk5A:=rfl
theorem Yo5:UO0.ct 8=some frq6C:=rfl
theorem Ymu:UO0.ct 18=some wavC:=rfl
theorem Ymt:UO0.ct 17=some trueC:=rfl
theorem Yms:UO0.ct 16=none:=rfl
theorem Ymy:UO0.fn 16=some v16:=rfl
theorem Yzi:Yr YCS UO0:=by
 refine⟨fun f c h=>?_,fun f vf h=>?_,(fun _ _ _ h=>by cases h),by kernel_rfl,(fun _ h=>by cases h)⟩
 . simp only[UO0]at h
   split at h
   . cases h;exact⟨dbl_c,Tryz.f19,Tryz.func19,by kernel_rfl,by kernel_rfl⟩
   . cases h;exact⟨YzH,Tryz.f44,Tryz.func44,by kernel_rfl,by kernel_rfl⟩
   . cases h;exact⟨YvC,Tryz.f45,Tryz.func45,by kernel_rfl,by kernel_rfl⟩
   . cases h;exact⟨Yux,Tryz.f8,Tryz.func8,by kernel_rfl,by kernel_rfl⟩
   . cases h;exact⟨wav_c,Tryz.f18,Tryz.func18,by kernel_rfl,by kernel_rfl⟩
   . cases h;exact⟨YsK,Tryz.f17,Tryz.func17,by kernel_rfl,by kernel_rfl⟩
   . cases h
 . simp only[UO0]at h
   split at h
   . cases h;exact⟨Tryz.f16,Tryz.func16,YB2,Tryz.f16,Tryz.func16,by kernel_rfl,by kernel_rfl⟩
   . cases h
theorem YAa:(lawC [⟨true,shp6⟩,⟨false,[.int .i64]⟩]).ok YCS 4:=by
 refine Yb Tryz.func4 v4_is Yzi 900 (lawC [⟨true,shp6⟩,⟨false,[.int .i64]⟩]) fun args k h=>?_
 obtain⟨ha,hk⟩:=h
 obtain⟨_,_,rfl,h1,e1⟩:=YeG ha
 obtain⟨cs,rfl,g1⟩:=Ylw h1
 obtain⟨a,t0,t,T,rfl,hnm⟩:=YsS g1
 obtain⟨_,_,rfl,h2,e2⟩:=YeG e1
 obtain⟨note,rfl,hw⟩:=YgE (Ylx h2)
 cases Yku e2
 have hk':k (.bool true) []:=hk
 have hm:T.nm.size<=9223372036854775807:=YC4 hnm (by unfold maxLen;decide)
 refine⟨[.agg (YvA a t0 t T),.int .i64 note],?_,?_⟩
 . refine⟨Yi _ ⟨trivial,trivial,trivial,?_⟩,⟨rfl,rfl⟩,trivial⟩
   exact Yak T _
 dsimp only[v4,YvA,YlG,lenT,Ymw,Ymx,Yo5,Ymu,Ymt,Yms,Ymy,v16,Ymv,dblC,chkSC,chk5A,frq6C,wavC,trueC,go_sem,reduceIte,YCL]
 simp only[Yc,YCL,YCN,reduceCtorEq,YCM]
 simp only[vw_T]
 refine⟨YbB T,YbB T,T,fun _=>⟨rfl,hm⟩,fun _=>⟨YbB T,T,fun _=>⟨rfl,hm⟩,fun hc=>?_,fun hc=>?_⟩,fun hc=>?_⟩
 . exact YB hk'
 . have hg:chkS a t0 t=0/\YY T=0/\0<=note/\note<=139/\0<=IntKind.i64.wrap (note+12)/\IntKind.i64.wrap (note+12)<=139:=by
     simp only[YDm,Bool.not_eq_false',YCV,decide_eq_true_eq]at hc
     obtain⟨⟨⟨⟨c1,c2⟩,c3⟩,c4⟩,⟨⟨c5,c6⟩,c7⟩,c8⟩:=hc
     exact⟨c1,c2,c3,c4,c7,c8⟩
   obtain⟨hS,hT,n0,n1,n2,n3⟩:=hg
   rw[YCQ (note+12) (by omega)]at n2 n3⊢
   have hS0:chkS a t0 t0=0:=by
     obtain⟨ha',hb0,hb1⟩:=Yeo hS
     unfold chkS
     rw[if_neg]
     rw[hb0];simp;omega
   simp only[sp_T,vw_T,lenT]
   refine⟨T,⟨rfl,hm,hS,hT,n0,n1⟩,by decide,by decide,T,⟨rfl,hm,hS,hT,n2,n3⟩,by decide,by decide,T,⟨rfl,hm,hS,hT,n0,n1⟩,by decide,by decide,T,⟨rfl,hm,hS,hT,n2,n3⟩,by decide,by decide,by decide,T,⟨rfl,hm,hS0,hT,by decide,by decide⟩,?_⟩
   obtain⟨r,n,hr,hnr⟩:=YiS hT n0
   obtain⟨k1,x1,f1,p1⟩:=Yiw hS ⟨n0,n1⟩ hr hnr
   obtain⟨k2,x2,f2,p2⟩:=YlQ (t:=t) (note:=note+12) hS ⟨by omega,n3⟩ (by rw[Ylu];exact hr) hnr
   have b1:=YnQ x1 p1.lt
   have b2:=YnQ x2 p2.lt
   rw[<-f1]at b1
   rw[<-f2]at b2
   have o1:dblB ((Yd3 (Yp T) t0 t note a).1,(Yd3 (Yp T) t0 t note a).2) ((Yd3 (Yp T) t0 t (note+12) a).1,(Yd3 (Yp T) t0 t (note+12) a).2)=true:=YvZ hS hT n0 n3
   have o2:dblB ((wavF (Yp T) a t0 (note+12)).1,(wavF (Yp T) a t0 (note+12)).2) ((wavF (Yp T) a t0 note).1,(wavF (Yp T) a t0 note).2)=true:=Yyv hS hT n0 n3
   have e69:=YzX hS0 hT
   rw[o1,o2,e69]
   refine⟨by decide,by decide,fun hb=>?_,fun _=>⟨⟨⟨by omega,by omega⟩,by omega,by omega⟩,fun _=>⟨⟨by omega,by omega⟩,by omega,by omega⟩,YB hk'⟩⟩
   simp at hb
 . refine⟨by simpa using hc,.bool false,?_⟩
   dsimp only[YlG,lenT,Ymw,Ymx,Yo5,Ymu,Ymt,Yms,Ymy,v16,Ymv,dblC,chkSC,chk5A,frq6C,wavC,trueC,go_sem,reduceIte,YCL]
   simp only[Yc,YCL,YCN,reduceCtorEq,YCM]
   refine⟨fun _=>YB hk',fun hh=>?_⟩
   have hx:(decide (chkS a t0 t=0)&&decide (YY T=0)&&decide (0<=note)&&decide (note<=139))=false:=by simpa using hc
   rw[hx]at hh
   exact absurd hh (by decide)
end Go.Proofs.YtfjodiojchknmaaGreatDoor
namespace Go.Vx
open Go Go.RowKit Go.ChangeShapes Go.WideShapes Go.ChangeAt Go.WideMaps Go.WideElems
def primesL:List Int:=[2,3,5,7,11,13]
def Ydb:DataW Unit:= .agg [.lit (.int .i64 2),.lit (.int .i64 3),.lit (.int .i64 5),.lit (.int .i64 7),.lit (.int .i64 11),.lit (.int .i64 13)]
theorem Yj7{P:Program}{W:World}{g:Nat}{T el:TypeId}(hg:P.globalNamed "quintadena/ratios.primes" =some g)(hT:(P.globals[g]?).map (·.type)=some T)
   (hu:P.underlying T=some (.array 6 el)) (he:P.underlying el=some (.int .i64)) (hc:P.cellsOf el=1) (hp:laidMetH P [("quintadena/ratios.primes",Ydb)] W):
   Cells W g 0 (gloV primesL):=by
 rw[MakeChecks.laidMetH_plain _ _ _ (by kernel_rfl)]at hp
 obtain⟨ps,⟨g1,t1,cs1,f1,p1,q1,hg1,ht1,hv1,hd1,h1⟩,h2⟩:=hp
 obtain rfl:=Option.some.inj (hg.symm.trans hg1)
 obtain rfl:=Option.some.inj (hT.symm.trans ht1)
 obtain⟨xs,m1,rfl,hx1,hlen,hn3,hel⟩:=DataW.trod_array hu hd1
 have hcell:∀k,k<6->cs1[k]? =some (.int .i64 (primesL.getD k 0)):=by
   intro k hk
   have h3:=hel k hk
   obtain⟨x,hx⟩:∃x,xs[k]? =some x:=⟨xs[k]'(by omega),by simp⟩
   rw[hx,hc,YDN]at h3
   obtain⟨v,e1,e2,_⟩:=DataW.trod_int he h3
   have e3:(cs1.toList.drop k)[0]? =some (.int .i64 v):=by
     have:((cs1.toList.drop k).take 1)[0]? =some (.int .i64 v):=by rw[e1];rfl
     simpa using this
   have e4:cs1[k]? =some (.int .i64 v):=by simpa using e3
   rw[e4]
   simp only[Prod.mk.injEq]at hx1
   have e5:(DataW.lit (.int .i64 (primesL.getD k 0)):DataW Unit)=x.1:=by
     have e6:(xs.map (·.1))[k]? =some x.1:=by simp [hx]
     have e7:=hx1.1
     simp only[Ydb,DataW.agg.injEq]at e7
     rw[<-e7]at e6
     match k,hk,e6 with
     |0,_,e6|1,_,e6|2,_,e6|3,_,e6|4,_,e6|5,_,e6=>exact Option.some.inj e6
   rw[e2]at e5
   simp only[DataW.lit.injEq,Lit.int.injEq]at e5
   rw[e5.2]
 unfold World.var? at hv1
 rw[hg]at hv1
 simp only[Option.bind_some]at hv1
 split at hv1
 . rename_i cs T' fz ho
   cases hv1
   refine⟨cs1,T',fz,ho,fun j v hj=>?_⟩
   have hj6:j<6:=by
     have:=(List.getElem?_eq_some_iff.1 hj).1
     simpa [gloV,primesL]using this
   rw[YDH,hcell j hj6]
   match j,hj6,hj with
   |0,_,hj|1,_,hj|2,_,hj|3,_,hj|4,_,hj|5,_,hj=>exact hj
 . cases hv1
theorem Yki{g:Nat}{T el:TypeId}{C:Checked}{f:FuncId}{fn:Func}{s:ChangeSpec}{dom:List PathCond}{os:Os}{H:Type}{enc:TypeId×Value->H}{shs:List PSh}{tb:TypeId}
   (own:ownKnob C.prog.godebug=none)(started:os.Started)(noInit:C.prog.inits.idxOf? f=none)(hfn:C.prog.funcs[f]? =some fn)(hl:laidOutB C.prog=true)
   (witness:∃(w:World) (tape:Tape) (i:Input),w.os=os/\(w.forCall tape i).Shaped C.prog/\i.vars=[]/\Input.okWide C.prog (w.forCall tape i) .any w.heap.size f i/\
     ((s.pre enc C.prog fn dom false (w.forCall tape i).memory i.args/\laidMetH C.prog [("quintadena/ratios.primes",Ydb)] (w.forCall tape i).memory)/\sizedMet enc C.prog fn (OpenSpec.ofChange s) false (w.forCall tape i).memory i.args)/\({}:Assume).holds C.prog (lone (Frame.enter C.prog f i.args .normal) [] (w.forCall tape i)))
   (hsh:Ykz C.prog fn.params.toList=some shs)(hread:Yxg C.prog fn.params.toList=true)(hres:fn.resultTypes.toList=[tb])(htb:C.prog.underlying tb=some .bool)(hvars:s.vars=[])
   (hspec:∀ds:List (DataW H),ds.length=fn.params.toList.length->(s.fn H ds).results=[.lit (.bool true)]/\(s.fn H ds).args=ds/\(s.fn H ds).vars=[])(hc:(lawC shs).ok C.prog f)(hg:C.prog.globalNamed "quintadena/ratios.primes" =some g)(hT:(C.prog.globals[g]?).map (·.type)=some T) (hu:C.prog.underlying T=some (.array 6 el)) (he:C.prog.underlying el=some (.int .i64)) (hce:C.prog.cellsOf el=1):
   ReturnsInHanded {} C os f .any (fun w args=>(s.pre enc C.prog fn dom false w args/\laidMetH C.prog [("quintadena/ratios.primes",Ydb)] w)/\sizedMet enc C.prog fn (OpenSpec.ofChange s) false w args) (s.post enc C.prog fn false true false false):=by
 refine returnsInHanded_of_change_and (X:=fun w _=>laidMetH C.prog [("quintadena/ratios.primes",Ydb)] w) (fun _ _ _ hh h=>h.of_heap hh) own started noInit hfn witness ?_
 intro W base args ds gs before hval hW hcnd _ hL _
 obtain⟨p,q,hA,hV,hbef,hfz,hnd⟩:=id hW
 have hlen:=YgV hA
 rw[hvars]at hV
 obtain⟨rfl,rfl⟩:=trodVars_none hV
 obtain⟨svs,k1,k2⟩:=YhH (B:=W.heap.size) hsh (fun j t v ht hv=>hval j t v (by simpa using ht) (by simpa using hv)) hA
 have hcall:=hc svs args.toList (cx0 W) (fun r hs=>r= .bool true) ⟨fun b K h=>(by cases h),fun g' l h=>by
   have hcl:=Yj7 hg hT hu he hce hL
   unfold glob at h
   split at h
   . rename_i hg'
     cases h
     obtain rfl:=Option.some.inj (hg.symm.trans hg')
     obtain⟨cs,T',fz,ho,_⟩:=id hcl
     exact⟨(YDe.1 ho).1,trivial,hcl⟩
   . cases h⟩ k1 ⟨k2,rfl⟩
 simp only[Array.toArray_toList]at hcall
 refine hcall.mono fun e W' h=>?_
 obtain⟨r,hs,v,bs,J,hJ,rfl,rfl,hr,_,hbI,_⟩:=h
 have hb:Below W.heap.size W W':=⟨hbI.os,hbI.tape,hbI.output,hbI.size,fun k hk=>hbI.block k hk rfl⟩
 have hv:=hr.bool_inv
 subst hv
 obtain⟨s1,s2,s3⟩:=hspec ds hlen
 refine⟨_,rfl,ds,[],before,[],p,[],hW,?_,?_,?_,hb.frame _,fun h=>by cases h⟩
 . rw[List.append_nil,s1,hres]
   have hsz:fn.resultTypes.size=1:=by rw[<-Array.length_toList,hres];rfl
   have:(Value.bool true).resultList fn.resultTypes.size=[.bool true]:=by rw[hsz];rfl
   rw[this]
   exact trodAll_mk1 (shut_bool htb true)
 . rw[List.append_nil,s2]
   exact Yfr hl hb hread hA
 . rw[List.append_nil,s3,hvars];rfl
end Go.Vx
namespace Go.Vx
open Go Go.RowKit Go.ChangeShapes Go.WideShapes Go.ChangeAt Go.WideMaps Go.WideElems
end Go.Vx
namespace Go.Proofs.YtfjodiojchknmaaGreatDoor
open Go Go.Vx Go.RowKit
set_option maxRecDepth 100000
theorem YAO:ownKnob YCS.godebug=none:=by kernel_rfl
theorem Ywh:laidOutB YCS=true:=by kernel_rfl
theorem gPr37:YCS.globalNamed "quintadena/ratios.primes" =some 0:=by kernel_rfl
theorem tPr37:(YCS.globals[0]?).map (·.type)=some 167:=by kernel_rfl
theorem uPr37:YCS.underlying 167=some (.array 6 2):=by kernel_rfl
theorem ePr37:YCS.underlying 2=some (.int .i64):=by kernel_rfl
theorem cPr37:YCS.cellsOf 2=1:=by kernel_rfl
theorem YzP(os:Os)(args:Array Value):laidMetH YCS [("quintadena/ratios.primes",Ydb)] ((World.doorLaid YCS 400 os).forCall (fun _ _=>0) ⟨#[],args,[]⟩).memory:=
 laidMetH_of_parts3 (fuel:=8) (laidMet_of_run' 8 (by kernel_rfl) (by kernel_rfl)) (by kernel_rfl) (by kernel_rfl)
theorem Yeb(os:Os)(started:os.Started)(H:Type)(enc:TypeId×Value->H):
   ReturnsInHanded {} Tryz.checked os 4 .any (fun w args=>(Rows.pitchOctavesSpec.pre enc YCS Tryz.f4 [] false w args/\laidMetH YCS [("quintadena/ratios.primes",Ydb)] w)/\sizedMet enc YCS Tryz.f4 (OpenSpec.ofChange Rows.pitchOctavesSpec) false w args)
     (Rows.pitchOctavesSpec.post enc YCS Tryz.f4 false true false false):=
 Yki (C:=Tryz.checked) (tb:=4) YAO started (by kernel_rfl) Tryz.func4 Ywh
   (ChangeSpec.witness_shaped (enc:=enc) (C:=Tryz.checked) (os:=os) (X:=fun w _=>laidMetH YCS [("quintadena/ratios.primes",Ydb)] w) false (World.doorLaid YCS 400 os) #[.agg #[.int .i64 0,.int .i64 0,.int .i64 0,.string ⟨#[]⟩,.bool false,.int .i64 0,.int .i64 0,.int .i64 0,.int .i64 0,.int .i64 0,.int .i64 0,.int .i64 0,.int .i64 0,.int .i64 0,.int .i64 0,.int .i64 0,.int .i64 0,.int .i64 0,.int .i64 0,.int .i64 0,.int .i64 0,.int .i64 0,.int .i64 0,.int .i64 0,.int .i64 0,.int .i64 0,.int .i64 0,.int .i64 0,.int .i64 0,.int .i64 0],.int .i64 0] 8 rfl (World.shaped_of_RefB (by kernel_rfl) (by kernel_rfl)) (by kernel_rfl) (by kernel_rfl) (by kernel_rfl) (YzP os _))
   (by kernel_rfl) (by kernel_rfl) (by kernel_rfl) (by kernel_rfl) rfl (fun ds h=>match ds,h with| [_,_],_=>⟨rfl,rfl,rfl⟩) YAa gPr37 tPr37 uPr37 ePr37 cPr37
theorem Yfa:Rows.PitchOctavesSaid:=
 OpenClaim.holds_of_wide 4 Tryz.f4 rfl rfl rfl rfl rfl rfl rfl ⟨rfl,rfl,rfl,rfl,rfl⟩ rfl rfl rfl rfl rfl (by kernel_rfl) Tryz.func4 (by kernel_rfl)
   (of_decide_eq_true (by kernel_rfl)) (by unfold Func.isWrapper;first| (rw[if_pos (by decide+kernel)];kernel_rfl) | (rw[if_neg (by decide+kernel)];exact⟨rfl,rfl⟩))
   (fun os started H enc _=>Yeb os started H enc)
theorem pitchOctaves_holds:Rows.PitchOctavesCardSaid:=
 Claim7.holds_tied_plain_at .later [] [.data] true (true, "0c962a7de201b333494358a9e6881a4611c9eb42a14a790af7658f72a7e712a7") false
   Yfa (fun _ h=>by cases h) (by kernel_rfl) (fun _ h=>by cases h) pitchOctaves_row_tie rfl ⟨rfl,rfl⟩ (by kernel_rfl) rfl
   (fun f fn hf hfn=>by
     obtain rfl:f=4:=Option.some.inj ((show YCS.funcNamed Rows.pitchOctavesRow.func=some 4 by kernel_rfl).symm.trans hf) |>.symm
     obtain rfl:fn=Tryz.f4:=(Option.some.inj (Tryz.func4.symm.trans hfn)).symm
     exact⟨by kernel_rfl,fun j t ht=>by
       have hall:(Tryz.f4.params.toList.all fun u=>!YCS.wantsStandIn u)=true:=by kernel_rfl
       have hm:t∈Tryz.f4.params.toList:=Array.mem_toList_iff.2 (Array.mem_of_getElem? ht)
       exact(show YCS.wantsStandIn t=false by simpa using List.all_eq_true.1 hall t hm)⟩)
   (by kernel_rfl)
end Go.Proofs.YtfjodiojchknmaaGreatDoor
