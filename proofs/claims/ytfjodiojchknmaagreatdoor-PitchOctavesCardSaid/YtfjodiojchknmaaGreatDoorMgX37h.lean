/- Roots of 2 one after the other, evaluated: none is nearly a whole number, but for powers of 2. -/
import Derived.Test.YtfjodiojchknmaaGreatDoorMgX37f
import Derived.Test.YtfjodiojchknmaaGreatDoorMgX37g
import Derived.Test.YtfjodiojchknmaaGreatDoorMgX37d
import Derived.LaidMore
import Derived.OpenShut
import Derived.Stop.Joined
import Derived.Deep.Slices
import Derived.Test.YtfjodiojchknmaaGreatDoorRows
import Derived.Test.YtfjodiojchknmaaGreatDoorCards
import Derived.Test.YtfjodiojchknmaaGreatDoorTie
import Derived.ProofKit
import Derived.SevenTiedAt
open And renaming intro->YC8
open Array renaming getElem?_eq_some_iff->YDl
open Bool renaming and_eq_true->YC2,false_eq_true->YDB,or_eq_false_iff->YDt,or_eq_true->YDN
open Int renaming mul_le_mul_of_nonneg_left->YDn,mul_nonneg->YDf,toNat_natCast->YCW,toNat_of_nonneg->YDr
open Go.IntWalk renaming i64_in->YCX
open List renaming length_append->YDF,length_cons->YDP,map_cons->YDk,mem_append->YDp,mem_cons->YDx,mem_cons_of_mem->YDa,mem_cons_self->YDd,mem_map->YDW,mem_singleton->YDC
open Nat renaming add_mul->YDi,div_add_mod->YDQ,div_mul_le_self->YDL,eq_zero_or_pos->YDD,gcd->YDJ,le_of_ble_eq_true->YDw,le_of_eq->YDV,le_of_mul_le_mul_right->YDj,le_refl->YC5,le_trans->YDb,lt_of_le_of_lt->YDH,lt_of_lt_of_le->YDI,lt_or_ge->YDz,mod_lt->YDR,mul_add->YDT,mul_assoc->YC3,mul_comm->YC4,mul_le_mul->YDg,mul_le_mul_left->YC1,mul_le_mul_right->YC0,mul_left_comm->YDo,mul_one->YDU,mul_pos->YDv,mul_pow->YDq,one_mul->YDE,pow_add->YC6,pow_le_pow_left->YC9,pow_le_pow_right->YDm,pow_mul->YDc,pow_pos->YDs,pow_succ->YDh,reduceAdd->YCS,reduceEqDiff->YCT,reduceLeDiff->YCU,zero_add->YDO
open Go.Proofs.Tryz renaming prog->YCZ
set_option linter.all false
namespace Go.Proofs.YtfjodiojchknmaaGreatDoor
open Go Go.Vx
def upR(R:Nat):Nat->Nat->Nat
 |0,u=>u
 |i+1,u=>upR R i (u*u/R+1)
def dnR(R:Nat):Nat->Nat->Nat
 |0,u=>u
 |i+1,u=>dnR R i (u*u/R)
theorem Ycx(a i:Nat):a^(2^(i+1))=(a*a)^(2^i):=Ynv a i
theorem Yu9{R:Nat}(hR:0<R):∀(i u X Y:Nat),X*R<=u*Y->X^(2^i)*R<=upR R i u*Y^(2^i)
 |0,u,X,Y,h=>by simpa [upR]using h
 |i+1,u,X,Y,h=>by
   rw[upR,Ycx,Ycx]
   refine Yu9 hR i _ _ _ ?_
   refine YDj (c:=R) ?_ hR
   have k:=YDg h h
   have k0:u*u<=(u*u/R+1)*R:=by
     have:=YDQ (u*u) R
     have h3:=YDR (u*u) hR
     rw[YDi,YDE,YC4 (u*u/R)];omega
   have k1:=YC0 (Y*Y) k0
   have e1:X*R*(X*R)=X*X*R*R:=by simp only[YC3,YDo]
   have e2:u*Y*(u*Y)=u*u*(Y*Y):=by simp only[YC3,YDo]
   have e3:(u*u/R+1)*(Y*Y)*R=(u*u/R+1)*R*(Y*Y):=Nat.mul_right_comm ..
   omega
theorem Yuw{R:Nat}(hR:0<R):∀(i u X Y:Nat),u*Y<=X*R->dnR R i u*Y^(2^i)<=X^(2^i)*R
 |0,u,X,Y,h=>by simpa [dnR]using h
 |i+1,u,X,Y,h=>by
   rw[dnR,Ycx,Ycx]
   refine Yuw hR i _ _ _ ?_
   refine YDj (c:=R) ?_ hR
   have k:=YDg h h
   have k1:=YC0 (Y*Y) (YDL (u*u) R)
   have e1:X*R*(X*R)=X*X*R*R:=by simp only[YC3,YDo]
   have e2:u*Y*(u*Y)=u*u*(Y*Y):=by simp only[YC3,YDo]
   have e3:u*u/R*(Y*Y)*R=u*u/R*R*(Y*Y):=Nat.mul_right_comm ..
   omega
theorem RtJ.up{R J x y m:Nat}(d:Nat)(h:RtJ R J x y m):RtJ R (J+d) x y (m*2^d):=by
 obtain⟨h1,h2⟩:=h
 unfold RtJ
 have k1:=YC9 h1 (2^d)
 have k2:=YC9 h2 (2^d)
 rw[YDq,<-YDc,<-YDc,<-YDc,<-YC6]at k1 k2
 exact⟨k1,k2⟩
theorem RtJ.le{R J x y m B:Nat}(h:RtJ R J x y m)(hm:m<=B*2^J):x<=2^B*R:=by
 have hQ:=Y3 J
 rw[<-Nat.pow_le_pow_iff_left (show 2^J≠0 by omega),YDq,<-YDc]
 exact YDb h.1 (YC0 _ (YDm (by decide) hm))
def sq(n:Nat)(f:Nat->Bool):Bool:=Nat.rec (f 0) (fun k _=>f (Nat.succ k)) n
theorem YtG{J J' n:Nat}(h:Yba J n)(h1:J<=J')(h2:J'<=2048):(lN n 2048).2<=(lN n 2048).1+2^(J'-J)*2^(2048-J'):=by
 rw[<-YC6,show J'-J+(2048-J')=2048-J by omega]
 exact h
theorem Ygv:∀q,q<62->YaI ((2^q:Nat):Int)=true:=by decide
def farJ(J n:Nat):Prop:=∀m,¬Near (2^4160) (2^2160) J n m
theorem YdC{J n:Nat}(hJ:J<=500)(h1:1<=n)(h2:n<2^61)(h:(∃q,n=2^q)\/farJ J n):Yba J n:=by
 rcases Yq9 h1 (Nat.lt_trans h2 (by decide)) hJ with hn| ⟨hp,m,hm⟩
 . exact hn
 . exfalso
   rcases h with⟨q,hq⟩ |h
   . have hq2:q<61:=(Nat.pow_lt_pow_iff_right (show 1<2 by decide)).1 (by rw[<-hq];exact h2)
     rw[hq,Ygv q (by omega)]at hp
     cases hp
   . exact h m hm
end Go.Proofs.YtfjodiojchknmaaGreatDoor
set_option maxRecDepth 100000
namespace Go.Proofs.YtfjodiojchknmaaGreatDoor.LB
theorem YAC{P:Nat}{n a c:Nat}(hP:2*kap^P<=(kap+1)^P)(h:2^c*(kap+1)^a<=n*kap^a):2^(c*P+a)<=n^P:=by
 have h1:=YC9 hP a
 have h2:=YC9 h P
 rw[YDq,<-YDc,<-YDc]at h1
 rw[YDq,YDq,<-YDc,<-YDc,<-YDc,YC4 a P]at h2
 have hk:0<kap^(P*a):=YDs (by decide)
 refine YDj (c:=kap^(P*a)) ?_ hk
 rw[YC6,YC3]
 exact YDb (YC1 _ h1) h2
theorem Yz9{P:Nat}{n b c:Nat}(hP:(kap+2)^P<=2*(kap+1)^P)(h:n*(kap+1)^b<=2^c*(kap+2)^b):n^P<=2^(c*P+b):=by
 have h1:=YC9 hP b
 have h2:=YC9 h P
 rw[YDq,<-YDc,<-YDc]at h1
 rw[YDq,YDq,<-YDc,<-YDc,<-YDc,YC4 b P]at h2
 have hk:0<(kap+1)^(P*b):=YDs (by decide)
 refine YDj (c:=(kap+1)^(P*b)) ?_ hk
 rw[YC6,YC3]
 exact YDb h2 (YC1 _ h1)
theorem Yr9{M W:Nat}:∀k,k*W<=M->(M-k*W)*(M+W)^k<=M^k*M
 |0,_=>by simp
 |k+1,h=>by
   rw[YDi,YDE]at h
   have ih:=Yr9 (M:=M) (W:=W) k (by omega)
   rw[YDh,YDh]
   obtain⟨x,hx⟩:∃x,M=(k+1)*W+x:=⟨M-(k+1)*W,by rw[YDi,YDE];omega⟩
   have e1:M-(k+1)*W=x:=by omega
   have e2:M-k*W=W+x:=by rw[YDi,YDE]at hx;omega
   rw[e1]
   rw[e2]at ih
   have h3:x*(M+W)<=(W+x)*M:=by
     have:x*(M+W)=x*M+x*W:=YDT ..
     have:(W+x)*M=W*M+x*M:=YDi ..
     have:x*W<=W*M:=by rw[YC4];exact YC1 W (by omega)
     omega
   have h4:=YC1 ((M+W)^k) h3
   have h5:=YC0 M ih
   generalize(M+W)^k=p at*
   generalize M^k=r at*
   have e3:x*(p*(M+W))=p*(x*(M+W)):=by rw[YDo]
   have e4:p*((W+x)*M)=(W+x)*p*M:=by rw[YDo,YC3]
   omega
theorem Yp3{M W:Nat}(hWM:W<=M):∀k,k*W<=M->M^k*(M-k*W)<=(M-W)^k*M
 |0,_=>by simp
 |k+1,h=>by
   rw[YDi,YDE]at h
   have ih:=Yp3 hWM k (by omega)
   rw[YDh,YDh]
   obtain⟨V,hV⟩:∃V,M=W+V:=⟨M-W,by omega⟩
   have e0:M-W=V:=by omega
   obtain⟨x,hx⟩:∃x,M=(k+1)*W+x:=⟨M-(k+1)*W,by rw[YDi,YDE];omega⟩
   have e1:M-(k+1)*W=x:=by omega
   have e2:M-k*W=W+x:=by rw[YDi,YDE]at hx;omega
   rw[e1,e0]
   rw[e2,e0]at ih
   have h3:M*x<=(W+x)*V:=by
     have:M*x=W*x+V*x:=by rw[hV,YDi]
     have:(W+x)*V=W*V+x*V:=YDi ..
     have:W*x<=W*V:=YC1 W (by rw[YDi,YDE]at hx;omega)
     have:V*x=x*V:=YC4 ..
     omega
   have h4:=YC1 (M^k) h3
   have h5:=YC0 V ih
   generalize V^k=p at*
   generalize M^k=r at*
   have e3:r*M*x=r*(M*x):=YC3 ..
   have e4:r*((W+x)*V)=r*(W+x)*V:=by rw[YC3]
   have e5:p*V*M=p*M*V:=Nat.mul_right_comm ..
   omega
theorem near_pow{M W Z P m:Nat}(hM:2*(P*W)<=M)(hP:1<=P)(hM0:0<M)(h1:2^m*M<=Z*M+2^m*W)(h2:Z*M<=2^m*(M+W)):2^(m*P)<=2*Z^P/\Z^P<=2*2^(m*P):=by
 have hPW:W<=P*W:=Nat.le_mul_of_pos_left W hP
 have u:=Yr9 (M:=M) (W:=W) P (by omega)
 have d:=Yp3 (M:=M) (W:=W) (by omega) P (by omega)
 have hMP:0<M^P:=YDs hM0
 have h1':2^m*(M-W)<=Z*M:=by rw[Nat.mul_sub];omega
 have k1:=YC9 h1' P
 have k2:=YC9 h2 P
 rw[YDq,YDq,<-YDc]at k1 k2
 generalize 2^(m*P)=A at*
 generalize Z^P=B at*
 generalize(M+W)^P=C at*
 generalize(M-W)^P=D at*
 generalize M^P=E at*
 constructor
 . --A E M <=A 2 (M-PW) E <=2 A D M <=2 B E M
   refine YDj (c:=E*M) ?_ (YDv hMP hM0)
   have a1:M<=2*(M-P*W):=by omega
   have a2:=YC1 (A*E) a1
   have a3:=YC1 A d
   have a4:=YC0 M k1
   generalize M-P*W=V at*
   grind
 . refine YDj (c:=E*M) ?_ (YDv hMP hM0)
   have a1:M<=2*(M-P*W):=by omega
   have a2:=YC1 (A*C) a1
   have a3:=YC1 A u
   have a4:=YC0 M k2
   generalize M-P*W=V at*
   grind
theorem pow_of_le{a b:Nat}(h:2^a<=2^b):a<=b:=(Nat.pow_le_pow_iff_right (show 1<2 by decide)).1 h
theorem Yqj{n F J P x y m:Nat}(hxy:y+P+1<=x)(hF:F=J+P)(hJ:J=48)(hP:P=64)(hU:2*kap^(2^F)<=(kap+1)^(2^F))(hL:(kap+2)^(2^F)<=2*(kap+1)^(2^F))(h:Good n)(hm:Near (2^x) (2^y) J n m):False:=by
 obtain⟨a,b,q,l,u,h1,h2⟩:=h
 have k1:=YAC hU l
 have k2:=Yz9 hL u
 have e:n^(2^F)=(n^(2^J))^(2^P):=by rw[<-YDc,hF,YC6]
 rw[e]at k1 k2
 have hbig:2*(2^P*2^y)<=2^x:=by
   rw[<-YC6,<-Nat.pow_succ']
   exact YDm (by decide) (by omega)
 obtain⟨g1,g2⟩:=near_pow (P:=2^P) hbig (Nat.two_pow_pos P) (Y3 x) hm.1 hm.2
 have c1:2^(28*2^F+a)<=2^(m*2^P+1):=by rw[YDh];omega
 have c2:2^(m*2^P)<=2^(28*2^F+b+1):=by rw[YDh];omega
 have d1:=pow_of_le c1
 have d2:=pow_of_le c2
 clear c1 c2 g1 g2 k1 k2 e hm l u hU hL hbig hxy
 subst hJ hP hF
 have:(2:Nat)^(48+64)=2^48*2^64:=YC6 ..
 omega
theorem Ytg{n F J P:Nat}(hF:F=J+P)(hJ:J=48)(hP:P=64)(hU:2*kap^(2^F)<=(kap+1)^(2^F))(hL:(kap+2)^(2^F)<=2*(kap+1)^(2^F))(h:Good n):farJ J n:=
 fun _ hm=>Yqj (by omega) hF hJ hP hU hL h hm
theorem Ys8{J n:Nat}(h:farJ J (2*n)):farJ J n:=by
 intro m hm
 refine h (2^J+m) ?_
 obtain⟨h1,h2⟩:=hm
 unfold Near
 rw[YDq,YC6]
 generalize(2:Nat)^4160=M at*
 generalize(2:Nat)^2160=W at*
 generalize 2^2^J=Q at*
 generalize n^2^J=X at*
 generalize 2^m=R at*
 have k1:=YC1 Q h1
 have k2:=YC1 Q h2
 constructor
 . grind
 . grind
theorem Ypr{J:Nat}(h:∀n,2^28<n->n<2^29->farJ J n):∀k n,2^28<=n*2^k->n*2^k<2^29->(∃q,n=2^q)\/farJ J n
 |0,n,h1,h2=>by
   by_cases c:n=2^28
   . exact Or.inl ⟨28,c⟩
   . exact Or.inr (h n (by omega) (by omega))
 |k+1,n,h1,h2=>by
   have e:n*2^(k+1)=2*n*2^k:=by rw[YDh];grind
   rw[e]at h1 h2
   rcases Ypr h k (2*n) h1 h2 with⟨q,hq⟩ |hf
   . cases q with
     |zero=>omega
     |succ q=>exact Or.inl ⟨q,by rw[YDh]at hq;omega⟩
   . exact Or.inr (Ys8 hf)
theorem YsH{J:Nat}(h:∀n,2^28<n->n<2^29->farJ J n){n:Nat}(h1:1<=n)(h2:n<2^29):(∃q,n=2^q)\/farJ J n:=by
 have hlog:∃k,2^28<=n*2^k/\n*2^k<2^29:=by
   have:∀j,j<=29->∀n,1<=n->n<2^29->2^(29-j)<=2*n->∃k,2^28<=n*2^k/\n*2^k<2^29:=by
     intro j
     induction j with
     |zero=>intro _ n _ h2 h3;exact⟨0,by omega,by omega⟩
     |succ j ih=>
       intro hj n h1 h2 h3
       by_cases c:2^28<=n
       . exact⟨0,by omega,by omega⟩
       . obtain⟨k,k1,k2⟩:=ih (by omega) (2*n) (by omega) (by omega) (by
           have:29-j=29-(j+1)+1:=by omega
           rw[this,YDh];omega)
         exact⟨k+1,by rw[YDh];grind,by rw[YDh];grind⟩
   exact this 29 (YC5 _) n h1 h2 (by simp;omega)
 obtain⟨k,k1,k2⟩:=hlog
 exact Ypr h k n k1 k2
theorem YzV{R d a b:Nat}(hR:0<R)(h:d*a<=b*R)(h2:2*R<=d):2*a<=b:=by
 refine YDj (c:=R) ?_ hR
 have h3:=YC0 a h2
 have e:2*a*R=2*R*a:=Nat.mul_right_comm ..
 omega
theorem YB8{R d a b:Nat}(hR:0<R)(h:a*R<=d*b)(h2:d<=2*R):a<=2*b:=by
 refine YDj (c:=R) ?_ hR
 have h3:=YC0 b h2
 have e:2*b*R=2*R*b:=Nat.mul_right_comm ..
 omega
theorem hU{F:Nat}(hF:F=112):2*kap^(2^F)<=(kap+1)^(2^F):=by
 exact YzV (R:=2037035976334486086268445688409378161051468393665936250636140449354381299763336706183397376) (by decide) (Yuw (R:=2037035976334486086268445688409378161051468393665936250636140449354381299763336706183397376) (by decide) F 2037035976334486086268445688409378432986179016867039655483833588404070672507063007306623016 (kap+1) kap (by decide+kernel)) (by rw[hF];decide+kernel)
theorem hL{F:Nat}(hF:F=112):(kap+2)^(2^F)<=2*(kap+1)^(2^F):=by
 exact YB8 (R:=2037035976334486086268445688409378161051468393665936250636140449354381299763336706183397376) (by decide) (Yu9 (R:=2037035976334486086268445688409378161051468393665936250636140449354381299763336706183397376) (by decide) F 2037035976334486086268445688409378432986179016867039655483833588404034370503710671025638499 (kap+2) (kap+1) (by decide+kernel)) (by rw[hF];decide+kernel)
theorem Yz0{F n:Nat}(hF:F=112)(h1:1<=n)(h2:n<2^29):(∃q,n=2^q)\/farJ 48 n:=
 YsH (fun n a b=>Ytg (F:=F) (P:=64) hF rfl rfl (hU hF) (hL hF) (YsI a b)) h1 h2
theorem far48{n:Nat}(h1:1<=n)(h2:n<2^29):(∃q,n=2^q)\/farJ 48 n:=Yz0 rfl h1 h2
end Go.Proofs.YtfjodiojchknmaaGreatDoor.LB
namespace Go.Proofs.YtfjodiojchknmaaGreatDoor
theorem Yno{n:Nat}(h1:1<=n)(h2:n<2^29):Yba 48 n:=YdC (by decide) h1 (Nat.lt_trans h2 (by decide)) (LB.far48 h1 h2)
end Go.Proofs.YtfjodiojchknmaaGreatDoor
namespace Go.Proofs.YtfjodiojchknmaaGreatDoor
open Go Go.Vx
set_option maxRecDepth 100000
theorem Ys9{n J P a b q x y m:Nat}(hxy:y+P+1<=x)(hP:2<=P)(l:2^a<=n^(2^(J+P)))(u:n^(2^(J+P))<=2^b)(h1:q*2^P+2<=a)(h2:b+2<=(q+1)*2^P)(hm:Near (2^x) (2^y) J n m):False:=by
 have e:n^(2^(J+P))=(n^(2^J))^(2^P):=by rw[<-YDc,YC6]
 rw[e]at l u
 have hbig:2*(2^P*2^y)<=2^x:=by
   rw[<-YC6,<-Nat.pow_succ']
   exact YDm (by decide) (by omega)
 obtain⟨g1,g2⟩:=LB.near_pow (P:=2^P) hbig (Nat.two_pow_pos P) (Y3 x) hm.1 hm.2
 have c1:2^a<=2^(m*2^P+1):=by rw[YDh];omega
 have c2:2^(m*2^P)<=2^(b+1):=by rw[YDh];omega
 have d1:=LB.pow_of_le c1
 have d2:=LB.pow_of_le c2
 have hQ:=Y3 P
 generalize 2^P=Q at*
 rcases YDz q m with h|h
 . have:=YC0 Q (show q+1<=m from h)
   omega
 . have:=YC0 Q h
   omega
def glT(D f n:Nat):Nat×Nat:=gl (2^D) false f (n*2^(D-lgK n)) (n*2^(D-lgK n)) (lgK n)
theorem Yqh{D f n:Nat}(h1:1<=n)(hD:lgK n<=D):2^(glT D f n).1<=n^(2^f)/\n^(2^f)<=2^(glT D f n).2:=by
 obtain⟨m1,m2,m3⟩:=mant (D:=D) h1 hD
 exact Yiz _ false (YDs (by decide)) f _ _ _ n (YDV m3) (YDV m3.symm) m1 (Nat.le_of_lt m2)
def glOk(D f P n:Nat):Bool:=Nat.ble ((glT D f n).1/2^P*2^P+2) (glT D f n).1&&Nat.ble ((glT D f n).2+2) (((glT D f n).1/2^P+1)*2^P)&&Nat.ble (lgK n) D
theorem Ytf{D J P n:Nat}(hP:2<=P/\P<=1000)(h1:1<=n)(h:glOk D (J+P) P n=true):farJ J n:=by
 intro m hm
 simp only[glOk,YC2]at h
 have a:=YDw h.1.1
 have b:=YDw h.1.2
 have c:=YDw h.2
 obtain⟨l,u⟩:=Yqh (f:=J+P) h1 c
 exact Ys9 (by omega) hP.1 l u a b hm
theorem YhH{D J P n:Nat}(hP:2<=P/\P<=1000)(hJ:J<=500)(h1:1<=n)(h2:n<2^61)(h:glOk D (J+P) P n=true):Yba J n:=YdC hJ h1 h2 (Or.inr (Ytf hP h1 h))
theorem nar_3:Yba 100 3:=YhH (D:=400) (J:=100) (P:=70) (by decide) (by decide) (by decide) (by decide) (by decide+kernel)
theorem nar_5:Yba 100 5:=YhH (D:=400) (J:=100) (P:=70) (by decide) (by decide) (by decide) (by decide) (by decide+kernel)
theorem nar_7:Yba 100 7:=YhH (D:=400) (J:=100) (P:=70) (by decide) (by decide) (by decide) (by decide) (by decide+kernel)
theorem YAK:Yba 100 11:=YhH (D:=400) (J:=100) (P:=70) (by decide) (by decide) (by decide) (by decide) (by decide+kernel)
theorem YAL:Yba 100 13:=YhH (D:=400) (J:=100) (P:=70) (by decide) (by decide) (by decide) (by decide) (by decide+kernel)
theorem nar_c:Yba 48 331300000000:=YhH (D:=400) (J:=48) (P:=70) (by decide) (by decide) (by decide) (by decide) (by decide+kernel)
theorem Ytd:∀n m:Nat,n^4=2^m->∃q,n=2^q:=by
 intro n
 induction n using Nat.strongRecOn with
 |_ n ih=>
   intro m h
   by_cases h1:n<=1
   . refine⟨0,?_⟩
     rcases(show n=0\/n=1 by omega)with rfl|rfl
     . have:=Y3 m
       simp at h
       omega
     . rfl
   . have hm:4<=m:=by
       refine Nat.le_of_not_lt fun hh=>?_
       have a:=YC9 (show 2<=n by omega) 4
       have b:(2:Nat)^m<2^4:=(Nat.pow_lt_pow_iff_right (by decide)).2 hh
       omega
     obtain⟨d,rfl⟩:∃d,m=d+4:=⟨m-4,by omega⟩
     rw[YC6]at h
     have hev:n%2=0:=by
       refine Classical.byContradiction fun ho=>?_
       obtain⟨j,rfl⟩:∃j,n=2*j+1:=⟨n/2,by omega⟩
       have e:(2*j+1)^4=2*(8*j^4+16*j^3+12*j^2+4*j)+1:=by grind
       omega
     obtain⟨j,rfl⟩:∃j,n=2*j:=⟨n/2,by omega⟩
     rw[YDq]at h
     have h2:j^4=2^d:=by omega
     obtain⟨q,hq⟩:=ih j (by omega) d h2
     exact⟨q+1,by rw[hq,YDh,YC4]⟩
theorem Ylj{n x y d m:Nat}(hx:x=y+d)(hd:250<=d)(h2:n<2^41)(hm:Near (2^x) (2^y) 2 n m):∃q,n=2^q:=by
 obtain⟨a,b⟩:=hm
 have hW:=Y3 y
 have e:(2:Nat)^x=2^y*2^d:=by rw[hx,YC6]
 rw[e]at a b
 have h4:n^2^2=n^4:=rfl
 rw[h4]at a b
 have hn4:n^4<2^164:=by
   have:=Nat.pow_lt_pow_left h2 (show 4≠0 by decide)
   rwa [<-YDc]at this
 have hD:(2:Nat)^250<=2^d:=YDm (by decide) hd
 have h3:(2:Nat)^165*2^85=2^250:=rfl
 generalize hN:n^4=N at*
 generalize 2^y=W at*
 generalize hDD:(2:Nat)^d=D at*
 generalize hR:(2:Nat)^m=R at*
 have a':R*D<=N*D+R:=by
   refine Nat.le_of_mul_le_mul_left (c:=W) ?_ hW
   grind
 have b':N*D<=R*D+R:=by
   refine Nat.le_of_mul_le_mul_left (c:=W) ?_ hW
   grind
 have hRs:R<2^165:=by
   refine Nat.lt_of_not_le fun hh=>?_
   have k1:=YC0 D (show N+1<=2^164 from hn4)
   have k2:=YC0 D hh
   have k3:2*R<=R*D:=by
     have:2<=D:=by omega
     rw[YC4 R D];exact YC0 R this
   have e1:(N+1)*D=N*D+D:=by rw[YDi,YDE]
   have e2:(2:Nat)^165*D=2*(2^164*D):=by rw[YDh,Nat.mul_right_comm,YC4 2]
   have:0<D:=by omega
   omega
 have c1:R<=N:=by
   refine Nat.le_of_not_lt fun hh=>?_
   have:=YC0 D (show N+1<=R from hh)
   rw[YDi,YDE]at this
   omega
 have c2:N<=R:=by
   refine Nat.le_of_not_lt fun hh=>?_
   have:=YC0 D (show R+1<=N from hh)
   rw[YDi,YDE]at this
   omega
 exact Ytd n m (by rw[hN,hR];omega)
theorem YwK{n:Nat}(h1:1<=n)(h2:n<2^41):Yba 2 n:=by
 by_cases h:∃q,n=2^q
 . exact YdC (by decide) h1 (Nat.lt_trans h2 (by decide)) (Or.inl h)
 . exact YdC (by decide) h1 (Nat.lt_trans h2 (by decide)) (Or.inr fun m hm=>h (Ylj (x:=4160) (y:=2160) (d:=2000) rfl (by decide) h2 hm))
def wP(n:Nat):Nat:=if n=2 then 0 else if n=3\/n=5\/n=7\/n=11\/n=13 then 1 else if n<2^29\/n=331300000000 then 2^52 else 2^98
theorem Yqu:YaI ((2:Nat):Int)=true:=by decide
theorem lN_pw{n p:Nat}(h:YaI (n:Int)=true):(lN n p).2=(lN n p).1:=by
 unfold lN
 rw[if_pos h]
theorem wP_ok{n:Nat}(h1:1<=n)(h2:n<2^41):hiN n<=loN n+wP n*DD:=by
 unfold wP
 split
 . rename_i e
   subst e
   have e:hiN 2=loN 2:=lN_pw Yqu
   rw[e]
   exact Nat.le_add_right _ _
 . split
   . rename_i h
     rw[YDE]
     rcases h with rfl|rfl|rfl|rfl|rfl
     . exact Ykt nar_3
     . exact Ykt nar_5
     . exact Ykt nar_7
     . exact Ykt YAK
     . exact Ykt YAL
   . split
     . rename_i h
       have hn:Yba 48 n:=by
         rcases h with h|rfl
         . exact Yno h1 h
         . exact nar_c
       rw[<-KB_is.2]
       exact Yq8 hn
     . have:=YtG (J':=100) (YwK h1 h2) (by decide) (by decide)
       rw[show 100-2=98 from rfl]at this
       unfold hiN loN DD
       exact this
theorem Yve{n:Nat}(h1:1<=n)(h2:n<2^41):(lN n 2048).2<=(lN n 2048).1+wP n*2^(2048-100):=by
 have h:=wP_ok h1 h2
 unfold hiN loN DD at h
 exact h
theorem Yab(g:Nat->Nat):∀a b:List (Int×Int),upS g (a++b)=upS g a+upS g b/\dnS g (a++b)=dnS g a+dnS g b
 | [],b=>by simp [upS,dnS]
 |x::a,b=>by
   obtain⟨h1,h2⟩:=Yab g a b
   rw[List.cons_append,upS,dnS,upS,dnS,h1,h2]
   omega
theorem Yao:∀a b:List (Int×Int),upP (a++b)=upP a*upP b/\dnP (a++b)=dnP a*dnP b
 | [],b=>by simp [upP,dnP]
 |x::a,b=>by
   obtain⟨h1,h2⟩:=Yao a b
   rw[List.cons_append,upP,dnP,upP,dnP,h1,h2]
   simp only[YC3,and_self]
theorem at_S(g:Nat->Nat){l:List (Int×Int)}{s den k:Nat}(hd:1<=den):upS g (atF (l++[((s:Int),(den:Int))]) den k)=upS g l+g s*den/\dnS g (atF (l++[((s:Int),(den:Int))]) den k)=dnS g l+g k*den:=by
 unfold atF
 rw[(Yab g _ _).1,(Yab g _ _).2,(Yab g _ _).1,(Yab g _ _).2]
 have h1:¬((den:Int)<0):=by omega
 have h2:(-(den:Int))<0:=by omega
 simp only[upS,dnS,if_neg h1,if_pos h2,YCW,Int.neg_neg]
 omega
theorem at_P{l:List (Int×Int)}{s den k:Nat}(hd:1<=den):upP (atF (l++[((s:Int),(den:Int))]) den k)=upP l*s^den/\dnP (atF (l++[((s:Int),(den:Int))]) den k)=dnP l*k^den:=by
 unfold atF
 rw[(Yao _ _).1,(Yao _ _).2,(Yao _ _).1,(Yao _ _).2]
 have h1:¬((den:Int)<0):=by omega
 have h2:(-(den:Int))<0:=by omega
 simp only[upP,dnP,if_neg h1,if_pos h2,YCW,Int.neg_neg,YDU,YDE,and_self]
def isS(l:List (Int×Int))(s den k:Nat):Prop:=dnS loN l+loN k*den<=upS hiN l+hiN s*den
theorem YmJ{l:List (Int×Int)}{s den k:Nat}(hl:∀x,x∈l->okU x)(hs:1<=s/\s<=1000000000000)(hd:1<=den/\den<=1000000)(hk:1<=k/\k<=1000000000001):∀x,x∈atF (l++[((s:Int),(den:Int))]) den k->okU x:=by
 intro x hx
 simp only[atF,YDp,YDC]at hx
 rcases hx with(hx|rfl) |rfl
 . exact hl x hx
 . unfold okU;simp only;omega
 . unfold okU;simp only;omega
theorem isF_S{l:List (Int×Int)}{s den k:Nat}(hl:∀x,x∈l->okU x)(hn:l.length<=16)(hs:1<=s/\s<=1000000000000)(hd:1<=den/\den<=1000000)(hk:1<=k/\k<=1000000000001):isF (l++[((s:Int),(den:Int))]) den k=true↔isS l s den k:=by
 have h:=YlC (YmJ hl hs hd hk) (by simp [atF];omega)
 rw[(at_S hiN hd.1).1,(at_S loN hd.1).2]at h
 unfold isF isS
 rw[YDN,decide_eq_true_eq,decide_eq_true_eq,h]
 omega
def QJ:Nat:=2^100
theorem YhY:QJ=2^100:=rfl
theorem YuT{x:Int×Int}(h:okU x):x.1.toNat<2^41:=by
 have:=h.2.1
 omega
theorem Ytk{l:List (Int×Int)}{s den k:Nat}(hl:∀x,x∈l->okU x)(hn:l.length<=16)(hs:1<=s/\s<=1000000000000)(hd:1<=den/\den<=1000000)(hk:1<=k/\k<=1000000000001)(h:isS l s den k):
   (dnP l*k^den)^QJ<=(upP l*s^den)^QJ*2^(upS wP l+dnS wP l+(wP s+wP k)*den):=by
 have hl2:=YmJ hl hs hd hk
 by_cases c:dnP l*k^den<=upP l*s^den
 . exact YDb (YC9 c _) (Nat.le_mul_of_pos_right _ (Y3 _))
 . have hu:Und (atF (l++[((s:Int),(den:Int))]) den k) 2048:=by
     refine⟨Nat.le_of_not_lt fun hh=>?_,?_⟩
     . obtain⟨⟨a1,a2⟩,b1,b2⟩:=YaB (K:=KB) (g:=loN) (h:=hiN) (fun n k1 k2=>Yct k1 k2) _ hl2
       have:=Yad b2 a1 hh
       rw[(at_P hd.1).1,(at_P hd.1).2]at this
       omega
     . show dnS loN _<=upS hiN _
       rw[(at_S hiN hd.1).1,(at_S loN hd.1).2]
       exact h
   have:=YnW (J:=100) (w:=wP) (by decide) hl2 (fun x hx=>Yve (Ycw (hl2 x hx)).1 (YuT (hl2 x hx))) hu
   rw[(at_P hd.1).1,(at_P hd.1).2,(at_S wP hd.1).1,(at_S wP hd.1).2,<-YhY]at this
   rw[YDi,show upS wP l+dnS wP l+(wP s*den+wP k*den)=upS wP l+wP s*den+(dnS wP l+wP k*den)by omega]
   exact this
theorem YgA{X Y k den Q e t c:Nat}(hQ:1<=Q)(het:e*t<=Q)(ht:1<=t)(h:(Y*k^den)^Q<=X^Q*2^(den*(c*Q+e))):Y*(k*t)^den<=X*(2^c*(t+1))^den:=by
 have h1:2^e*t^Q<=(t+1)^Q:=by
   have a:=YC9 (Yu8 t ht) e
   rw[YDq,<-YDc,<-YDc,YC4 t e]at a
   obtain⟨d,hd⟩:∃d,Q=e*t+d:=⟨Q-e*t,by omega⟩
   rw[hd,YC6,YC6,<-YC3]
   exact YDg a (YC9 (Nat.le_succ t) d)
 have h2:=YC9 h1 den
 rw[YDq,<-YDc,<-YDc,<-YDc]at h2
 refine(Nat.pow_le_pow_iff_left (show Q≠0 by omega)).1 ?_
 have h3:=YC0 (t^(Q*den)) h
 have e1:(Y*(k*t)^den)^Q=(Y*k^den)^Q*t^(Q*den):=by
   rw[YDq k,<-YC3,YDq _ (t^den),<-YDc t,YC4 den Q]
 have e2:(X*(2^c*(t+1))^den)^Q=X^Q*(2^(den*(c*Q))*(t+1)^(Q*den)):=by
   rw[YDq X,<-YDc,YDq (2^c),<-YDc,YC4 den Q]
   congr 3
   rw[YC4 Q den,YDo]
 rw[e1,e2]
 refine YDb h3 ?_
 rw[YC3]
 refine YC1 _ ?_
 rw[YDT,YC6,YC3]
 refine YC1 _ ?_
 rw[YC4 den e]
 exact h2
theorem YAJ{k a b c:Nat}(hk:k<=2^a)(h:a+(b+1)<=c):k*(2^b+1)<=2^c:=by
 have e1:2^b+1<=2^(b+1):=by have:=Y3 b;rw[YDh];omega
 have e2:=YDg hk e1
 rw[<-YC6]at e2
 exact YDb e2 (YDm (by decide) h)
theorem YtC{k K m c lo hi:Nat}(h1:1<=k)(hmc:m=c+1)(hk:k*m<=K)(g1:2^lo<=k^K)(g2:(k+1)^K<=2^hi):lo+c<hi:=by
 have a:=YC9 (Yu8 k h1) m
 rw[YDq,<-YDc,<-YDc]at a
 obtain⟨d,hd⟩:∃d,K=k*m+d:=⟨K-k*m,by omega⟩
 have b:2^m*k^K<=(k+1)^K:=by
   rw[hd,YC6,YC6,<-YC3]
   exact YDg a (YC9 (Nat.le_succ k) d)
 have c1:2^(m+lo)<=2^hi:=by
   rw[YC6]
   exact YDb (YC1 _ g1) (YDb b g2)
 have:=LB.pow_of_le c1
 omega
theorem Yvh{k:Nat}(h:k<=2^29):k*(C48+1)<=KB:=by
 have h:=YAJ (b:=2048-48) (c:=2048) h (by decide)
 unfold C48 KB
 exact h
theorem Yog{k:Nat}(h1:1<=k)(h2:k+1<2^29):loN k+C48<hiN (k+1):=
 YtC h1 rfl (Yvh (by omega)) (Yct h1 (by omega)).1 (Yct (Nat.le_add_left 1 k) (by omega)).2
theorem Ytt{k:Nat}(h1:1<=k)(h2:k+1<2^29):loN k<=loN (k+1):=by
 have s:=Yog h1 h2
 have hn:=Yq8 (Yno (n:=k+1) (Nat.le_add_left 1 k) h2)
 omega
theorem YuM:∀{d k:Nat},1<=k->k+d<2^29->loN k<=loN (k+d)
 |0,_,_,_=>YC5 _
 |d+1,k,h1,h2=>YDb (YuM (d:=d) h1 (by omega)) (Ytt (k:=k+d) (by omega) (by omega))
theorem YuH{l:List (Int×Int)}{s den k m:Nat}(hk:1<=k)(hkm:k<=m)(hm:m<2^29)(h:isS l s den m):isS l s den k:=by
 obtain⟨d,rfl⟩:∃d,m=k+d:=⟨m-k,by omega⟩
 have:=YC0 den (YuM hk hm)
 unfold isS at*
 omega
def wide(l:List (Int×Int))(s den:Nat):Prop:=upS wP l+dnS wP l+wP s*den<=den*(2^54+2^20)
theorem Ykf{l:List (Int×Int)}{s den k B:Nat}(hl:∀x,x∈l->okU x)(hn:l.length<=16)(hs:1<=s/\s<=1000000000000)(hd:1<=den/\den<=1000000)(hk:1<=k/\k<=1000000000001)(hw:wide l s den)(hY:0<dnP l)
   (hB:upP l*s^den<dnP l*B^den)(hB2:B<=450000000)(h:isS l s den k):k<2^29/\(dnP l*k^den)^QJ<=(upP l*s^den)^QJ*2^(den*2^55):=by
 have h0:=Ytk hl hn hs hd hk h
 have wk:wP k<=2^98:=by
   unfold wP
   split
   . decide
   . split
     . decide
     . split
       . decide
       . decide
 have hk2:k<2^29:=by
   have e1:upS wP l+dnS wP l+(wP s+wP k)*den<=den*(2^98+2^55):=by
     have:=YC1 den wk
     unfold wide at hw
     rw[YDi,YDT,YC4 (wP k)]
     omega
   have h1:=YDb h0 (YC1 _ (YDm (show 1<=2 by decide) e1))
   obtain⟨q,hq⟩:∃q,q=2^98:=⟨_,rfl⟩
   have hQ4:QJ=4*q:=by rw[hq,YhY]
   have h1':(dnP l^4*(k^4)^den)^q<=(upP l^4*(s^4)^den)^q*2^(den*(1*q+2^55)):=by
     have e2:∀u v:Nat,(u^4*(v^4)^den)^q=(u*v^den)^QJ:=fun u v=>by
       rw[hQ4,YDc (u*v^den),YDq u,<-YDc v,<-YDc v,YC4 4 den]
     rw[e2,e2,YDE,hq]
     exact h1
   have h2:=YgA (t:=2^40) (by rw[hq];decide) (by rw[hq];decide) (by decide) h1'
   have h3:dnP l^4*(k^4*2^40)^den<dnP l^4*(B^4*(2^1*(2^40+1)))^den:=by
     refine YDH h2 ?_
     rw[YDq (B^4),<-YC3]
     refine Nat.mul_lt_mul_of_pos_right ?_ (YDs (by decide))
     have e3:∀u v:Nat,u^4*(v^4)^den=(u*v^den)^4:=fun u v=>by
       rw[YDq u,<-YDc v,<-YDc v,YC4 4 den]
     rw[e3,e3]
     exact Nat.pow_lt_pow_left hB (by decide)
   have h4:=Nat.lt_of_mul_lt_mul_left h3
   have h5:=(Nat.pow_lt_pow_iff_left (by omega)).1 h4
   have h6:=YC9 hB2 4
   have h7:k^4<(2^29)^4:=by
     have:(450000000:Nat)^4*(2^1*(2^40+1))<=(2^29)^4*2^40:=by decide
     have:=YC0 (2^1*(2^40+1)) h6
     omega
   exact(Nat.pow_lt_pow_iff_left (show 4≠0 by decide)).1 h7
 refine⟨hk2,?_⟩
 have wk2:wP k<=2^52:=by
   unfold wP
   split
   . decide
   . split
     . decide
     . rw[if_pos (Or.inl hk2)]
       exact YC5 _
 have e1:upS wP l+dnS wP l+(wP s+wP k)*den<=den*2^55:=by
   have:=YC1 den wk2
   unfold wide at hw
   rw[YDi,YC4 (wP k)]
   omega
 exact YDb h0 (YC1 _ (YDm (show 1<=2 by decide) e1))
structure PowR (l:List (Int×Int)) (s den B r:Nat) (ex:Bool):Prop where
 lt:r+1<2^29
 leB:r<=B
 seg:∀k,1<=k->k<2^29->(isS l s den k↔k<=r)
 up:upP l*s^den<dnP l*(r+1)^den
 tru:∀k,1<=k->k<2^29->dnP l*k^den<=upP l*s^den->k<=r
 near:1<=r->(dnP l*r^den)^QJ<=(upP l*s^den)^QJ*2^(den*2^55)
 ex_iff:ex=true↔1<=r/\upP l*s^den=dnP l*r^den
theorem YuG{l:List (Int×Int)}{s den k:Nat}(hl:∀x,x∈l->okU x)(hs:1<=s/\s<=1000000000000)(hd:1<=den/\den<=1000000)(hk:1<=k/\k<=1000000000001)(h:¬isS l s den k):upP l*s^den<dnP l*k^den:=by
 have hl2:=YmJ hl hs hd hk
 obtain⟨⟨a1,a2⟩,b1,b2⟩:=YaB (K:=KB) (g:=loN) (h:=hiN) (fun n k1 k2=>Yct k1 k2) _ hl2
 have hlt:upS hiN (atF (l++[((s:Int),(den:Int))]) den k)<dnS loN (atF (l++[((s:Int),(den:Int))]) den k):=by
   rw[(at_S hiN hd.1).1,(at_S loN hd.1).2]
   exact Nat.lt_of_not_le h
 have:=Yad a2 b1 hlt
 rwa [(at_P hd.1).1,(at_P hd.1).2]at this
theorem Yhm{t:Int->Bool}:∀(f:Nat)(a b:Int),a<b->b-a<=2^f->(bisL f t a b=a\/t (bisL f t a b)=true)/\(bisL f t a b+1=b\/t (bisL f t a b+1)=false):=by
 intro f
 induction f with
 |zero=>
   intro a b h1 h2
   rw[Int.pow_zero]at h2
   rw[bisL]
   exact⟨Or.inl rfl,Or.inl (by omega)⟩
 |succ f ih=>
   intro a b h1 h2
   rw[bisL]
   by_cases c:1<b-a
   . rw[if_pos c]
     have e:(2:Int)^(f+1)=2*2^f:=by rw[Int.pow_succ];omega
     rw[e]at h2
     by_cases d:t (a+(b-a)/2)=true
     . rw[if_pos d]
       obtain⟨i1,i2⟩:=ih (a+(b-a)/2) b (by omega) (by omega)
       refine⟨?_,i2⟩
       rcases i1 with i1|i1
       . exact Or.inr (by rw[i1];exact d)
       . exact Or.inr i1
     . rw[if_neg d]
       obtain⟨i1,i2⟩:=ih a (a+(b-a)/2) (by omega) (by omega)
       refine⟨i1,?_⟩
       rcases i2 with i2|i2
       . exact Or.inr (by rw[i2];simpa using d)
       . exact Or.inr i2
   . rw[if_neg c]
     exact⟨Or.inl rfl,Or.inl (by omega)⟩
theorem YjG{t:Int->Bool}:∀(f:Nat)(a b:Int),a<b->a<=bisL f t a b/\bisL f t a b<b:=by
 intro f
 induction f with
 |zero=>intro a b h;rw[bisL];omega
 |succ f ih=>
   intro a b h
   rw[bisL]
   by_cases c:1<b-a
   . rw[if_pos c]
     by_cases d:t (a+(b-a)/2)=true
     . rw[if_pos d]
       have:=ih (a+(b-a)/2) b (by omega)
       omega
     . rw[if_neg d]
       have:=ih a (a+(b-a)/2) (by omega)
       omega
   . rw[if_neg c];omega
theorem Yrq{l:List (Int×Int)}{s den B:Nat}(hc:Yep l=0)(hl:∀x,x∈l->okU x)(hs:1<=s/\s<=1000000000000)(hd:1<=den/\den<=1000000)(hw:wide l s den)(hY:0<dnP l)
   (hB:upP l*s^den<dnP l*B^den)(hB2:B<=450000000):∃r:Nat,(YdR s l den).1=(r:Int)/\PowR l s den B r (YdR s l den).2.1:=by
 have hn:=(Ylf hc).2
 obtain⟨f,hf⟩:∃f,f=isF (l++[((s:Int),(den:Int))]) (den:Int):=⟨_,rfl⟩
 have hfk:∀k:Nat,1<=k->k<=1000000000001->(f (k:Int)=true↔isS l s den k):=fun k h1 h2=>by
   rw[hf];exact isF_S hl hn hs hd ⟨h1,h2⟩
 have htop:f 1000000000001=false:=by
   cases hh:f 1000000000001 with
   |false=>rfl
   |true=>
     have:=Ykf hl hn hs hd (k:=1000000000001) (by decide) hw hY hB hB2 ((hfk 1000000000001 (by decide) (by decide)).1 hh)
     exact absurd this.1 (by decide)
 have hbad:Yic (s:Int) (den:Int)=false:=by
   simp only[Yic,YDt,decide_eq_false_iff_not];omega
 have e1:YdR (s:Int) l (den:Int)=(bisL 64 f 0 1000000000001,decide (0<bisL 64 f 0 1000000000001)&&oneF (atF (l++[((s:Int),(den:Int))]) den (bisL 64 f 0 1000000000001)),0):=by
   unfold YdR
   rw[if_neg (by rw[hc];decide),if_neg (by rw[hbad];decide)]
   unfold YtM
   rw[<-hf,if_neg (by rw[htop];decide)]
 obtain⟨s1,s2⟩:=Yhm (t:=f) 64 0 1000000000001 (by decide) (by decide)
 have hr:=YjG (t:=f) 64 0 1000000000001 (by decide)
 rw[e1]
 generalize bisL 64 f 0 1000000000001=b at*
 obtain⟨r,rfl⟩:∃r:Nat,b=(r:Int):=⟨b.toNat,by omega⟩
 have hr1:1<=r->isS l s den r:=fun h=>by
   rcases s1 with c|c
   . omega
   . exact(hfk r h (by omega)).1 c
 have hlt:r<2^29/\(1<=r->(dnP l*r^den)^QJ<=(upP l*s^den)^QJ*2^(den*2^55)):=by
   rcases YDD r with h0|h0
   . exact⟨by omega,fun h=>by omega⟩
   . have:=Ykf hl hn hs hd ⟨h0,by omega⟩ hw hY hB hB2 (hr1 h0)
     exact⟨this.1,fun _=>this.2⟩
 have hr2:¬isS l s den (r+1):=fun hh=>by
   have:=(hfk (r+1) (by omega) (by omega)).2 hh
   rcases s2 with c|c
   . omega
   . rw[Int.natCast_add,show((1:Nat):Int)=1 from rfl,c]at this
     cases this
 have hup:=YuG hl hs hd (k:=r+1) (by omega) hr2
 have hleB:r<=B:=by
   rcases YDD r with h0|h0
   . omega
   . have h1:=hlt.2 h0
     have h1':(dnP l*r^den)^QJ<=(upP l*s^den)^QJ*2^(den*(0*QJ+2^55)):=by rw[Nat.zero_mul,YDO];exact h1
     have h2:=YgA (t:=2^40) (show 1<=QJ by rw[YhY];decide) (by rw[YhY];decide) (by decide) h1'
     have h3:dnP l*(r*2^40)^den<dnP l*(B*(2^0*(2^40+1)))^den:=by
       refine YDH h2 ?_
       rw[YDq B,<-YC3]
       exact Nat.mul_lt_mul_of_pos_right hB (YDs (by decide))
     have h5:=(Nat.pow_lt_pow_iff_left (by omega)).1 (Nat.lt_of_mul_lt_mul_left h3)
     omega
 have hlt2:r+1<2^29:=by omega
 have hseg:∀k,1<=k->k<2^29->isS l s den k->k<=r:=fun k k1 k2 hk=>by
   refine Nat.le_of_not_lt fun hh=>hr2 ?_
   exact YuH (by omega) (show r+1<=k from hh) k2 hk
 refine⟨r,rfl,⟨hlt2,hleB,fun k k1 k2=>⟨hseg k k1 k2,fun hk=>?_⟩,hup,fun k k1 k2 hk=>?_,hlt.2,?_⟩⟩
 . exact YuH k1 hk hlt.1 (hr1 (by omega))
 . refine Classical.byContradiction fun hh=>?_
   have:¬isS l s den k:=fun h=>hh (hseg k k1 k2 h)
   have:=YuG hl hs hd (k:=k) (by omega) this
   omega
 . rw[YC2,decide_eq_true_eq]
   by_cases h0:1<=r
   . rw[YwS (YmJ hl hs hd ⟨h0,by omega⟩) (by simp [atF];omega),(at_P hd.1).1,(at_P hd.1).2]
     omega
   . omega
def UP(a b c:Int):Nat:=2^a.toNat*3^b.toNat*5^c.toNat
theorem Yas(a b c:Int):0<UP a b c:=YDv (YDv (YDs (by decide)) (YDs (by decide))) (YDs (by decide))
def Le0(a b c:Int):Prop:=UP a b c<=UP (-a) (-b) (-c)
theorem YmB(a b c x y z:Int):UP (a+x) (b+y) (c+z)*(UP (-a) (-b) (-c)*UP (-x) (-y) (-z))=UP (-(a+x)) (-(b+y)) (-(c+z))*(UP a b c*UP x y z):=by
 have key:∀(p:Nat)(u v:Int),p^(u+v).toNat*(p^(-u).toNat*p^(-v).toNat)=p^(-(u+v)).toNat*(p^u.toNat*p^v.toNat):=fun p u v=>by
   rw[<-YC6,<-YC6,<-YC6,<-YC6];congr 1;omega
 have k2:=key 2 a x
 have k3:=key 3 b y
 have k5:=key 5 c z
 unfold UP
 generalize 2^(a+x).toNat=a1 at*
 generalize 2^(-(a+x)).toNat=a2 at*
 generalize 2^(-a).toNat=a3 at*
 generalize 2^(-x).toNat=a4 at*
 generalize 2^a.toNat=a5 at*
 generalize 2^x.toNat=a6 at*
 generalize 3^(b+y).toNat=b1 at*
 generalize 3^(-(b+y)).toNat=b2 at*
 generalize 3^(-b).toNat=b3 at*
 generalize 3^(-y).toNat=b4 at*
 generalize 3^b.toNat=b5 at*
 generalize 3^y.toNat=b6 at*
 generalize 5^(c+z).toNat=c1 at*
 generalize 5^(-(c+z)).toNat=c2 at*
 generalize 5^(-c).toNat=c3 at*
 generalize 5^(-z).toNat=c4 at*
 generalize 5^c.toNat=c5 at*
 generalize 5^z.toNat=c6 at*
 have e1:a1*b1*c1*(a3*b3*c3*(a4*b4*c4))=(a1*(a3*a4))*(b1*(b3*b4))*(c1*(c3*c4)):=by grind
 rw[e1,k2,k3,k5];grind
theorem YqA{a b c x y z:Int}(h1:Le0 a b c)(h2:Le0 x y z):Le0 (a+x) (b+y) (c+z):=by
 unfold Le0 at*
 have e:=YmB a b c x y z
 have p1:=Yas (-a) (-b) (-c)
 have p2:=Yas (-x) (-y) (-z)
 refine YDj (c:=UP (-a) (-b) (-c)*UP (-x) (-y) (-z)) ?_ (YDv p1 p2)
 rw[e]
 exact YC1 _ (YDg h1 h2)
theorem YmC(m:Nat)(a b c:Int):UP (m*a) (m*b) (m*c)=UP a b c^m:=by
 have key:∀(p:Nat)(u:Int),p^((m:Int)*u).toNat=(p^u.toNat)^m:=fun p u=>by
   rw[<-YDc]
   congr 1
   rcases Int.le_total 0 u with h|h
   . obtain⟨v,rfl⟩:∃v:Nat,u=v:=⟨u.toNat,by omega⟩
     rw[<-Int.natCast_mul,YCW,YCW,YC4]
   . have h1:(m:Int)*u<=0:=Int.mul_nonpos_of_nonneg_of_nonpos (by omega) h
     rw[show u.toNat=0 by omega,show((m:Int)*u).toNat=0 by omega,Nat.zero_mul]
 unfold UP
 rw[key,key,key,YDq,YDq]
theorem Yc0{m:Nat}(hm:1<=m){a b c:Int}:Le0 (m*a) (m*b) (m*c)↔Le0 a b c:=by
 unfold Le0
 rw[<-Int.mul_neg,<-Int.mul_neg,<-Int.mul_neg,YmC,YmC]
 exact Nat.pow_le_pow_iff_left (by omega)
theorem YeB{a b c:Int}(h:Le0 a b c):15*a<=24*(b.natAbs:Int)+35*(c.natAbs:Int):=by
 rcases Int.le_total a 0 with h0|h0
 . omega
 . unfold Le0 UP at h
   rw[show(-a).toNat=0 by omega,Nat.pow_zero,YDE]at h
   have h1:2^a.toNat<=3^(-b).toNat*5^(-c).toNat:=by
     refine YDb ?_ h
     rw[YC3]
     exact Nat.le_mul_of_pos_right _ (YDv (YDs (by decide)) (YDs (by decide)))
   have h2:=YC9 h1 15
   rw[YDq,<-YDc,<-YDc,<-YDc,YC4 _ 15,YC4 _ 15,YC4 _ 15,YDc 3,YDc 5]at h2
   have h3:(3^15)^(-b).toNat<=(2^24)^(-b).toNat:=YC9 (by decide) _
   have h5:(5^15)^(-c).toNat<=(2^35)^(-c).toNat:=YC9 (by decide) _
   have h6:=YDb h2 (YDg h3 h5)
   rw[<-YDc,<-YDc,<-YC6]at h6
   have:=LB.pow_of_le h6
   omega
theorem Yr7(p:Nat)(n:Int):upP (tm1 (p:Int) n)=p^n.toNat/\dnP (tm1 (p:Int) n)=p^(-n).toNat:=by
 unfold tm1
 split
 . rename_i h
   rw[h]
   simp [upP,dnP]
 . by_cases c:n<0
   . simp only[upP,dnP,if_pos c,YCW,YDU]
     exact⟨by rw[show n.toNat=0 by omega,Nat.pow_zero],trivial⟩
   . simp only[upP,dnP,if_neg c,YCW,YDU]
     exact⟨trivial,by rw[show(-n).toNat=0 by omega,Nat.pow_zero]⟩
theorem YkW{L:Int}{r:Rt}{a b c:Int}(h:Rep L r a b c):upP (Yf r)=UP r.a r.b r.c/\dnP (Yf r)=UP (-r.a) (-r.b) (-r.c):=by
 have z:∀p:Int,tm1 p 0=[]:=fun p=>rfl
 unfold Yf
 rw[h.hd,h.he,h.hf,z,z,z]
 simp only[List.append_nil]
 rw[(Yao _ _).1,(Yao _ _).1,(Yao _ _).2,(Yao _ _).2]
 have t2:=Yr7 2 r.a
 have t3:=Yr7 3 r.b
 have t5:=Yr7 5 r.c
 unfold UP
 rw[<-t2.1,<-t2.2,<-t3.1,<-t3.2,<-t5.1,<-t5.2]
 exact⟨(YC3 ..).symm,(YC3 ..).symm⟩
theorem Yr8(w:Nat->Nat)(p:Nat)(n:Int):upS w (tm1 (p:Int) n)+dnS w (tm1 (p:Int) n)=w p*n.natAbs:=by
 unfold tm1
 split
 . rename_i h
   rw[h]
   simp [upS,dnS]
 . by_cases c:n<0
   . simp only[upS,dnS,if_pos c,YCW]
     rw[show(-n).toNat=n.natAbs by omega];omega
   . simp only[upS,dnS,if_neg c,YCW]
     rw[show n.toNat=n.natAbs by omega];omega
theorem wP_2:wP 2=0:=rfl
theorem wP_3:wP 3=1:=rfl
theorem wP_5:wP 5=1:=rfl
theorem YhW{L:Int}{r:Rt}{a b c:Int}(h:Rep L r a b c):upS wP (Yf r)+dnS wP (Yf r)<=200000:=by
 have z:∀p:Int,tm1 p 0=[]:=fun p=>rfl
 unfold Yf
 rw[h.hd,h.he,h.hf,z,z,z]
 simp only[List.append_nil]
 rw[(Yab wP _ _).1,(Yab wP _ _).1,(Yab wP _ _).2,(Yab wP _ _).2]
 have t2:=Yr8 wP 2 r.a
 have t3:=Yr8 wP 3 r.b
 have t5:=Yr8 wP 5 r.c
 rw[wP_2]at t2
 rw[wP_3]at t3
 rw[wP_5]at t5
 obtain⟨_,b1,b2,b3,_⟩:=Ygf h.ok
 have b2:=YcN b2
 have b3:=YcN b3
 have e2:((2:Nat):Int)=2:=rfl
 have e3:((3:Nat):Int)=3:=rfl
 have e5:((5:Nat):Int)=5:=rfl
 rw[e2]at t2
 rw[e3]at t3
 rw[e5]at t5
 omega
theorem Yxy{l:List (Int×Int)}(hl:∀x,x∈l->okU x)(hn:l.length<=20)(h:0<=YcJ l):dnP l^QJ<=upP l^QJ*2^(upS wP l+dnS wP l):=by
 have h2:=(YlC hl hn).1 h
 by_cases c:dnP l<=upP l
 . exact YDb (YC9 c _) (Nat.le_mul_of_pos_right _ (Y3 _))
 . have hu:Und l 2048:=by
     refine⟨Nat.le_of_not_lt fun hh=>?_,h2⟩
     obtain⟨⟨a1,a2⟩,b1,b2⟩:=YaB (K:=KB) (g:=loN) (h:=hiN) (fun n k1 k2=>Yct k1 k2) _ hl
     have:=Yad b2 a1 hh
     omega
   have:=YnW (J:=100) (w:=wP) (by decide) hl (fun x hx=>Yve (Ycw (hl x hx)).1 (YuT (hl x hx))) hu
   rw[<-YhY]at this
   exact this
theorem YBW{l:List (Int×Int)}(hl:∀x,x∈l->okU x)(hn:l.length<=20)(h:¬0<=YcJ l):upP l<dnP l:=by
 obtain⟨⟨a1,a2⟩,b1,b2⟩:=YaB (K:=KB) (g:=loN) (h:=hiN) (fun n k1 k2=>Yct k1 k2) _ hl
 exact Yad a2 b1 (Nat.lt_of_not_le fun hh=>h ((YlC hl hn).2 hh))
theorem Rep.cast{L:Int}{r:Rt}{a b c a' b' c':Int}(h:Rep L r a b c)(ea:a=a')(eb:b=b')(ec:c=c'):Rep L r a' b' c':=by
 subst ea eb ec;exact h
theorem YeC{a b c a' b' c':Int}(h:Le0 a b c)(ea:a=a')(eb:b=b')(ec:c=c'):Le0 a' b' c':=by
 subst ea eb ec;exact h
theorem UP_2(n:Nat):UP n 0 0=2^n/\UP (-(n:Int)) 0 0=1:=by
 unfold UP
 rw[show(-(n:Int)).toNat=0 by omega]
 simp
theorem YqB{x y z:Int}{n:Nat}(h:UP (-x) (-y) (-z)<=UP x y z*2^n):Le0 (-x+ -(n:Int)) (-y) (-z):=by
 have e:=YmB (-x) (-y) (-z) (-(n:Int)) 0 0
 rw[Int.neg_neg,Int.neg_neg,Int.neg_neg,Int.neg_neg,Int.neg_zero,Int.add_zero,Int.add_zero,(UP_2 n).1,(UP_2 n).2,YDU]at e
 unfold Le0
 refine YDj (c:=UP x y z*2^n) ?_ (YDv (Yas _ _ _) (Y3 n))
 rw[e]
 exact YC1 _ h
theorem YkU(l:List (Int×Int))(e:Int):upP (l++[(2,e)])=upP l*UP e 0 0/\dnP (l++[(2,e)])=dnP l*UP (-e) 0 0:=by
 rw[(Yao _ _).1,(Yao _ _).2]
 have h:upP [(2,e)]=UP e 0 0/\dnP [(2,e)]=UP (-e) 0 0:=by
   unfold UP
   by_cases c:e<0
   . simp only[upP,dnP,if_pos c]
     rw[show e.toNat=0 by omega]
     simp
   . simp only[upP,dnP,if_neg c]
     rw[show(-e).toNat=0 by omega]
     simp
 rw[h.1,h.2]
 exact⟨rfl,rfl⟩
theorem Yjh{r:Rt}(h:chkR r=0):∀x,x∈Yf r->2<=x.1/\x.1<=13/\ -100000<=x.2/\x.2<=100000:=by
 intro x hx
 have h2:=YhT h x hx
 have key:∀(p n:Int),x∈tm1 p n->x.1=p:=fun p n hx=>by
   unfold tm1 at hx
   split at hx
   . cases hx
   . rw[YDC]at hx;rw[hx]
 simp only[Yf,YDp]at hx
 rcases hx with hx|hx|hx|hx|hx|hx
 all_goals (have:=key _ _ hx;omega)
theorem Yr1{r:Rt}(h:chkR r=0):Yep (Yf r)=0:=by
 unfold Yep
 have:=Ybp r
 rw[if_neg (by omega),if_neg]
 rw[List.any_eq_true]
 rintro⟨x,hx,ho⟩
 have:=Yjh h x hx
 simp only[okT0,YDN,decide_eq_true_eq]at ho
 omega
theorem scl_1(l:List (Int×Int)):l.map (sclT 1)=l:=by
 have:sclT 1=id:=by funext x;unfold sclT;simp
 rw[this,List.map_id]
theorem Ytc{L:Int}{r:Rt}{a b c:Int}(hL:1<=L/\L<=1000)(h:Rep L r a b c)(sa:sm a)(sb:sm b)(sc:sm c)(hz:24*(b.natAbs:Int)+35*(c.natAbs:Int)<=15*(100000-L)):
   ∃k:Int,(YcT r).2.2=0/\Rep L (YcT r).1 (a-k*L) b c/\Le0 (a-k*L-L) b c/\Le0 (8* -(a-k*L)-L) (8* -b) (8* -c):=by
 have hn:=h.n_rng
 obtain⟨tu,td⟩:=YkW h
 have tw:=YhW h
 have hlen:=Ybp r
 obtain⟨n,hnn⟩:∃n:Nat,r.n=n:=⟨r.n.toNat,by omega⟩
 obtain⟨M,hM⟩:∃M:Nat,L=M:=⟨L.toNat,by omega⟩
 --what the sign says
 have okl:∀m:Int, -1000000000000<=m->m<=1000000000001->∀x,x∈atG (Yf r) r.n m->okU x:=fun m m1 m2 x hx=>by
   rw[atG,YDp,YDC]at hx
   rcases hx with hx|rfl
   . have:=Yjh h.ok x hx
     unfold okU;omega
   . have:=YaE (x:= -m) (y:=r.n) (X:=1000000000001) (Y:=1000) (by omega) (by omega)
     unfold okU;simp only;omega
 have lenl:∀m:Int,(atG (Yf r) r.n m).length<=20:=fun m=>by rw[atG,YDF];simp;omega
 have idn:∀e:Int,UP (r.a+e) r.b r.c*(dnP (Yf r++[(2,e)]))=UP (-(r.a+e)) (-r.b) (-r.c)*upP (Yf r++[(2,e)]):=fun e=>by
   have:=YmB r.a r.b r.c e 0 0
   rw[Int.add_zero,Int.add_zero,Int.neg_zero]at this
   rw[(YkU _ _).1,(YkU _ _).2,tu,td]
   exact this
 have pos:∀e:Int,0<upP (Yf r++[(2,e)])/\0<dnP (Yf r++[(2,e)]):=fun e=>by
   rw[(YkU _ _).1,(YkU _ _).2,tu,td]
   exact⟨YDv (Yas _ _ _) (Yas _ _ _),YDv (Yas _ _ _) (Yas _ _ _)⟩
 have scale:∀m x:Int,x*L=(a-m*L)*r.n->∀{y z:Int},y*L=b*r.n->z*L=c*r.n->(Le0 x y z->Le0 (a-m*L) b c):=fun m x hx y z hy hz h0=>by
   have h1:=(Yc0 (m:=M) (by omega)).2 h0
   rw[<-hM,Int.mul_comm L x,Int.mul_comm L y,Int.mul_comm L z,hx,hy,hz,Int.mul_comm _ r.n,Int.mul_comm _ r.n,Int.mul_comm _ r.n,hnn]at h1
   exact(Yc0 (m:=n) (by omega)).1 h1
 have neg:∀m:Int, -1000000000000<=m->m<=1000000000001->isG (Yf r) r.n m=false->Le0 (a-m*L) b c:=fun m m1 m2 hm=>by
   rw[isG,decide_eq_false_iff_not]at hm
   have h1:=YBW (okl m m1 m2) (lenl m) hm
   refine scale m (r.a+ -m*r.n) ?_ h.hb h.hc ?_
   . have:=h.ha;grind
   . unfold Le0
     have e:=idn (-m*r.n)
     have p:=pos (-m*r.n)
     refine YDj (c:=upP (Yf r++[(2, -m*r.n)])) ?_ p.1
     rw[<-e]
     exact YC1 _ (Nat.le_of_lt h1)
 have posi:∀m:Int, -1000000000000<=m->m<=1000000000001->isG (Yf r) r.n m=true->Le0 (8* -(a-m*L)-L) (8* -b) (8* -c):=fun m m1 m2 hm=>by
   rw[isG,decide_eq_true_eq]at hm
   have h1:=Yxy (okl m m1 m2) (lenl m) hm
   have hE:upS wP (atG (Yf r) r.n m)+dnS wP (atG (Yf r) r.n m)<=200000:=by
     rw[atG,(Yab wP _ _).1,(Yab wP _ _).2]
     have:upS wP [(2, -m*r.n)]+dnS wP [(2, -m*r.n)]=0:=by
       unfold upS dnS upS dnS
       have:wP (2:Int).toNat=0:=rfl
       simp only[this,Nat.zero_mul,ite_self]
     omega
   have e:=idn (-m*r.n)
   have p:=pos (-m*r.n)
   have hu:upP (atG (Yf r) r.n m)=upP (Yf r++[(2, -m*r.n)]):=rfl
   have hd:dnP (atG (Yf r) r.n m)=dnP (Yf r++[(2, -m*r.n)]):=rfl
   rw[hu,hd]at h1
   have h2:UP (-(8*(r.a+ -m*r.n))) (-(8*r.b)) (-(8*r.c))<=UP (8*(r.a+ -m*r.n)) (8*r.b) (8*r.c)*2^n:=by
     have e8:∀x y z:Int,UP (8*x) (8*y) (8*z)=UP x y z^8:=fun x y z=>YmC 8 x y z
     rw[<-Int.mul_neg,<-Int.mul_neg,<-Int.mul_neg,e8,e8]
     have hQ0:QJ≠0:=by rw[YhY];have:=Y3 100;omega
     rw[<-Nat.pow_le_pow_iff_left hQ0]
     refine YDj (c:=(upP (Yf r++[(2, -m*r.n)])^QJ)^8) ?_ (YDs (YDs p.1))
     have h3:(2^(upS wP (atG (Yf r) r.n m)+dnS wP (atG (Yf r) r.n m)))^8<=(2^n)^QJ:=by
       rw[<-YDc,<-YDc]
       refine YDm (by decide) (YDb (YC0 8 hE) ?_)
       have:1*QJ<=n*QJ:=YC0 QJ (by omega)
       have:1600000<=QJ:=by rw[YhY];decide
       omega
     have h4:=YC9 h1 8
     rw[YDq]at h4
     have e2:=congrArg (fun z=>(z^QJ)^8) e
     simp only[YDq]at e2
     have c1:∀x:Nat,(x^8)^QJ=(x^QJ)^8:=fun x=>by rw[<-YDc,<-YDc,YC4]
     rw[c1,YDq,c1]
     have e3:=YC1 ((UP (r.a+ -m*r.n) r.b r.c^QJ)^8) (YDb h4 (YC1 _ h3))
     rw[e2]at e3
     refine YDb e3 (YDV ?_)
     rw[<-YC3,Nat.mul_right_comm]
   have h5:=YqB h2
   have h6:=(Yc0 (m:=M) (by omega)).2 h5
   refine(Yc0 (m:=n) (by omega)).1 (YeC h6 ?_ ?_ ?_)
   . rw[<-hM,<-hnn];have:=h.ha;grind
   . rw[<-hM,<-hnn];have:=h.hb;grind
   . rw[<-hM,<-hnn];have:=h.hc;grind
 have bd:=fun m hm1 hm2 hx=>YeB (neg m hm1 hm2 hx)
 have bp:=fun m hm1 hm2 hx=>YeB (posi m hm1 hm2 hx)
 unfold sm at*
 have htop:isG (Yf r) r.n 1000000000001=false:=by
   cases hh:isG (Yf r) r.n 1000000000001 with
   |false=>rfl
   |true=>
     have:=bp 1000000000001 (by decide) (by decide) hh
     omega
 have hbot:isG (Yf r) r.n (-1000000000000)=true:=by
   cases hh:isG (Yf r) r.n (-1000000000000)with
   |true=>rfl
   |false=>
     have:=bd (-1000000000000) (by decide) (by decide) hh
     omega
 have hfl:flrF (Yf r) r.n 1=(bisL 64 (isG (Yf r) r.n) (-1000000000000) 1000000000001,oneF (atG (Yf r) r.n (bisL 64 (isG (Yf r) r.n) (-1000000000000) 1000000000001)),0):=by
   unfold flrF
   rw[if_neg (by rw[Yr1 h.ok];decide),if_neg,scl_1]
   . unfold flrG
     rw[if_neg (by rw[htop,hbot];decide)]
   . simp only[YpD,YDN,decide_eq_true_eq];omega
 obtain⟨s1,s2⟩:=Yhm (t:=isG (Yf r) r.n) 64 (-1000000000000) 1000000000001 (by decide) (by decide)
 have hr:=YjG (t:=isG (Yf r) r.n) 64 (-1000000000000) 1000000000001 (by decide)
 generalize bisL 64 (isG (Yf r) r.n) (-1000000000000) 1000000000001=k at*
 have hk:isG (Yf r) r.n k=true:=by
   rcases s1 with e|e
   . rw[e];exact hbot
   . exact e
 have hk1:isG (Yf r) r.n (k+1)=false:=by
   rcases s2 with e|e
   . rw[e];exact htop
   . exact e
 have l1:=neg (k+1) (by omega) (by omega) hk1
 have l2:=posi k (by omega) (by omega) hk
 have b1:=bd (k+1) (by omega) (by omega) hk1
 have b2:=bp k (by omega) (by omega) hk
 rw[Int.add_mul,Int.one_mul]at b1 l1
 have hm:=YiQ (x:=offR r k) (a:=a-k*L) hL hn.1 (by show(r.a-k*r.n)*L=(a-k*L)*r.n;have:=h.ha;grind) h.hb h.hc h.hd h.he h.hf (by unfold sm;omega) sb sc
 refine⟨k,?_⟩
 unfold YcT
 rw[if_neg (by rw[h.ok];decide),hfl]
 simp only
 rw[if_neg (by rw[hm.1];decide)]
 exact⟨rfl,hm.2,YeC l1 (by omega) rfl rfl,l2⟩
theorem YmE{T:Tm}:∀{k i:Nat},i<k->allT T k<=120->(T.p i).2.toNat∣allT T k
 |k+1,i,hi,h=>by
   rw[allT]at h⊢
   by_cases c:allT T k<=120
   . rw[if_pos c]at h⊢
     by_cases e:i=k
     . rw[e];exact Nat.dvd_mul_left ..
     . have ih:=YmE (T:=T) (show i<k by omega) c
       refine Nat.dvd_trans ih ?_
       obtain⟨x,hx⟩:=Nat.gcd_dvd_left (allT T k) (T.p k).2.toNat
       obtain⟨y,hy⟩:=Nat.gcd_dvd_right (allT T k) (T.p k).2.toNat
       generalize YDJ (allT T k) (T.p k).2.toNat=g at*
       refine⟨y,?_⟩
       rcases YDD g with h0|h0
       . rw[h0,Nat.zero_mul]at hx hy
         rw[hx,hy,h0]
         simp
       . rw[hx,hy,Nat.mul_div_cancel_left _ h0]
         simp only[YC3,YDo]
   . rw[if_neg c]at h
     exact absurd h c
def Lm(T:Tm):Int:=allT T 12
def tI(T:Tm)(i:Nat):Int:=(T.p i).1*(Lm T/(T.p i).2)
def cA(T:Tm):Int:=if T.syn=true then -4 else -19
def cB(T:Tm):Int:=if T.syn=true then 4 else 12
def cC(T:Tm):Int:=if T.syn=true then -1 else 0
def bB(T:Tm):Int:=if T.syn=true then 9 else 25
def bC(T:Tm):Int:=if T.syn=true then 2 else 0
theorem YmS(T:Tm):Yer T=⟨cA T,cB T,cC T,0,0,0,1⟩:=by
 unfold Yer cA cB cC
 split
 . decide+kernel
 . decide+kernel
theorem of_32:(ofRF 3 2).1=⟨-1,1,0,0,0,0,1⟩:=by decide+kernel
theorem YAS:(ofRF 128 1).1=⟨7,0,0,0,0,0,1⟩:=by decide+kernel
theorem of_11:(ofRF 1 1).1=⟨0,0,0,0,0,0,1⟩:=by decide+kernel
theorem YbS{T:Tm}(h:YY T=0):1<=Lm T/\Lm T<=120:=by
 obtain⟨_,h1,_,_,_,h2⟩:=YdZ h
 have:=(Ydq (T:=T) (i:=12) h1).1
 unfold Lm;omega
theorem Yu6{T:Tm}(h:YY T=0){i:Nat}(hi:i<12): -2*Lm T<=tI T i/\tI T i<=2*Lm T/\(Lm T/(T.p i).2)*(T.p i).2=Lm T:=by
 obtain⟨_,h1,_,_,_,h2⟩:=YdZ h
 obtain⟨b1,b2,b3⟩:=Yhk (h1 i hi)
 have hL:=YbS h
 have hd:(T.p i).2∣Lm T:=by
   have:=Int.natCast_dvd_natCast.2 (YmE hi h2)
   rwa [YDr (by omega)]at this
 have he:=Int.ediv_mul_cancel hd
 have hm:0<=Lm T/(T.p i).2:=Int.ediv_nonneg (by omega) (by omega)
 unfold tI
 generalize Lm T/(T.p i).2=m at*
 have k1:=Int.mul_le_mul_of_nonneg_right b2 hm
 have k2:=Int.mul_le_mul_of_nonneg_right b3 hm
 have e1: -2*(T.p i).2*m= -2*Lm T:=by rw[<-he];grind
 have e2:2*(T.p i).2*m=2*Lm T:=by rw[<-he];grind
 exact⟨by omega,by omega,he⟩
theorem YwY{T:Tm}(h:YY T=0){i:Nat}(hi:i<12):Rep (Lm T) (pwrF (Yer T) (T.p i).1 (T.p i).2).1 (cA T*tI T i) (cB T*tI T i) (cC T*tI T i):=by
 have hL:=YbS h
 obtain⟨t1,t2,t3⟩:=Yu6 h hi
 obtain⟨_,h1,_,_,_,h2⟩:=YdZ h
 obtain⟨b1,b2,b3⟩:=Yhk (h1 i hi)
 have hk:chkR (Yer T)=0:=by
   rw[YmS];unfold cA cB cC;cases T.syn <;> decide+kernel
 have hbad:Yla (T.p i).1 (T.p i).2=false:=by
   simp only[Yla,YDt,decide_eq_false_iff_not];omega
 have e:pwrF (Yer T) (T.p i).1 (T.p i).2=powN (Yer T) (T.p i).1 (T.p i).2:=by
   unfold pwrF
   rw[if_neg (by rw[hk];decide),if_neg (by rw[hbad];decide),if_neg (by omega)]
 rw[e,powN,YmS]
 have key:∀v:Int,v*(T.p i).1*Lm T=v*tI T i*(1*(T.p i).2):=fun v=>by
   unfold tI
   have e1:v*(T.p i).1*Lm T=v*(T.p i).1*(Lm T/(T.p i).2*(T.p i).2):=by rw[t3]
   rw[e1];grind
 have smv:∀v:Int, -19<=v->v<=19->sm (v*tI T i):=fun v v1 v2=>by
   have:=YaE (x:=v) (y:=tI T i) (X:=19) (Y:=240) ⟨v1,v2⟩ (by omega)
   unfold sm;omega
 have rA: -19<=cA T/\cA T<=19:=by unfold cA;split <;> omega
 have rB: -19<=cB T/\cB T<=19:=by unfold cB;split <;> omega
 have rC: -19<=cC T/\cC T<=19:=by unfold cC;split <;> omega
 exact(YiQ (L:=Lm T) (by omega) (by simp only;omega) (key _) (key _) (key _) (by simp) (by simp) (by simp) (smv _ rA.1 rA.2) (smv _ rB.1 rB.2) (smv _ rC.1 rC.2)).2
def fA(T:Tm)(i:Nat):Int:= -Lm T-cA T*tI T i
def fB(T:Tm)(i:Nat):Int:=Lm T-cB T*tI T i
def fC(T:Tm)(i:Nat):Int:= -(cC T*tI T i)
theorem Ys7{T:Tm}(h:YY T=0){i:Nat}(hi:i<12):(-(39*Lm T)<=fA T i/\fA T i<=39*Lm T)/\(-(bB T*Lm T)<=fB T i/\fB T i<=bB T*Lm T)/\ -(bC T*Lm T)<=fC T i/\fC T i<=bC T*Lm T:=by
 have hL:=YbS h
 obtain⟨t1,t2,_⟩:=Yu6 h hi
 unfold fA fB fC cA cB cC bB bC
 split <;> omega
theorem Yqc{T:Tm}(h:YY T=0){i:Nat}(hi:i<12):Rep (Lm T) (fifR T i) (fA T i) (fB T i) (fC T i):=by
 have hL:=YbS h
 have r32:Rep (Lm T) (ofRF 3 2).1 (-Lm T) (Lm T) 0:=by
   rw[of_32]
   exact⟨by decide+kernel,by simp,by simp,by simp,rfl,rfl,rfl⟩
 have hf:=Ys7 h hi
 have hb:bB T<=25/\bC T<=2/\0<=bB T/\0<=bC T:=by unfold bB bC;split <;> omega
 have m1:=Int.mul_le_mul_of_nonneg_right hb.1 (show 0<=Lm T by omega)
 have m2:=Int.mul_le_mul_of_nonneg_right hb.2.1 (show 0<=Lm T by omega)
 have e1: -Lm T+ -1*(cA T*tI T i)=fA T i:=by unfold fA;omega
 have e2:Lm T+ -1*(cB T*tI T i)=fB T i:=by unfold fB;omega
 have e3:0+ -1*(cC T*tI T i)=fC T i:=by unfold fC;omega
 have:=(YeA (s:= -1) (by omega) r32 (YwY h hi) (by rw[e1];unfold sm;omega) (by rw[e2];unfold sm;omega) (by rw[e3];unfold sm;omega)).2
 exact this.cast e1 e2 e3
def sumF(f:Nat->Int)(w:Int):Nat->Int
 |0=>0
 |i+1=>sumF f w i+(if(i:Int)=w then 0 else f i)
theorem Yjb{f:Nat->Int}{w B:Int}(hB:0<=B)(h:∀i,i<12-> -B<=f i/\f i<=B)(i:Nat):∀d,i+d<=12-> -(B*d)<=sumF f w (i+d)-sumF f w i/\sumF f w (i+d)-sumF f w i<=B*d
 |0,_=>by simp
 |d+1,hd=>by
   have ih:=Yjb hB h (w:=w) i d (by omega)
   rw[<-Nat.add_assoc,sumF]
   have:=h (i+d) (by omega)
   have e:B*((d+1:Nat):Int)=B*d+B:=by rw[Int.natCast_add,Int.mul_add];simp
   rw[e]
   split <;> omega
def gA(T:Tm)(i:Nat):Int:=sumF (fA T) T.wolf i
def gB(T:Tm)(i:Nat):Int:=sumF (fB T) T.wolf i
def gC(T:Tm)(i:Nat):Int:=sumF (fC T) T.wolf i
theorem Yhj{T:Tm}(h:YY T=0):0<=bB T*Lm T/\bB T*Lm T<=3000/\0<=bC T*Lm T/\bC T*Lm T<=240:=by
 have hL:=YbS h
 have hb:bB T<=25/\bC T<=2/\0<=bB T/\0<=bC T:=by unfold bB bC;split <;> omega
 have m1:=Int.mul_le_mul_of_nonneg_right hb.1 (show 0<=Lm T by omega)
 have m2:=Int.mul_le_mul_of_nonneg_right hb.2.1 (show 0<=Lm T by omega)
 exact⟨YDf hb.2.2.1 (by omega),by omega,YDf hb.2.2.2 (by omega),by omega⟩
theorem g_bd{T:Tm}(h:YY T=0)(i d:Nat)(hd:i+d<=12):(-(39*Lm T*d)<=gA T (i+d)-gA T i/\gA T (i+d)-gA T i<=39*Lm T*d)/\(-(bB T*Lm T*d)<=gB T (i+d)-gB T i/\gB T (i+d)-gB T i<=bB T*Lm T*d)/\ -(bC T*Lm T*d)<=gC T (i+d)-gC T i/\gC T (i+d)-gC T i<=bC T*Lm T*d:=by
 have hL:=YbS h
 have hb:=Yhj h
 exact⟨Yjb (by omega) (fun j hj=>(Ys7 h hj).1) i d hd,Yjb hb.1 (fun j hj=>(Ys7 h hj).2.1) i d hd,Yjb hb.2.2.1 (fun j hj=>(Ys7 h hj).2.2) i d hd⟩
theorem YiR{B:Int}{d n:Nat}(hB:0<=B)(h:d<=n):B*d<=B*n:=YDn (by omega) hB
theorem YnH{T:Tm}(h:YY T=0):∀i,i<=12->Rep (Lm T) (YaO T i) (7*Lm T-gA T i) (-gB T i) (-gC T i)
 |0,_=>by
   rw[YaO,YAS]
   exact⟨by decide+kernel,by show 7*Lm T=(7*Lm T-0)*1;omega,by show 0*Lm T=(-0)*1;simp,by show 0*Lm T=(-0)*1;simp,rfl,rfl,rfl⟩
 |i+1,hi=>by
   have ih:=YnH h i (by omega)
   have hL:=YbS h
   have hb:=Yhj h
   have bd:=g_bd h 0 (i+1) (by omega)
   have z:gA T 0=0/\gB T 0=0/\gC T 0=0:=⟨rfl,rfl,rfl⟩
   rw[YDO,z.1,z.2.1,z.2.2]at bd
   have m1:=YiR (show 0<=39*Lm T by omega) hi
   have m2:=YiR hb.1 hi
   have m3:=YiR hb.2.2.1 hi
   rw[YaO]
   by_cases c:(i:Int)=T.wolf
   . rw[if_pos c]
     refine ih.cast ?_ ?_ ?_
     . unfold gA;rw[sumF,if_pos c];omega
     . unfold gB;rw[sumF,if_pos c];omega
     . unfold gC;rw[sumF,if_pos c];omega
   . rw[if_neg c]
     have e1:7*Lm T-gA T i+ -1*fA T i=7*Lm T-gA T (i+1):=by unfold gA;rw[sumF,if_neg c];omega
     have e2: -gB T i+ -1*fB T i= -gB T (i+1):=by unfold gB;rw[sumF,if_neg c];omega
     have e3: -gC T i+ -1*fC T i= -gC T (i+1):=by unfold gC;rw[sumF,if_neg c];omega
     have:=(YeA (s:= -1) (by omega) ih (Yqc h (show i<12 by omega)) (by rw[e1];unfold sm;omega) (by rw[e2];unfold sm;omega) (by rw[e3];unfold sm;omega)).2
     exact this.cast e1 e2 e3
def sA(T:Tm)(i:Nat):Int:=gA T i+(if T.wolf<i then 7*Lm T-gA T 12 else 0)
def sB(T:Tm)(i:Nat):Int:=gB T i+(if T.wolf<i then -gB T 12 else 0)
def sC(T:Tm)(i:Nat):Int:=gC T i+(if T.wolf<i then -gC T 12 else 0)
theorem s_bd{T:Tm}(h:YY T=0){i m:Nat}(hi:i<=12)(hm:i<=T.wolf->i<=m)(hm2:T.wolf<i->12-i<=m):(-(39*Lm T*12)-7*Lm T<=sA T i/\sA T i<=39*Lm T*12+7*Lm T)/\(-(bB T*Lm T*m)<=sB T i/\sB T i<=bB T*Lm T*m)/\ -(bC T*Lm T*m)<=sC T i/\sC T i<=bC T*Lm T*m:=by
 have hL:=YbS h
 have hb:=Yhj h
 unfold sA sB sC
 by_cases c:T.wolf<i
 . have bd:=g_bd h i (12-i) (by omega)
   rw[show i+(12-i)=12 by omega]at bd
   rw[if_pos c,if_pos c,if_pos c]
   have m1:=YiR (show 0<=39*Lm T by omega) (show 12-i<=12 by omega)
   have m2:=YiR hb.1 (hm2 c)
   have m3:=YiR hb.2.2.1 (hm2 c)
   omega
 . have bd:=g_bd h 0 i (by omega)
   have z:gA T 0=0/\gB T 0=0/\gC T 0=0:=⟨rfl,rfl,rfl⟩
   rw[YDO,z.1,z.2.1,z.2.2]at bd
   rw[if_neg c,if_neg c,if_neg c]
   have m1:=YiR (show 0<=39*Lm T by omega) hi
   have m2:=YiR hb.1 (hm (by omega))
   have m3:=YiR hb.2.2.1 (hm (by omega))
   omega
theorem Yoa{T:Tm}(h:YY T=0){k:Nat}(hk:k<12):Rep (Lm T) (Yby T k) (sA T (k+1)-sA T k) (sB T (k+1)-sB T k) (sC T (k+1)-sC T k):=by
 obtain⟨hw,_⟩:=YdZ h
 unfold Yby
 by_cases c:k=T.wolf.toNat
 . rw[if_pos c]
   have c2:(k:Int)=T.wolf:=by omega
   have w1:T.wolf<((k+1:Nat):Int):=by omega
   have w2:¬T.wolf<(k:Int):=by omega
   have gw:∀f:Nat->Int,sumF f T.wolf (k+1)=sumF f T.wolf k:=fun f=>by rw[sumF,if_pos c2,Int.add_zero]
   refine(YnH h 12 (by decide)).cast ?_ ?_ ?_
   . unfold sA;rw[if_pos w1,if_neg w2];unfold gA;rw[gw];omega
   . unfold sB;rw[if_pos w1,if_neg w2];unfold gB;rw[gw];omega
   . unfold sC;rw[if_pos w1,if_neg w2];unfold gC;rw[gw];omega
 . rw[if_neg c,fifL,if_pos hk]
   have c2:¬(k:Int)=T.wolf:=by omega
   rw[if_neg c2]
   refine(Yqc h hk).cast ?_ ?_ ?_
   . unfold sA gA;rw[sumF,if_neg c2];split <;> split <;> omega
   . unfold sB gB;rw[sumF,if_neg c2];split <;> split <;> omega
   . unfold sC gC;rw[sumF,if_neg c2];split <;> split <;> omega
theorem Ynw{T:Tm}(h:YY T=0):∀i,i<=12->Rep (Lm T) (notL T i).2 (sA T i) (sB T i) (sC T i)
 |0,_=>by
   obtain⟨hw,_⟩:=YdZ h
   rw[notL]
   show Rep (Lm T) (ofRF 1 1).1 _ _ _
   rw[of_11]
   have c:¬T.wolf<((0:Nat):Int):=by omega
   refine⟨by decide+kernel,?_,?_,?_,rfl,rfl,rfl⟩
   . show 0*Lm T=sA T 0*1
     unfold sA;rw[if_neg c];unfold gA sumF;simp
   . show 0*Lm T=sB T 0*1
     unfold sB;rw[if_neg c];unfold gB sumF;simp
   . show 0*Lm T=sC T 0*1
     unfold sC;rw[if_neg c];unfold gC sumF;simp
 |i+1,hi=>by
   have ih:=Ynw h i (by omega)
   have hL:=YbS h
   have hb:=Yhj h
   have bd:=s_bd h (i:=i+1) (m:=12) (by omega) (by omega) (by omega)
   rw[notL]
   show Rep (Lm T) (YaJ (notL T i).2 (Yby T i) 1).1 _ _ _
   have e1:sA T i+1*(sA T (i+1)-sA T i)=sA T (i+1):=by omega
   have e2:sB T i+1*(sB T (i+1)-sB T i)=sB T (i+1):=by omega
   have e3:sC T i+1*(sC T (i+1)-sC T i)=sC T (i+1):=by omega
   have:=(YeA (s:=1) (by omega) ih (Yoa h (show i<12 by omega)) (by rw[e1];unfold sm;omega) (by rw[e2];unfold sm;omega) (by rw[e3];unfold sm;omega)).2
   exact this.cast e1 e2 e3
theorem Yrg(T:Tm):∀i j,j<i->i<=12->(notL T i).1 (7*j%12)=(YcT (notL T j).2).1
 |i+1,j,hj,hi=>by
   rw[notL]
   show YrN (notL T i).1 (7*i%12) (YcT (notL T i).2).1 (7*j%12)=_
   unfold YrN
   by_cases c:j=i
   . subst c;rw[if_pos rfl]
   . rw[if_neg (by omega)]
     exact Yrg T i j (by omega) (by omega)
theorem YgE{T:Tm}(h:YY T=0){j:Nat}(hj:j<12):∃k:Int,Rep (Lm T) (Yp T (7*j%12)) (sA T j-k*Lm T) (sB T j) (sC T j)/\Le0 (sA T j-k*Lm T-Lm T) (sB T j) (sC T j)/\Le0 (8* -(sA T j-k*Lm T)-Lm T) (8* -sB T j) (8* -sC T j):=by
 obtain⟨hw,_⟩:=YdZ h
 have hL:=YbS h
 have hb:=Yhj h
 have bd:=s_bd h (i:=j) (m:=11) (by omega) (by omega) (by omega)
 obtain⟨k,_,h1,h2,h3⟩:=Ytc (by omega) (Ynw h j (by omega)) (by unfold sm;omega) (by unfold sm;omega) (by unfold sm;omega) (by omega)
 refine⟨k,?_,h2,h3⟩
 rw[Yp,Yrg T 12 j hj (YC5 _)]
 exact h1
theorem YsY{c:Nat}(hc:c<12):∃j,j<12/\7*j%12=c:=⟨7*c%12,by omega,by omega⟩
theorem Yrh{T:Tm}(h:YY T=0){note:Int}(hn:0<=note):∃a b c:Int,Rep (Lm T) (Ycu (Yp T) note) a b c/\Le0 (8*a-9*Lm T) (8*b) (8*c)/\Le0 (8* -a-9*Lm T) (8* -b) (8* -c):=by
 obtain⟨hw,_⟩:=YdZ h
 have hL:=YbS h
 have hb:=Yhj h
 obtain⟨j,hj,hjc⟩:=YsY (c:=(note%12).toNat) (by omega)
 obtain⟨k,r1,l1,l2⟩:=YgE h hj
 obtain⟨k9,r9,m1,m2⟩:=YgE h (show 3<12 by decide)
 rw[hjc]at r1
 rw[show 7*3%12=9 from rfl]at r9
 have bd:=s_bd h (i:=j) (m:=11) (by omega) (by omega) (by omega)
 have b9:=s_bd h (i:=3) (m:=9) (by omega) (by omega) (by omega)
 have u:=YqA ((Yc0 (m:=8) (by decide)).2 l1) m2
 have d:=YqA l2 ((Yc0 (m:=8) (by decide)).2 m1)
 have u2:Le0 (8*(sA T j-k*Lm T+ -1*(sA T 3-k9*Lm T))-9*Lm T) (8*(sB T j+ -1*sB T 3)) (8*(sC T j+ -1*sC T 3)):=YeC u (by omega) (by omega) (by omega)
 have d2:Le0 (8* -(sA T j-k*Lm T+ -1*(sA T 3-k9*Lm T))-9*Lm T) (8* -(sB T j+ -1*sB T 3)) (8* -(sC T j+ -1*sC T 3)):=YeC d (by omega) (by omega) (by omega)
 have q1:=YeB u2
 have q2:=YeB d2
 have hbc:(bB T=25/\bC T=0)\/(bB T=9/\bC T=2):=by unfold bB bC;split <;> simp
 have hab: -98000<=sA T j-k*Lm T+ -1*(sA T 3-k9*Lm T)/\sA T j-k*Lm T+ -1*(sA T 3-k9*Lm T)<=98000:=by
   rcases hbc with⟨e1,e2⟩ | ⟨e1,e2⟩
   . rw[e1,e2]at bd b9;omega
   . rw[e1,e2]at bd b9;omega
 have hj2:=(YeA (s:= -1) (by omega) r1 r9 (by unfold sm;omega) (by unfold sm;rcases hbc with⟨e1,e2⟩ | ⟨e1,e2⟩ <;> (rw[e1,e2]at bd b9;omega)) (by unfold sm;rcases hbc with⟨e1,e2⟩ | ⟨e1,e2⟩ <;> (rw[e1,e2]at bd b9;omega))).2
 exact⟨_,_,_,hj2,u2,d2⟩
theorem YuK{x y z:Int}{n:Nat}(h:Le0 (x+ -(n:Int)) y z):UP x y z<=UP (-x) (-y) (-z)*2^n:=by
 have e:=YmB x y z (-(n:Int)) 0 0
 rw[Int.neg_neg,Int.neg_zero,Int.add_zero,Int.add_zero,(UP_2 n).1,(UP_2 n).2,YDU]at e
 unfold Le0 at h
 have p:=Yas (x+ -(n:Int)) y z
 have p2:=Yas (-(x+ -(n:Int))) (-y) (-z)
 refine Nat.le_of_mul_le_mul_left (c:=UP (-(x+ -(n:Int))) (-y) (-z)) ?_ p2
 rw[<-e]
 exact YC0 _ h
theorem YtI{T:Tm}(h:YY T=0){note:Int}(hn:0<=note):∃(r:Rt) (n:Nat),Ycu (Yp T) note=r/\r.n=n/\(1<=n/\n<=1000)/\(∃L a b c,Rep L r a b c)/\UP r.a r.b r.c^8<=UP (-r.a) (-r.b) (-r.c)^8*2^(9*n)/\UP (-r.a) (-r.b) (-r.c)^8<=UP r.a r.b r.c^8*2^(9*n):=by
 obtain⟨a,b,c,hr,hu,hd⟩:=Yrh h hn
 have hL:=YbS h
 have hnr:=hr.n_rng
 obtain⟨r,hre⟩:∃r,r=Ycu (Yp T) note:=⟨_,rfl⟩
 rw[<-hre]at hr hnr
 obtain⟨n,hnn⟩:∃n:Nat,r.n=n:=⟨r.n.toNat,by omega⟩
 obtain⟨M,hM⟩:∃M:Nat,Lm T=M:=⟨(Lm T).toNat,by omega⟩
 have ha:=hr.ha
 have hb:=hr.hb
 have hc:=hr.hc
 rw[hM,hnn]at ha hb hc
 rw[hM]at hu hd
 have scale:∀{x y z x' y' z':Int},x'*M=x*n->y'*M=y*n->z'*M=z*n->Le0 x y z->Le0 x' y' z':=fun h1 h2 h3 h0=>by
   have h4:=(Yc0 (m:=n) (by omega)).2 h0
   refine(Yc0 (m:=M) (by omega)).1 (YeC h4 ?_ ?_ ?_)
   . rw[Int.mul_comm,<-h1,Int.mul_comm]
   . rw[Int.mul_comm,<-h2,Int.mul_comm]
   . rw[Int.mul_comm,<-h3,Int.mul_comm]
 have u:Le0 (8*r.a+ -((9*n:Nat):Int)) (8*r.b) (8*r.c):=scale (by rw[Int.natCast_mul];grind) (by grind) (by grind) hu
 have d:Le0 (8* -r.a+ -((9*n:Nat):Int)) (8* -r.b) (8* -r.c):=scale (by rw[Int.natCast_mul];grind) (by grind) (by grind) hd
 have e8:∀x y z:Int,UP (8*x) (8*y) (8*z)=UP x y z^8:=fun x y z=>YmC 8 x y z
 have u3:=YuK u
 have d3:=YuK d
 rw[<-Int.mul_neg,<-Int.mul_neg,<-Int.mul_neg,e8,e8]at u3
 rw[<-Int.mul_neg,<-Int.mul_neg,<-Int.mul_neg,Int.neg_neg,Int.neg_neg,Int.neg_neg,e8,e8]at d3
 exact⟨r,n,hre.symm,hnn,by omega,⟨_,_,_,_,hr⟩,u3,d3⟩
set_option maxHeartbeats 4000000
def v100:VF:=⟨41,[.cell 10 true 27],(ZR [u1 10 (.alloc [(.val (.string ⟨#[]⟩)),(.bool false),(.int .i64 0),(.int .i64 0),(.int .i64 0),(.int .i64 0),(.int .i64 0),(.int .i64 0),(.int .i64 0),(.int .i64 0),(.int .i64 0),(.int .i64 0),(.int .i64 0),(.int .i64 0),(.int .i64 0),(.int .i64 0),(.int .i64 0),(.int .i64 0),(.int .i64 0),(.int .i64 0),(.int .i64 0),(.int .i64 0),(.int .i64 0),(.int .i64 0),(.int .i64 0),(.int .i64 0),(.int .i64 0)]) []] (ZR [Zm 14 0,Zm 15 1,Zm 16 2,u1 17 (.build [(.val (.string ⟨#[]⟩)),(.bool false),(.int .i64 0),(.int .i64 0),(.int .i64 0),(.int .i64 0),(.int .i64 0),(.int .i64 0),(.int .i64 0),(.int .i64 0),(.int .i64 0),(.int .i64 0),(.int .i64 0),(.int .i64 0),(.int .i64 0),(.int .i64 0),(.int .i64 0),(.int .i64 0),(.int .i64 0),(.int .i64 0),(.int .i64 0),(.int .i64 0),(.int .i64 0),(.int .i64 0),(.int .i64 0),(.int .i64 0),(.int .i64 0)] [(0,1),(1,1),(2,1)]) [.tm 14,.tm 15,.tm 16],u1 11 (.alloc [(.val (.string ⟨#[]⟩)),(.bool false),(.int .i64 0),(.int .i64 0),(.int .i64 0),(.int .i64 0),(.int .i64 0),(.int .i64 0),(.int .i64 0),(.int .i64 0),(.int .i64 0),(.int .i64 0),(.int .i64 0),(.int .i64 0),(.int .i64 0),(.int .i64 0),(.int .i64 0),(.int .i64 0),(.int .i64 0),(.int .i64 0),(.int .i64 0),(.int .i64 0),(.int .i64 0),(.int .i64 0),(.int .i64 0),(.int .i64 0),(.int .i64 0)]) [],Zs 27 11 17] (.seq (ZR [Zi 12 0] (.block 0 (.loop (.seq (ZR [Zm 18 12,Zq 19 .lss 18 12] (ZC 19 .skip (.exit 0))) (.seq (.block 1 (.region [Zm 22 12,u1 23 (.build [(.int .i64 0),(.int .i64 0)] [(0,1),(1,1)]) [.cn (.int .i64 0),.cn (.int .i64 1)],Za 24 3 11,u1 25 (.idxArr 12 2) [.tm 24,.tm 22],Zs 2 25 23])) (.region [Zm 20 12,Zp 21 20 1,Zm 12 21])))))) (.seq (ZR [Zi 13 0] (.block 2 (.loop (.seq (ZR [Zm 26 13,Zm 27 4,Zl 28 27,Zr 29 .lss 26 28] (ZC 29 .skip (.exit 2))) (.seq (.block 3 (.region [Zm 32 4,Zm 33 13,Zx 34 1 32 33,Zf 35 1 34,Zm 36 3,u1 37 (.build [(.int .i64 0),(.int .i64 0)] [(0,1),(1,1)]) [.cn (.int .i64 1),.tm 36],Za 38 3 11,u1 39 (.idxArr 12 2) [.tm 38,.tm 35],Zs 2 39 37])) (.region [Zm 30 13,Zp 31 30 1,Zm 13 31])))))) (ZR [Zt 40 27 11,Zs 27 10 40] .ret)))))⟩
theorem YxE:Yh YCZ Tryz.f100=some v100:=by kernel_rfl
def v78:VF:=⟨40,[.cell 2 true 27,.tmp 3],(ZR [u1 2 (.alloc [(.val (.string ⟨#[]⟩)),(.bool false),(.int .i64 0),(.int .i64 0),(.int .i64 0),(.int .i64 0),(.int .i64 0),(.int .i64 0),(.int .i64 0),(.int .i64 0),(.int .i64 0),(.int .i64 0),(.int .i64 0),(.int .i64 0),(.int .i64 0),(.int .i64 0),(.int .i64 0),(.int .i64 0),(.int .i64 0),(.int .i64 0),(.int .i64 0),(.int .i64 0),(.int .i64 0),(.int .i64 0),(.int .i64 0),(.int .i64 0),(.int .i64 0)]) [],Zi 3 0] (.seq (ZR [Zm 4 0] (.block 0 (ZR [u1 6 (.eqStr false) [.tm 4,.cn (.val (.string ⟨#[101,113,117,97,108]⟩))],Zm 5 6] (ZC 5 (ZR [Zm 7 0,u1 8 (.buildSlice 1 11 [(.int .i64 0)] [(0,1),(1,1),(2,1),(3,1),(4,1),(5,1),(6,1),(7,1),(8,1),(9,1),(10,1)]) [.cn (.int .i64 0),.cn (.int .i64 1),.cn (.int .i64 2),.cn (.int .i64 3),.cn (.int .i64 4),.cn (.int .i64 5),.cn (.int .i64 6),.cn (.int .i64 7),.cn (.int .i64 8),.cn (.int .i64 9),.cn (.int .i64 10)],u1 9 (.call 100) [.tm 7,.cn (.bool false),.cn (.int .i64 11),.cn (.int .i64 12),.tm 8],Zs 27 2 9,Zi 3 0] .ret) (ZR [u1 11 (.eqStr false) [.tm 4,.cn (.val (.string ⟨#[112,121,116,104,97,103,111,114,101,97,110]⟩))],Zm 10 11] (ZC 10 (ZR [Zm 12 0,u1 13 (.call 100) [.tm 12,.cn (.bool false),.cn (.int .i64 8),.cn (.int .i64 1),.cn .nil],Zs 27 2 13,Zi 3 0] .ret) (ZR [u1 15 (.eqStr false) [.tm 4,.cn (.val (.string ⟨#[109,101,97,110,116,111,110,101]⟩))],Zm 14 15] (ZC 14 (ZR [Zm 16 0,u1 17 (.buildSlice 1 11 [(.int .i64 0)] [(0,1),(1,1),(2,1),(3,1),(4,1),(5,1),(6,1),(7,1),(8,1),(9,1),(10,1)]) [.cn (.int .i64 0),.cn (.int .i64 1),.cn (.int .i64 2),.cn (.int .i64 3),.cn (.int .i64 4),.cn (.int .i64 5),.cn (.int .i64 6),.cn (.int .i64 7),.cn (.int .i64 9),.cn (.int .i64 10),.cn (.int .i64 11)],u1 18 (.call 100) [.tm 16,.cn (.bool true),.cn (.int .i64 8),.cn (.int .i64 4),.tm 17],Zs 27 2 18,Zi 3 0] .ret) (ZR [u1 20 (.eqStr false) [.tm 4,.cn (.val (.string ⟨#[119,101,114,99,107,109,101,105,115,116,101,114]⟩))],Zm 19 20] (ZC 19 (ZR [Zm 21 0,u1 22 (.buildSlice 1 4 [(.int .i64 0)] [(0,1),(1,1),(2,1),(3,1)]) [.cn (.int .i64 0),.cn (.int .i64 1),.cn (.int .i64 2),.cn (.int .i64 5)],u1 23 (.call 100) [.tm 21,.cn (.bool false),.cn (.int .i64 11),.cn (.int .i64 4),.tm 22],Zs 27 2 23,Zi 3 0] .ret) (ZR [u1 25 (.eqStr false) [.tm 4,.cn (.val (.string ⟨#[107,105,114,110,98,101,114,103,101,114]⟩))],Zm 24 25] (ZC 24 (ZR [Zm 26 0,u1 27 (.buildSlice 1 4 [(.int .i64 0)] [(0,1),(1,1),(2,1),(3,1)]) [.cn (.int .i64 0),.cn (.int .i64 1),.cn (.int .i64 2),.cn (.int .i64 3)],u1 28 (.call 100) [.tm 26,.cn (.bool true),.cn (.int .i64 6),.cn (.int .i64 4),.tm 27],Zs 27 2 28,Zi 3 0] .ret) (ZR [u1 30 (.eqStr false) [.tm 4,.cn (.val (.string ⟨#[118,97,108,108,111,116,116,105]⟩))],Zm 29 30] (ZC 29 (ZR [Zm 31 0,u1 32 (.buildSlice 1 6 [(.int .i64 0)] [(0,1),(1,1),(2,1),(3,1),(4,1),(5,1)]) [.cn (.int .i64 0),.cn (.int .i64 1),.cn (.int .i64 2),.cn (.int .i64 3),.cn (.int .i64 4),.cn (.int .i64 11)],u1 33 (.call 100) [.tm 31,.cn (.bool false),.cn (.int .i64 6),.cn (.int .i64 6),.tm 32],Zs 27 2 33,Zi 3 0] .ret) (ZR [u1 35 (.eqStr false) [.tm 4,.cn (.val (.string ⟨#[121,111,117,110,103]⟩))],Zm 34 35] (ZC 34 (ZR [Zm 36 0,u1 37 (.buildSlice 1 6 [(.int .i64 0)] [(0,1),(1,1),(2,1),(3,1),(4,1),(5,1)]) [.cn (.int .i64 0),.cn (.int .i64 1),.cn (.int .i64 2),.cn (.int .i64 3),.cn (.int .i64 4),.cn (.int .i64 5)],u1 38 (.call 100) [.tm 36,.cn (.bool false),.cn (.int .i64 11),.cn (.int .i64 6),.tm 37],Zs 27 2 38,Zi 3 0] .ret) .skip)))))))))))))))) (ZR [u1 39 (.build [(.val (.string ⟨#[]⟩)),(.bool false),(.int .i64 0),(.int .i64 0),(.int .i64 0),(.int .i64 0),(.int .i64 0),(.int .i64 0),(.int .i64 0),(.int .i64 0),(.int .i64 0),(.int .i64 0),(.int .i64 0),(.int .i64 0),(.int .i64 0),(.int .i64 0),(.int .i64 0),(.int .i64 0),(.int .i64 0),(.int .i64 0),(.int .i64 0),(.int .i64 0),(.int .i64 0),(.int .i64 0),(.int .i64 0),(.int .i64 0),(.int .i64 0)] []) [],Zs 27 2 39,Zi 3 4] .ret)))⟩
theorem YCy:Yh YCZ Tryz.f78=some v78:=by kernel_rfl
def v47:VF:=⟨11,[.cell 2 true 27],(ZR [u1 2 (.alloc [(.val (.string ⟨#[]⟩)),(.bool false),(.int .i64 0),(.int .i64 0),(.int .i64 0),(.int .i64 0),(.int .i64 0),(.int .i64 0),(.int .i64 0),(.int .i64 0),(.int .i64 0),(.int .i64 0),(.int .i64 0),(.int .i64 0),(.int .i64 0),(.int .i64 0),(.int .i64 0),(.int .i64 0),(.int .i64 0),(.int .i64 0),(.int .i64 0),(.int .i64 0),(.int .i64 0),(.int .i64 0),(.int .i64 0),(.int .i64 0),(.int .i64 0)]) []] (ZR [Zm 6 0,Zc 7 78 6,Zm 5 7,Ze 8 0 5,Ze 9 1 5,u1 3 (.alloc [(.val (.string ⟨#[]⟩)),(.bool false),(.int .i64 0),(.int .i64 0),(.int .i64 0),(.int .i64 0),(.int .i64 0),(.int .i64 0),(.int .i64 0),(.int .i64 0),(.int .i64 0),(.int .i64 0),(.int .i64 0),(.int .i64 0),(.int .i64 0),(.int .i64 0),(.int .i64 0),(.int .i64 0),(.int .i64 0),(.int .i64 0),(.int .i64 0),(.int .i64 0),(.int .i64 0),(.int .i64 0),(.int .i64 0),(.int .i64 0),(.int .i64 0)]) [],Zs 27 3 8,Zm 4 9] (ZR [Zt 10 27 3,Zs 27 2 10] .ret)))⟩
theorem YCk:Yh YCZ Tryz.f47=some v47:=by kernel_rfl
def v46:VF:=⟨5,[.cell 2 true 3],(ZR [u1 2 (.alloc [(.int .i64 0),(.int .i64 0),(.int .i64 0)]) []] (ZR [Zm 3 0,u1 4 (.build [(.int .i64 0),(.int .i64 0),(.int .i64 0)] [(0,1),(1,1),(2,1)]) [.cn (.int .i64 440000),.cn (.int .i64 15000),.tm 3],Zs 3 2 4] .ret))⟩
theorem YCj:Yh YCZ Tryz.f46=some v46:=by kernel_rfl
def setP(p:Nat->Int×Int)(i:Nat)(x:Int×Int):Nat->Int×Int:=fun k=>if k=i then x else p k
theorem Yna(nm:ByteArray)(syn:Bool)(w:Int)(p:Nat->Int×Int){i:Nat}(h:i<12)(a b:Int):
   YJ (encT ⟨nm,syn,w,p⟩) (3+idxN (i:Int) 2) [.int .i64 a,.int .i64 b]=encT ⟨nm,syn,w,setP p i (a,b)⟩:=by
 rcases Yfw h with rfl|rfl|rfl|rfl|rfl|rfl|rfl|rfl|rfl|rfl|rfl|rfl <;> rfl
theorem YAa(i:Nat):idxN (i:Int) 2=i*2:=by simp [idxN]
def fstP:Nat->Nat->Int×Int
 |0=>fun _=>(0,0)
 |i+1=>setP (fstP i) i (0,1)
def madP(den:Int)(l:List Int):Nat->Int×Int:=l.foldl (fun p x=>setP p x.toNat (1,den)) (fstP 12)
def madC:Ctr:={ alias:=false,of:=fun l=>match l with
 | [.val (.string nm),.bool syn,.int .i64 w,.int .i64 den,.vs _ _ n sz get]=> .ex (List Int) fun l=> .pre (lsP 1 enc1 n sz get l/\l.length<=100/\∀x,x∈l->0<=x/\x<=11) (.fin (.agg (encT ⟨nm,syn,w,madP den l⟩)) [])
 |_=>noC}
theorem Yzw{k:SV->List HO->Prop}{al:Bool}{hp:List HO}{T:Tm}(h:k (.agg (encT T)) []):YH al k (.agg (encT T)) hp:=
 YT h (YP (.agg (encT T)) (Yak T _)) (fun _=>by simp [Yo,Ys,encT,encP])
def TM0:Env:={ ct:=fun _=>none,fn:=fun _=>none,meth:=fun _ _=>none}
theorem Yul:Yr YCZ TM0:=by
 refine⟨fun f c h=>?_,fun f vf h=>?_,(fun _ _ _ h=>by cases h),by kernel_rfl,(fun _ h=>by cases h)⟩
 . cases h
 . cases h
theorem mad_c:madC.ok YCZ 100:=by
 refine Yb Tryz.func100 YxE Yul 600 madC fun args k h=>?_
 simp only[madC]at h
 split at h
 . rename_i nm syn w den tt z n sz get
   obtain⟨l,⟨⟨rfl,rfl,hg⟩,hn,hl⟩,h⟩:=h
   refine⟨[.val (.string nm),.bool syn,.int .i64 w,.int .i64 den,.vs tt z l.length 1 (fun k=>enc1 (l.getD k default))],⟨⟨rfl,trivial⟩,rfl,⟨rfl,rfl⟩,⟨rfl,rfl⟩,⟨id,rfl,rfl,rfl,hg⟩,trivial⟩,?_⟩
   dsimp only[v100,enc1,go_sem,reduceIte,YCS]
   simp only[Yc,YCS,YCU,reduceCtorEq,YCT]
   refine⟨rfl,rfl,?_⟩
   refine Loop.keep [3,0,5,0] Nat (fun i=>[(12,.int .i64 i)]) (fun i=>[(1,.box (encT ⟨nm,syn,w,fstP i⟩))]) [] (fun i=>i<=12) (fun i=>12-i) ?_ ?_
   . refine⟨0,by omega,?_⟩
     dsimp only[encT,encP,fstP,go_sem,reduceIte,YCS]
     simp only[Ya]
     repeat' apply YC8
     all_goals first|exact trivial|decide|rfl|omega|exact(YDr (by omega)).symm|exact Yi _ (Yak _ _) |simp
   . rintro i hi
     dsimp only[YCW,go_sem,reduceIte,YCS]
     simp only[Yc,YCS,YCU,reduceCtorEq,YCT]
     refine⟨fun hlt=>?_,fun hge=>?_⟩
     . have hi12:i<12:=by omega
       rw[Yna _ _ _ _ hi12,YCX ((i:Int)+1) (by omega)]
       refine⟨⟨by omega,by omega⟩,by rw[YAa,lenT];omega,i+1,by omega,by omega,?_⟩
       simp only[Ya]
       refine⟨⟨by decide,by decide,by simp⟩,Yi _ (Yak _ _)⟩
     . obtain rfl:i=12:=by omega
       refine Loop.keep [3,0,5,0] Nat (fun i=>[(13,.int .i64 i)]) (fun i=>[(1,.box (encT ⟨nm,syn,w,madP den (l.take i)⟩))]) [] (fun i=>i<=l.length) (fun i=>l.length-i) ?_ ?_
       . refine⟨0,by omega,?_⟩
         dsimp only[go_sem,reduceIte,YCS]
         simp only[Ya]
         refine⟨⟨by decide,by decide,rfl⟩,Yi _ (Yak _ _)⟩
       . rintro i hi
         dsimp only[YCW,go_sem,reduceIte,YCS]
         simp only[Yc,YCS,YCU,reduceCtorEq,YCT]
         refine⟨fun hlt=>?_,fun hge=>?_⟩
         . have hil:i<l.length:=by omega
           have hx:=hl _ (YG hil)
           obtain⟨m,hm⟩:∃m:Nat,l.getD i default=(m:Int):=⟨(l.getD i default).toNat,by omega⟩
           have hm12:m<12:=by omega
           rw[hm,Yna _ _ _ _ hm12,YhV hil (by omega)]
           have hS:madP den (l.take (i+1))=setP (madP den (l.take i)) m (1,den):=by
             rw[madP,YN hil,hm,YCW];rfl
           refine⟨⟨by omega,by omega⟩,⟨by omega,by omega⟩,by rw[YAa,lenT];omega,i+1,by omega,by omega,?_⟩
           rw[hS]
           simp only[Ya]
           refine⟨⟨by decide,by decide⟩,Yi _ (Yak _ _)⟩
         . obtain rfl:i=l.length:=by omega
           rw[List.take_length]
           exact⟨YC5 27,⟨rfl,YbB _⟩,YC5 27,Yzw (T:=⟨nm,syn,w,madP den l⟩) h⟩
 . exact h.1.elim
theorem YnU{a b:ByteArray}:(a.toList==b.toList)=decide (a.data.toList=b.data.toList):=by
 rw[ByteArray.toList_eq,ByteArray.toList_eq]
 by_cases h:a.data.toList=b.data.toList
 . rw[decide_eq_true h,beq_iff_eq];exact h
 . rw[decide_eq_false h,beq_eq_false_iff_ne];exact h
def EQ:Tm:=⟨⟨#[101,113,117,97,108]⟩,false,11,madP 12 [0,1,2,3,4,5,6,7,8,9,10]⟩
def MT:Tm:=⟨⟨#[109,101,97,110,116,111,110,101]⟩,true,8,madP 4 [0,1,2,3,4,5,6,7,9,10,11]⟩
def nmdC:Ctr:={ alias:=false,of:=fun l=>match l with
 | [.val (.string b)]=> .ex Bool fun m=> .pre (b=if m then MT.nm else EQ.nm) (.fin (.agg (encT (if m then MT else EQ))) [])
 |_=>noC}
def stdC:Ctr:={ alias:=false,of:=fun l=>match l with
 | [.val (.string b)]=> .ex Bool fun m=> .pre (b=if m then MT.nm else EQ.nm) (.fin (.tup [.agg (encT (if m then MT else EQ)),.int .i64 0]) [])
 |_=>noC}
theorem Yup{k:SV->List HO->Prop}{al:Bool}{hp:List HO}{T:Tm}{e:Int}(h:k (.tup [.agg (encT T),.int .i64 e]) []):YH al k (.tup [.agg (encT T),.int .i64 e]) hp:=
 YT h (YP (.tup [.agg (encT T),.int .i64 e]) ⟨Yak T _,trivial,trivial⟩) (fun _=>by simp [Yo,Ys,encT,encP])
theorem elev{k:Nat}(h:k<11):k=0\/k=1\/k=2\/k=3\/k=4\/k=5\/k=6\/k=7\/k=8\/k=9\/k=10:=by omega
def TM1:Env:={ ct:=fun n=>match n with|100=>some madC|_=>none,fn:=fun _=>none,meth:=fun _ _=>none}
theorem Yo7:TM1.ct 100=some madC:=rfl
theorem Yzf:Yr YCZ TM1:=by
 refine⟨fun f c h=>?_,fun f vf h=>?_,(fun _ _ _ h=>by cases h),by kernel_rfl,(fun _ h=>by cases h)⟩
 . simp only[TM1]at h
   split at h
   . cases h;exact⟨mad_c,Tryz.f100,Tryz.func100,by kernel_rfl,by kernel_rfl⟩
   . cases h
 . cases h
theorem std_c:stdC.ok YCZ 78:=by
 refine Yb Tryz.func78 YCy Yzf 600 stdC fun args k h=>?_
 simp only[stdC]at h
 split at h
 . rename_i b
   obtain⟨m,hb,h⟩:=h
   have h:k (.tup [.agg (encT (if m then MT else EQ)),.int .i64 0]) []:=h
   refine⟨[.val (.string b)],⟨⟨rfl,trivial⟩,trivial⟩,?_⟩
   subst hb
   dsimp only[v78,Yo7,madC,go_sem,reduceIte,YCS]
   simp only[Yc,YCS,YCU,reduceCtorEq,YCT]
   cases m
   . refine⟨fun _=>⟨by decide,[0,1,2,3,4,5,6,7,8,9,10],⟨⟨rfl,rfl,fun j hj=>?_⟩,by decide,by decide⟩,⟨rfl,YbB _⟩,YC5 27,Yup (T:=EQ) h⟩,fun hf=>?_⟩
     . rcases elev hj with rfl|rfl|rfl|rfl|rfl|rfl|rfl|rfl|rfl|rfl|rfl <;> exact Ye _
     . exact absurd hf (by rw[YnU];decide)
   . refine⟨fun hf=>?_,fun _=>⟨fun hf=>?_,fun _=>⟨fun _=>⟨by decide,[0,1,2,3,4,5,6,7,9,10,11],⟨⟨rfl,rfl,fun j hj=>?_⟩,by decide,by decide⟩,⟨rfl,YbB _⟩,YC5 27,Yup (T:=MT) h⟩,fun hf=>?_⟩⟩⟩
     . exact absurd hf (by rw[YnU];decide)
     . exact absurd hf (by rw[YnU];decide)
     . rcases elev hj with rfl|rfl|rfl|rfl|rfl|rfl|rfl|rfl|rfl|rfl|rfl <;> exact Ye _
     . exact absurd hf (by rw[YnU];decide)
 . exact h.1.elim
theorem Yvo{k:SV->List HO->Prop}{al:Bool}{hp:List HO}{x y z:Int}(h:k (.agg [.int .i64 x,.int .i64 y,.int .i64 z]) []):YH al k (.agg [.int .i64 x,.int .i64 y,.int .i64 z]) hp:=
 YT h (YP (.agg [.int .i64 x,.int .i64 y,.int .i64 z]) ⟨trivial,trivial,trivial,trivial⟩) (fun _=>by simp [Yo,Ys])
def usu6C:Ctr:={ alias:=false,of:=fun l=>match l with
 | [.int .i64 t]=> .fin (.agg [.int .i64 440000,.int .i64 15000,.int .i64 t]) []
 |_=>noC}
theorem YB9:usu6C.ok YCZ 46:=by
 refine Yb Tryz.func46 YCj Yul 600 usu6C fun args k h=>?_
 simp only[usu6C]at h
 split at h
 . rename_i t
   refine⟨[.int .i64 t],by simp [leL,le],?_⟩
   dsimp only[v46,go_sem,reduceIte,YCS]
   simp only[Yc,YCS,YCU,reduceCtorEq,YCT]
   exact Yvo h
 . exact h.1.elim
def TM2:Env:={ ct:=fun n=>match n with|78=>some stdC|_=>none,fn:=fun _=>none,meth:=fun _ _=>none}
theorem Ysy:TM2.ct 78=some stdC:=rfl
theorem Yzg:Yr YCZ TM2:=by
 refine⟨fun f c h=>?_,fun f vf h=>?_,(fun _ _ _ h=>by cases h),by kernel_rfl,(fun _ h=>by cases h)⟩
 . simp only[TM2]at h
   split at h
   . cases h;exact⟨std_c,Tryz.f78,Tryz.func78,by kernel_rfl,by kernel_rfl⟩
   . cases h
 . cases h
theorem YAO:nmdC.ok YCZ 47:=by
 refine Yb Tryz.func47 YCk Yzg 600 nmdC fun args k h=>?_
 simp only[nmdC]at h
 split at h
 . rename_i b
   obtain⟨m,hb,h⟩:=h
   have h:k (.agg (encT (if m then MT else EQ))) []:=h
   refine⟨[.val (.string b)],⟨⟨rfl,trivial⟩,trivial⟩,?_⟩
   dsimp only[v47,Ysy,stdC,go_sem,reduceIte,YCS]
   simp only[Yc,YCS,YCU,reduceCtorEq,YCT]
   exact⟨m,hb,by decide,by decide,⟨rfl,YbB _⟩,YC5 27,⟨rfl,YbB _⟩,YC5 27,Yzw h⟩
 . exact h.1.elim
def v8:VF:=⟨15,[.cell 6 true 2,.tmp 7],(ZR [u1 3 .box [.tm 0],u1 4 .box [.tm 1],u1 5 .box [.tm 2],Zn 6,Zi 7 0] (ZR [Zt 8 3 3,Zt 9 27 4,Zf 10 1 5,u1 11 (.mkfn (.func 25) 0) [.tm 5,.tm 3],u1 12 (.call 24) [.tm 8,.tm 9,.tm 10,.tm 11],Ze 13 0 12,Ze 14 1 12,Zs 2 6 13,Zm 7 14] .ret))⟩
theorem v8_is:Yh YCZ Tryz.f8=some v8:=by kernel_rfl
def v25:VF:=⟨10,[.cell 4 true 2],(ZR [Zn 4] (ZR [Zm 5 0,Zf 6 1 1,Za 7 0 2,Zf 8 1 7,u1 9 (.call 26) [.tm 5,.tm 6,.tm 8],Zs 2 4 9] .ret))⟩
theorem YCf:Yh YCZ Tryz.f25=some v25:=by kernel_rfl
def v51:VF:=⟨27,[.tmp 2],(ZR [u1 2 .mov [.cn .nil]] (ZR [Zm 6 0,Zl 7 6,Zp 8 7 4,u1 9 (.make 2 16 [(.int .i64 0),(.int .i64 0)]) [.cn (.int .i64 0),.tm 8],Zm 3 9] (.seq (ZR [Zm 10 0,Zl 11 10,Zi 12 0] (.block 0 (.loop (ZR [Zr 13 .lss 12 11] (.seq (ZC 13 .skip (.exit 0)) (.seq (.block 1 (ZR [Zx 14 2 10 12,Zt 15 2 14,Zn 5,Zs 2 5 15] (.region [Zm 16 3,Za 17 0 5,Zf 18 1 17,Za 19 1 5,Zf 20 1 19,u1 21 .neg [.tm 20],u1 22 (.build [(.int .i64 0),(.int .i64 0)] [(0,1),(1,1)]) [.tm 18,.tm 21],u1 23 (.buildSlice 2 1 [(.int .i64 0),(.int .i64 0)] [(0,2)]) [.tm 22],u1 24 (.append 2 16 [(.int .i64 0),(.int .i64 0)]) [.tm 16,.tm 23],Zm 3 24]))) (.region [Zp 25 12 1,Zm 12 25]))))))) (ZR [Zm 26 3,Zm 2 26] .ret))))⟩
theorem YCo:Yh YCZ Tryz.f51=some v51:=by kernel_rfl
def v18:VF:=⟨15,[.cell 6 true 2,.tmp 7],(ZR [u1 3 .box [.tm 0],u1 4 .box [.tm 1],u1 5 .box [.tm 2],Zn 6,Zi 7 0] (ZR [Zt 8 3 3,Zt 9 27 4,Zf 10 1 5,u1 11 (.mkfn (.func 48) 0) [.tm 3,.tm 5],u1 12 (.call 24) [.tm 8,.tm 9,.tm 10,.tm 11],Ze 13 0 12,Ze 14 1 12,Zs 2 6 13,Zm 7 14] .ret))⟩
theorem YCc:Yh YCZ Tryz.f18=some v18:=by kernel_rfl
def v48:VF:=⟨39,[.cell 4 true 2],(ZR [Zn 4] (ZR [Zm 7 0,Za 8 1 1,Zf 9 1 8,u1 10 .nilCheck [.tm 7],Za 11 0 10,Za 12 2 11,Zs 1 12 9] (ZR [Zm 14 0,Zf 15 1 2,Zd 16 49 14 15,Zm 13 16,Ze 17 0 13,Ze 18 1 13,Zm 5 17,Zm 6 18] (.seq (.draw [] [Zu 19 6,Zu 20 5,Zy 22 0 1,Zv 23 1 22,Zu 24 6,w1 25 .neg [.tm 24],w1 26 (.build [(.int .i64 0),(.int .i64 0)] [(0,1),(1,1)]) [.tm 23,.tm 25],Zy 27 1 1,Zv 28 1 27,Zu 29 6,w1 30 .quo [.tm 29,.cn (.int .i64 2)],Zu 32 6,w1 33 .neg [.tm 32],w1 34 .quo [.tm 33,.cn (.int .i64 2)],w1 21 (.call 51) [.tm 20],Zz 31 52 28 30,w1 35 (.call 52) [.cn (.int .i64 0),.tm 34],w1 36 (.buildSlice 2 3 [(.int .i64 0),(.int .i64 0)] [(0,2),(2,2),(4,2)]) [.tm 26,.tm 31,.tm 35],⟨u1 37 (.append 2 16 [(.int .i64 0),(.int .i64 0)]) [.tm 21,.tm 36],[.tm 6,.tm 19]⟩,w1 38 (.call 50) [.cn (.int .i64 331300000000),.tm 19,.tm 37],ZS 2 4 38]) .ret))))⟩
theorem YCl:Yh YCZ Tryz.f48=some v48:=by kernel_rfl
def v20:VF:=⟨26,[.tmp 2,.tmp 3],(ZR [u1 1 .box [.tm 0],Zi 2 0,Zi 3 0] (.seq (ZR [Zt 8 3 1,Zc 9 53 8,Zm 4 9] (ZR [Zm 10 4,Zq 11 .neq 10 0] (ZC 11 (ZR [Zm 12 4,Zi 2 0,Zm 3 12] .ret) .skip))) (.seq (.draw [] [Zy 14 2 1,Zv 15 1 14,Zy 17 1 1,Zv 18 1 17,w1 16 (.call 52) [.tm 15,.cn (.int .i64 1)],w1 19 (.call 52) [.tm 18,.cn (.int .i64 (-1))],w1 20 (.buildSlice 2 2 [(.int .i64 0),(.int .i64 0)] [(0,2),(2,2)]) [.tm 16,.tm 19],w1 21 (.call 54) [.tm 20,.cn (.int .i64 1),.cn (.int .i64 600000)],Zu 13 21,ZE 22 0 13,ZE 23 1 13,ZE 24 2 13,Zu 5 22,Zu 6 23,Zu 7 24]) (ZR [Zm 25 5,Zm 2 25,Zi 3 0] .ret))))⟩
theorem YCe:Yh YCZ Tryz.f20=some v20:=by kernel_rfl
def ngT(x:Int×Int):Int×Int:=(x.1,IntKind.i64.wrap (0-x.2))
def invC:Ctr:={ alias:=false,of:=fun l=>match l with
 | [.vs _ _ n sz get]=> .ex (List (Int×Int)) fun l=> .pre (lsP 2 enc2 n sz get l/\n<=1000000) (.fin (.own 0 0 l.length 2) [.own false 2 l.length (fun k=>enc2 ((l.map ngT).getD k default))])
 |_=>noC}
def TW0:Env:={ ct:=fun _=>none,fn:=fun _=>none,meth:=fun _ _=>none}
theorem Yzj:Yr YCZ TW0:=by
 refine⟨fun f c h=>?_,fun f vf h=>?_,(fun _ _ _ h=>by cases h),by kernel_rfl,(fun _ h=>by cases h)⟩
 . cases h
 . cases h
theorem inv_c:invC.ok YCZ 51:=by
 refine Yfj Tryz.func51 YCo Yzj 300 invC fun args k h=>?_
 simp only[invC]at h
 split at h
 . rename_i tt z n sz get
   obtain⟨l,⟨⟨rfl,rfl,hg⟩,hn⟩,h⟩:=h
   refine⟨[.vs tt z l.length 2 (fun k=>enc2 (l.getD k default))],⟨⟨id,rfl,rfl,rfl,hg⟩,trivial⟩,?_⟩
   dsimp only[v51,enc2,go_sem,reduceIte,YCS]
   simp only[Yc,YCS,YCU,reduceCtorEq,YCT]
   have hw:IntKind.i64.wrap ((l.length:Int)+4)=((l.length+4:Nat):Int):=by rw[YCX ((l.length:Int)+4) (by omega)];rfl
   rw[hw]
   refine⟨⟨by decide,by decide,by omega,by unfold Y2;omega⟩,?_⟩
   refine Loop.keep [10,0] Nat (fun i=>[(3,.own 0 0 i 2),(12,.int .i64 i)]) (fun i=>[(0,.own false 2 i (fun k=>enc2 ((l.map ngT).getD k default)))]) [] (fun i=>i<=l.length) (fun i=>l.length-i) ?_ ?_
   . refine⟨0,Nat.zero_le _,?_⟩
     dsimp only[go_sem,reduceIte,YCS]
     simp only[Ya]
     exact⟨⟨⟨rfl,by decide⟩,rfl⟩,rfl,fun q hq=>absurd hq (Nat.not_lt_zero _)⟩
   . rintro i hi
     replace hi:i<=l.length:=hi
     dsimp only[enc2,YCW,go_sem,reduceIte,YCS]
     simp only[Yc,YCS,YCU,reduceCtorEq,YCT]
     refine⟨fun hlt=>⟨⟨by omega,by omega⟩,by decide,⟨by unfold Y2;omega,fun q hq=>one2 hq⟩,i+1,by omega,by omega,?_⟩,fun hge=>?_⟩
     . have hil:i<l.length:=by omega
       rw[YhV hil (by omega)]
       simp only[Ya]
       refine⟨by decide,rfl,fun q hq=>?_⟩
       by_cases hc:q<i
       . rw[if_pos hc];exact Yi _ ⟨trivial,trivial,trivial⟩
       . obtain rfl:q=i:=by omega
         rw[if_neg hc,Nat.sub_self,Ylr hil];exact Yi _ ⟨trivial,trivial,trivial⟩
     . obtain rfl:i=l.length:=by omega
       exact⟨h,trivial,by simp [Ybz,Ys,Yo]⟩
 . exact h.1.elim
def frq6C:Ctr:={ alias:=false,of:=fun l=>match l with
 | [.agg [.int .i64 a,.int .i64 t0,.int .i64 t],.agg cs,.int .i64 note]=> .ex Tm fun T=> .pre (cs=encT T/\T.nm.size<=9223372036854775807/\chkS a t0 t=0/\YY T=0/\0<=note/\note<=139) (.fin (.tup [.agg [.int .i64 (Yd3 (Yp T) t0 t note a).1,.int .i64 (Yd3 (Yp T) t0 t note a).2],.int .i64 0]) [])
 |_=>noC}
def TW1:Env:={ ct:=fun n=>match n with|26=>some freqC|53=>some chkSC|87=>some NotC|_=>none,fn:=fun n=>match n with|24=>some v24|56=>some v56|62=>some v62|25=>some v25|_=>none,meth:=fun _ _=>none}
theorem Yl7:TW1.ct 26=some freqC:=rfl
theorem Yl8:TW1.ct 53=some chkSC:=rfl
theorem Ymb:TW1.ct 87=some NotC:=rfl
theorem Yl5:TW1.ct 24=none:=rfl
theorem Ymc:TW1.fn 24=some v24:=rfl
theorem Yl9:TW1.ct 56=none:=rfl
theorem Yme:TW1.fn 56=some v56:=rfl
theorem Yma:TW1.ct 62=none:=rfl
theorem Ymf:TW1.fn 62=some v62:=rfl
theorem Yl6:TW1.ct 25=none:=rfl
theorem Ymd:TW1.fn 25=some v25:=rfl
theorem Yzk:Yr YCZ TW1:=by
 refine⟨fun f c h=>?_,fun f vf h=>?_,(fun _ _ _ h=>by cases h),by kernel_rfl,(fun _ h=>by cases h)⟩
 . simp only[TW1]at h
   split at h
   . cases h;exact⟨Yz4,Tryz.f26,Tryz.func26,by kernel_rfl,by kernel_rfl⟩
   . cases h;exact⟨YpV,Tryz.f53,Tryz.func53,by kernel_rfl,by kernel_rfl⟩
   . cases h;exact⟨YyI,Tryz.f87,Tryz.func87,by kernel_rfl,by kernel_rfl⟩
   . cases h
 . simp only[TW1]at h
   split at h
   . cases h;exact⟨Tryz.f24,Tryz.func24,Yva,Tryz.f24,Tryz.func24,by kernel_rfl,by kernel_rfl⟩
   . cases h;exact⟨Tryz.f56,Tryz.func56,Yvb,Tryz.f56,Tryz.func56,by kernel_rfl,by kernel_rfl⟩
   . cases h;exact⟨Tryz.f62,Tryz.func62,Yvc,Tryz.f62,Tryz.func62,by kernel_rfl,by kernel_rfl⟩
   . cases h;exact⟨Tryz.f25,Tryz.func25,YCf,Tryz.f25,Tryz.func25,by kernel_rfl,by kernel_rfl⟩
   . cases h
theorem YuC:frq6C.ok YCZ 8:=by
 refine Yb Tryz.func8 v8_is Yzk 900 frq6C fun args k h=>?_
 simp only[frq6C]at h
 split at h
 . rename_i a t0 t cs note
   obtain⟨T,⟨rfl,hnm,hS,hT,hn0,hn1⟩,h⟩:=h
   refine⟨[.agg [.int .i64 a,.int .i64 t0,.int .i64 t],.agg (encT T),.int .i64 note],⟨⟨⟨rfl,rfl⟩,⟨rfl,rfl⟩,⟨rfl,rfl⟩,trivial⟩,Yi _ (Yak T _),⟨rfl,rfl⟩,trivial⟩,?_⟩
   dsimp only[v8,YlI,lenT,Yl7,freqC,Yl8,chkSC,Ymb,NotC,Yl5,Ymc,v24,Yl9,Yme,v56,Yma,Ymf,v62,Yl6,Ymd,v25,go_sem,reduceIte,YCS]
   simp only[Yc,YCS,YCU,reduceCtorEq,YCT]
   refine⟨YbB T,YbB T,YbB T,fun hs=>absurd hS hs,fun hs=>⟨T,⟨rfl,hnm⟩,?_⟩⟩
   rw[if_neg (fun hh=>hh hT)]
   dsimp only[YlI,lenT,Yl7,freqC,Yl8,chkSC,Ymb,NotC,Yl5,Ymc,v24,Yl9,Yme,v56,Yma,Ymf,v62,Yl6,Ymd,v25,go_sem,reduceIte,YCS]
   simp only[Yc,YCS,YCU,reduceCtorEq,YCT]
   obtain⟨ha,hb0,hb1⟩:=Yeo hS
   refine⟨by decide,by decide,fun hh=>absurd trivial hh,by decide,by decide,fun hh=>absurd trivial hh,fun hc=>?_,fun hc=>⟨Yp T,⟨fun q _=>Ye _,⟨hn0,hn1⟩,hb0,hb1⟩,by decide,by decide,?_⟩⟩
   . simp only[Bool.and_eq_false_iff,decide_eq_false_iff_not]at hc;omega
   . exact Ypu (show k _ []from h)
 . exact h.1.elim
def drfF(t0 t:Int):Int:=(flrF [(273150+t,1),(273150+t0, -1)] 1 600000).1
def drfC:Ctr:={ alias:=false,of:=fun l=>match l with
 | [.agg [.int .i64 a,.int .i64 t0,.int .i64 t]]=> .pre (chkS a t0 t=0) (.fin (.tup [.int .i64 (drfF t0 t),.int .i64 0]) [])
 |_=>noC}
def TW2:Env:={ ct:=fun n=>match n with|53=>some chkSC|52=>some warmC|54=>some flrC|_=>none,fn:=fun _=>none,meth:=fun _ _=>none}
theorem YsB:TW2.ct 53=some chkSC:=rfl
theorem YsA:TW2.ct 52=some warmC:=rfl
theorem YsC:TW2.ct 54=some flrC:=rfl
theorem Yzl:Yr YCZ TW2:=by
 refine⟨fun f c h=>?_,fun f vf h=>?_,(fun _ _ _ h=>by cases h),by kernel_rfl,(fun _ h=>by cases h)⟩
 . simp only[TW2]at h
   split at h
   . cases h;exact⟨YpV,Tryz.f53,Tryz.func53,by kernel_rfl,by kernel_rfl⟩
   . cases h;exact⟨Ysd,Tryz.f52,Tryz.func52,by kernel_rfl,by kernel_rfl⟩
   . cases h;exact⟨Yz1,Tryz.f54,Tryz.func54,by kernel_rfl,by kernel_rfl⟩
   . cases h
 . cases h
theorem drf_c:drfC.ok YCZ 20:=by
 refine Yb Tryz.func20 YCe Yzl 600 drfC fun args k h=>?_
 simp only[drfC]at h
 split at h
 . rename_i a t0 t
   obtain⟨hS,h⟩:=h
   have h:k (.tup [.int .i64 (drfF t0 t),.int .i64 0]) []:=h
   refine⟨[.agg [.int .i64 a,.int .i64 t0,.int .i64 t]],by simp [leL,le],?_⟩
   dsimp only[v20,YsB,chkSC,YsA,warmC,YsC,flrC,go_sem,reduceIte,YCS]
   simp only[Yc,YCS,YCU,reduceCtorEq,YCT]
   obtain⟨ha,hb0,hb1⟩:=Yeo hS
   refine⟨fun hh=>absurd hS hh,fun _=>⟨hb1,hb0,by decide,[(273150+t,1),(273150+t0, -1)],⟨rfl,rfl,fun q hq=>?_⟩,by decide,by decide,by decide,Yff h⟩⟩
   rcases(show q=0\/q=1 by omega)with rfl|rfl <;> exact Ye _
 . exact h.1.elim
def wavL(L:Nat->Rt)(a t0 note:Int):List (Int×Int):=
 (YaQ L t0 t0 note).1.map ngT++[(a,IntKind.i64.wrap (0-(YaQ L t0 t0 note).2)),(273150+t0,IntKind.i64.wrap ((YaQ L t0 t0 note).2.tdiv 2)),(273150+0,IntKind.i64.wrap ((IntKind.i64.wrap (0-(YaQ L t0 t0 note).2)).tdiv 2))]
def wavF(L:Nat->Rt)(a t0 note:Int):Int×Int:=pspF 331300000000 (wavL L a t0 note) (YaQ L t0 t0 note).2
def wavC:Ctr:={ alias:=false,of:=fun l=>match l with
 | [.agg [.int .i64 a,.int .i64 t0,.int .i64 t],.agg cs,.int .i64 note]=> .ex Tm fun T=> .pre (cs=encT T/\T.nm.size<=9223372036854775807/\chkS a t0 t=0/\YY T=0/\0<=note/\note<=139) (.fin (.tup [.agg [.int .i64 (wavF (Yp T) a t0 note).1,.int .i64 (wavF (Yp T) a t0 note).2],.int .i64 0]) [])
 |_=>noC}
def TW3:Env:={ ct:=fun n=>match n with|49=>some termC|51=>some invC|52=>some warmC|50=>some pspC|53=>some chkSC|87=>some NotC|_=>none,fn:=fun n=>match n with|24=>some v24|56=>some v56|62=>some v62|48=>some v48|_=>none,meth:=fun _ _=>none}
theorem Ymi:TW3.ct 49=some termC:=rfl
theorem Ymk:TW3.ct 51=some invC:=rfl
theorem Yml:TW3.ct 52=some warmC:=rfl
theorem Ymj:TW3.ct 50=some pspC:=rfl
theorem Ymm:TW3.ct 53=some chkSC:=rfl
theorem Ymp:TW3.ct 87=some NotC:=rfl
theorem Ymg:TW3.ct 24=none:=rfl
theorem Ymq:TW3.fn 24=some v24:=rfl
theorem Ymn:TW3.ct 56=none:=rfl
theorem Yms:TW3.fn 56=some v56:=rfl
theorem Ymo:TW3.ct 62=none:=rfl
theorem Ymt:TW3.fn 62=some v62:=rfl
theorem Ymh:TW3.ct 48=none:=rfl
theorem Ymr:TW3.fn 48=some v48:=rfl
theorem Yzm:Yr YCZ TW3:=by
 refine⟨fun f c h=>?_,fun f vf h=>?_,(fun _ _ _ h=>by cases h),by kernel_rfl,(fun _ h=>by cases h)⟩
 . simp only[TW3]at h
   split at h
   . cases h;exact⟨Yu7,Tryz.f49,Tryz.func49,by kernel_rfl,by kernel_rfl⟩
   . cases h;exact⟨inv_c,Tryz.f51,Tryz.func51,by kernel_rfl,by kernel_rfl⟩
   . cases h;exact⟨Ysd,Tryz.f52,Tryz.func52,by kernel_rfl,by kernel_rfl⟩
   . cases h;exact⟨YA5,Tryz.f50,Tryz.func50,by kernel_rfl,by kernel_rfl⟩
   . cases h;exact⟨YpV,Tryz.f53,Tryz.func53,by kernel_rfl,by kernel_rfl⟩
   . cases h;exact⟨YyI,Tryz.f87,Tryz.func87,by kernel_rfl,by kernel_rfl⟩
   . cases h
 . simp only[TW3]at h
   split at h
   . cases h;exact⟨Tryz.f24,Tryz.func24,Yva,Tryz.f24,Tryz.func24,by kernel_rfl,by kernel_rfl⟩
   . cases h;exact⟨Tryz.f56,Tryz.func56,Yvb,Tryz.f56,Tryz.func56,by kernel_rfl,by kernel_rfl⟩
   . cases h;exact⟨Tryz.f62,Tryz.func62,Yvc,Tryz.f62,Tryz.func62,by kernel_rfl,by kernel_rfl⟩
   . cases h;exact⟨Tryz.f48,Tryz.func48,YCl,Tryz.f48,Tryz.func48,by kernel_rfl,by kernel_rfl⟩
   . cases h
theorem wav_c:wavC.ok YCZ 18:=by
 refine Yb Tryz.func18 YCc Yzm 900 wavC fun args k h=>?_
 simp only[wavC]at h
 split at h
 . rename_i a t0 t cs note
   obtain⟨T,⟨rfl,hnm,hS,hT,hn0,hn1⟩,h⟩:=h
   refine⟨[.agg [.int .i64 a,.int .i64 t0,.int .i64 t],.agg (encT T),.int .i64 note],⟨⟨⟨rfl,rfl⟩,⟨rfl,rfl⟩,⟨rfl,rfl⟩,trivial⟩,Yi _ (Yak T _),⟨rfl,rfl⟩,trivial⟩,?_⟩
   dsimp only[v18,YlI,lenT,Ymi,termC,Ymk,invC,Yml,warmC,Ymj,pspC,Ymm,chkSC,Ymp,NotC,Ymg,Ymq,v24,Ymn,Yms,v56,Ymo,Ymt,v62,Ymh,Ymr,v48,go_sem,reduceIte,YCS]
   simp only[Yc,YCS,YCU,reduceCtorEq,YCT]
   refine⟨YbB T,YbB T,YbB T,fun hs=>absurd hS hs,fun hs=>⟨T,⟨rfl,hnm⟩,?_⟩⟩
   rw[if_neg (fun hh=>hh hT)]
   dsimp only[YlI,lenT,Ymi,termC,Ymk,invC,Yml,warmC,Ymj,pspC,Ymm,chkSC,Ymp,NotC,Ymg,Ymq,v24,Ymn,Yms,v56,Ymo,Ymt,v62,Ymh,Ymr,v48,go_sem,reduceIte,YCS]
   simp only[Yc,YCS,YCU,reduceCtorEq,YCT]
   obtain⟨ha,hb0,hb1⟩:=Yeo hS
   have hl:=YkV (Yp T) t0 t0 note
   refine⟨by decide,by decide,fun hh=>absurd trivial hh,by decide,by decide,fun hh=>absurd trivial hh,fun hc=>?_,fun hc=>⟨Yp T,⟨fun q _=>Ye _,⟨hn0,hn1⟩,hb0⟩,by decide,by decide,by decide,by decide,(YaQ (Yp T) t0 t0 note).1,⟨⟨rfl,rfl,fun q _=>Ye _⟩,by omega⟩,?_⟩⟩
   . simp only[Bool.and_eq_false_iff,decide_eq_false_iff_not]at hc;omega
   refine⟨hb0,by decide,by decide,⟨by unfold Y2;omega,fun q hq=>Yr2 hq⟩,wavL (Yp T) a t0 note,⟨⟨rfl,by simp [wavL],fun q hq=>?_⟩,by omega⟩,?_⟩
   . have em:((YaQ (Yp T) t0 t0 note).1.map ngT).length=(YaQ (Yp T) t0 t0 note).1.length:=by simp
     by_cases hc:q<(YaQ (Yp T) t0 t0 note).1.length
     . simp only[if_pos hc]
       rw[wavL,Ydz (by omega)]
       exact Ye _
     . simp only[if_neg hc]
       rw[wavL,YdA (by omega),em]
       rcases(show q-(YaQ (Yp T) t0 t0 note).1.length=0\/q-(YaQ (Yp T) t0 t0 note).1.length=1\/q-(YaQ (Yp T) t0 t0 note).1.length=2 by omega)with e|e|e
       . rw[e];exact Ye _
       . rw[e];exact Ye _
       . rw[e];exact Ye _
   exact⟨by decide,by decide,Ypu (show k _ []from h)⟩
 . exact h.1.elim
theorem Yqi(M:Nat)(t:Bool)(c:Nat):∀(f A B S:Nat),(gl M t f A B (S+c)).1=(gl M t f A B S).1+c*2^f/\(gl M t f A B (S+c)).2=(gl M t f A B S).2+c*2^f
 |0,A,B,S=>by
   rw[Nat.pow_zero,YDU]
   exact⟨rfl,Nat.add_right_comm S c 1⟩
 |f+1,A,B,S=>by
   have hp:(2:Nat)^(f+1)=2*2^f:=by rw[YDh,YC4]
   have e0:c*2^(f+1)=2*c*2^f:=by rw[hp,<-YC3,YC4 c]
   rw[gl.eq_def M t (f+1),gl.eq_def M t (f+1)]
   simp only
   split
   . split
     . have:=Yqi M t (2*c) f (A*A/M) (cdiv (B*B) M) (2*S)
       rw[show 2*(S+c)=2*S+2*c by omega,e0]
       exact this
     . exact⟨YDi ..,by
         show(S+c+1)*2^(f+1)=(S+1)*2^(f+1)+c*2^(f+1)
         rw[Nat.add_right_comm S c 1]
         exact YDi ..⟩
   . split
     . exact⟨YDi ..,by
         show(S+c+1)*2^(f+1)=(S+1)*2^(f+1)+c*2^(f+1)
         rw[Nat.add_right_comm S c 1]
         exact YDi ..⟩
     . have:=Yqi M t (2*c) f (A*A/M/2) (cdiv (cdiv (B*B) M) 2) (2*S+1)
       rw[show 2*(S+c)+1=2*S+1+2*c by omega,e0]
       exact this
theorem YqS{n:Nat}(h:1<=n):lgK (2*n)=lgK n+1:=by
 obtain⟨a,b⟩:=Ykm h
 obtain⟨c,d⟩:=Ykm (n:=2*n) (by omega)
 have key:∀{x y:Nat},2^x<2^y->x<y:=fun h=>(Nat.pow_lt_pow_iff_right (by decide)).1 h
 have h1:2^lgK (2*n)<2^(lgK n+2):=by rw[YDh];omega
 have h2:2^(lgK n+1)<2^(lgK (2*n)+1):=by rw[YDh];omega
 have:=key h1
 have:=key h2
 omega
theorem Yqv{n:Nat}(h1:1<=n)(h2:n<1152921504606846976):YaI ((2*n:Nat):Int)=YaI (n:Int):=by
 have hk:lgK n<60:=Yc1 (by decide) h2
 cases ha:YaI (n:Int)with
 |true=>
   have:=YiF h1 (by omega) ha
   rw[this,<-Nat.pow_succ']
   exact Ygv _ (by omega)
 |false=>
   cases hb:YaI ((2*n:Nat):Int)with
   |false=>rfl
   |true=>
     have:=YiF (n:=2*n) (by omega) (by omega) hb
     rw[YqS h1,YDh]at this
     have e:n=2^lgK n:=by omega
     rw[e,Ygv _ (by omega)]at ha
     cases ha
theorem YAg{n p:Nat}(h1:1<=n)(h2:n<1152921504606846976):(lN (2*n) p).1=(lN n p).1+2^p/\(lN (2*n) p).2=(lN n p).2+2^p:=by
 have hk:lgK n<60:=Yc1 (by decide) h2
 unfold lN
 rw[Yqv h1 h2,YqS h1]
 split
 . simp only[YDi,YDE,and_self]
 . have e:2*n*2^(2*p+64-(lgK n+1))=n*2^(2*p+64-lgK n):=by
     rw[show 2*p+64-lgK n=(2*p+64-(lgK n+1))+1 by omega,YDh]
     grind
   rw[e]
   have:=Yqi (2^(2*p+64)) false 1 p (n*2^(2*p+64-lgK n)) (n*2^(2*p+64-lgK n)) (lgK n)
   rw[YDE]at this
   exact this
def W2:Nat:=KB
theorem YwA{n:Nat}(h1:1<=n)(h2:n<2^29):loN (2*n)=loN n+W2:=by
 have h:=(YAg (p:=2048) h1 (Nat.lt_trans h2 (by decide))).1
 unfold loN W2 KB
 exact h
theorem lo_2:loN 2=W2/\hiN 2=W2:=by
 have e:lgK 2=1:=by
   obtain⟨a,b⟩:=Ykm (n:=2) (by decide)
   have key:∀{x y:Nat},2^x<2^y->x<y:=fun h=>(Nat.pow_lt_pow_iff_right (by decide)).1 h
   have h1:2^lgK 2<2^2:=by omega
   have h2:2^1<2^(lgK 2+1):=by omega
   have:=key h1
   have:=key h2
   omega
 unfold loN hiN lN W2 KB
 rw[if_pos Yqu,e]
 simp only[YDE,and_self]
theorem YvQ:∀l:List (Int×Int),upP (l.map dblT)=upP l^2/\dnP (l.map dblT)=dnP l^2
 | []=>by simp [upP,dnP]
 |x::l=>by
   obtain⟨h1,h2⟩:=YvQ l
   rw[YDk,upP,dnP,upP,dnP,h1,h2,YDq,YDq]
   unfold dblT
   by_cases c:x.2<0
   . have c2:x.2*2<0:=by omega
     simp only[if_pos c,if_pos c2,Nat.one_pow]
     rw[show(-(x.2*2)).toNat=(-x.2).toNat*2 by omega,YDc]
     exact⟨trivial,rfl⟩
   . have c2:¬x.2*2<0:=by omega
     simp only[if_neg c,if_neg c2,Nat.one_pow]
     rw[show(x.2*2).toNat=x.2.toNat*2 by omega,YDc]
     exact⟨rfl,trivial⟩
theorem YvR(w:Nat->Nat):∀l:List (Int×Int),upS w (l.map dblT)=2*upS w l/\dnS w (l.map dblT)=2*dnS w l
 | []=>by simp [upS,dnS]
 |x::l=>by
   obtain⟨h1,h2⟩:=YvR w l
   rw[YDk,upS,dnS,upS,dnS,h1,h2]
   unfold dblT
   by_cases c:x.2<0
   . have c2:x.2*2<0:=by omega
     simp only[if_pos c,if_pos c2]
     rw[show(-(x.2*2)).toNat=2*(-x.2).toNat by omega,YDo]
     omega
   . have c2:¬x.2*2<0:=by omega
     simp only[if_neg c,if_neg c2]
     rw[show(x.2*2).toNat=2*x.2.toNat by omega,YDo]
     omega
theorem Ynp{x:Int×Int}(h:okU x):ngT x=(x.1, -x.2):=by
 obtain⟨_,_,h3,h4⟩:=h
 unfold ngT
 rw[YCX (0-x.2) (by omega)]
 simp
theorem ng_P:∀l:List (Int×Int),(∀x,x∈l->okU x)->upP (l.map ngT)=dnP l/\dnP (l.map ngT)=upP l
 | [],_=>by simp [upP,dnP]
 |x::l,h=>by
   obtain⟨h1,h2⟩:=ng_P l fun y hy=>h y (YDa _ hy)
   rw[YDk,Ynp (h x (YDd ..)),upP,dnP,upP,dnP,h1,h2]
   rcases Int.lt_trichotomy x.2 0 with c|c|c
   . have c2:¬ -x.2<0:=by omega
     simp only[if_pos c,if_neg c2,and_self]
   . simp only[c,Int.neg_zero,Int.lt_irrefl,if_false,Int.toNat_zero,Nat.pow_zero,and_self]
   . have c1:¬x.2<0:=by omega
     have c2: -x.2<0:=by omega
     simp only[if_neg c1,if_pos c2,Int.neg_neg,and_self]
theorem ng_S(w:Nat->Nat):∀l:List (Int×Int),(∀x,x∈l->okU x)->upS w (l.map ngT)=dnS w l/\dnS w (l.map ngT)=upS w l
 | [],_=>by simp [upS,dnS]
 |x::l,h=>by
   obtain⟨h1,h2⟩:=ng_S w l fun y hy=>h y (YDa _ hy)
   rw[YDk,Ynp (h x (YDd ..)),upS,dnS,upS,dnS,h1,h2]
   rcases Int.lt_trichotomy x.2 0 with c|c|c
   . have c2:¬ -x.2<0:=by omega
     simp only[if_pos c,if_neg c2,and_self]
   . simp only[c,Int.neg_zero,Int.lt_irrefl,if_false,Int.toNat_zero,Nat.mul_zero,and_self]
   . have c1:¬x.2<0:=by omega
     have c2: -x.2<0:=by omega
     simp only[if_neg c1,if_pos c2,Int.neg_neg,and_self]
def lstF(r:Rt)(n:Nat)(o t t0:Int):List (Int×Int):=(Yf r).map dblT++[(2,2*(n:Int)*o),(273150+t,(n:Int)),(273150+t0, -(n:Int))]
structure NR (r:Rt) (n:Nat):Prop where
 hn:r.n=n
 rng:1<=n/\n<=1000
 rep:∃L a b c,Rep L r a b c
 u:UP r.a r.b r.c^8<=UP (-r.a) (-r.b) (-r.c)^8*2^(9*n)
 d:UP (-r.a) (-r.b) (-r.c)^8<=UP r.a r.b r.c^8*2^(9*n)
theorem YiT{T:Tm}(h:YY T=0){note:Int}(hn:0<=note):∃(r:Rt) (n:Nat),Ycu (Yp T) note=r/\NR r n:=by
 obtain⟨r,n,h1,h2,h3,h4,h5,h6⟩:=YtI h hn
 exact⟨r,n,h1,⟨h2,h3,h4,h5,h6⟩⟩
theorem NR.ok{r:Rt}{n:Nat}(h:NR r n):chkR r=0:=by
 obtain⟨_,_,_,_,hr⟩:=h.rep
 exact hr.ok
theorem Yjg{T:Tm}{r:Rt}{n:Nat}{t t0 note:Int}(hr:Ycu (Yp T) note=r)(h:NR r n):YaQ (Yp T) t0 t note=(lstF r n (note/12-5) t t0,2*(n:Int)):=by
 unfold YaQ lstF trmL trmD
 rw[hr,if_pos h.ok,if_pos h.ok,h.hn]
theorem Ylq{r:Rt}{n:Nat}{o t t0:Int}(h:NR r n)(ht:Yaf t=true)(ht0:Yaf t0=true):
   upP (lstF r n o t t0)=UP r.a r.b r.c^2*(UP (2*(n:Int)*o) 0 0*(273150+t).toNat^n)/\dnP (lstF r n o t t0)=UP (-r.a) (-r.b) (-r.c)^2*(UP (-(2*(n:Int)*o)) 0 0*(273150+t0).toNat^n):=by
 obtain⟨_,_,_,_,hr⟩:=h.rep
 obtain⟨tu,td⟩:=YkW hr
 have hn:=h.rng
 unfold lstF
 rw[(Yao _ _).1,(Yao _ _).2,(YvQ _).1,(YvQ _).2,tu,td]
 have h1:¬((n:Int)<0):=by omega
 have h2: -(n:Int)<0:=by omega
 have e:upP [(2,2*(n:Int)*o),(273150+t,(n:Int)),(273150+t0, -(n:Int))]=UP (2*(n:Int)*o) 0 0*(273150+t).toNat^n/\dnP [(2,2*(n:Int)*o),(273150+t,(n:Int)),(273150+t0, -(n:Int))]=UP (-(2*(n:Int)*o)) 0 0*(273150+t0).toNat^n:=by
   have a:=YkU [] (2*(n:Int)*o)
   simp only[List.nil_append,upP,dnP,if_neg h1,if_pos h2,YCW,Int.neg_neg,YDU,YDE]at a⊢
   rw[a.1,a.2]
   exact⟨rfl,rfl⟩
 rw[e.1,e.2]
 exact⟨rfl,rfl⟩
theorem Ykn{r:Rt}{n:Nat}{o t t0:Int}(h:NR r n)(ht:Yaf t=true)(ht0:Yaf t0=true)(ho: -5<=o/\o<=6):(∀x,x∈lstF r n o t t0->okU x/\x.1<=1000000/\ -1000000<=x.2/\x.2<=1000000)/\(lstF r n o t t0).length<=9:=by
 have ht:=YcD ht
 have ht0:=YcD ht0
 have hn:=h.rng
 have hlen:=Ybp r
 constructor
 . intro x hx
   unfold lstF at hx
   rw[YDp,YDW]at hx
   rcases hx with⟨y,hy,rfl⟩ |hx
   . have:=Yjh h.ok y hy
     unfold okU dblT;simp only;omega
   . have hm:=YaE (x:=2*(n:Int)) (y:=o) (X:=2000) (Y:=6) (by omega) (by omega)
     simp only[YDx,List.not_mem_nil,or_false]at hx
     unfold okU
     rcases hx with rfl|rfl|rfl <;> simp only <;> omega
 . unfold lstF
   rw[YDF,List.length_map]
   simp only[YDP,List.length_nil]
   omega
theorem Yut{l:List (Int×Int)}(h:∀x,x∈l->okU x/\x.1<=1000000/\ -1000000<=x.2/\x.2<=1000000)(hn:l.length<=16):Yep l=0:=by
 unfold Yep
 rw[if_neg (by omega),if_neg]
 rw[List.any_eq_true]
 rintro⟨x,hx,ho⟩
 obtain⟨h1,h2,h3,h4⟩:=h x hx
 have:=h1.1
 simp only[okT0,YDN,decide_eq_true_eq]at ho
 omega
theorem YlR{n:Nat}(h:n<2^29\/n=331300000000):wP n<=2^52:=by
 unfold wP
 split
 . decide
 . split
   . decide
   . exact YC5 _
theorem YAE{r:Rt}{n:Nat}{o t t0:Int}(h:NR r n)(ht:Yaf t=true)(ht0:Yaf t0=true):upS wP (lstF r n o t t0)+dnS wP (lstF r n o t t0)<=400000+n*2^53:=by
 obtain⟨_,_,_,_,hr⟩:=h.rep
 have tw:=YhW hr
 have ht:=YcD ht
 have ht0:=YcD ht0
 unfold lstF
 rw[(Yab wP _ _).1,(Yab wP _ _).2,(YvR wP _).1,(YvR wP _).2]
 have h1:¬((n:Int)<0):=by omega
 have w1:=YlR (n:=(273150+t).toNat) (Or.inl (by omega))
 have w2:=YlR (n:=(273150+t0).toNat) (Or.inl (by omega))
 have m1:=YC0 n w1
 have m2:=YC0 n w2
 have e:upS wP [(2,2*(n:Int)*o),(273150+t,(n:Int)),(273150+t0, -(n:Int))]+dnS wP [(2,2*(n:Int)*o),(273150+t,(n:Int)),(273150+t0, -(n:Int))]<=wP (273150+t).toNat*n+wP (273150+t0).toNat*n:=by
   have z:wP (2:Int).toNat=0:=rfl
   simp only[upS,dnS,if_neg h1,z,Nat.zero_mul,ite_self,YCW,Int.neg_neg]
   split
   . omega
   . rename_i h2
     have:n=0:=by omega
     subst this
     simp
 omega
theorem Yzq{n:Nat}{o:Int}(h:o<=6):UP (2*(n:Int)*o) 0 0<=UP (-(2*(n:Int)*o)) 0 0*64^(2*n):=by
 have hm:(2*(n:Int))*o<=2*(n:Int)*6:=YDn h (by omega)
 unfold UP
 simp only[Int.toNat_zero,Nat.pow_zero,YDU]
 rw[show(64:Nat)=2^6 from rfl,<-YDc,<-YC6]
 exact YDm (by decide) (by omega)
theorem Yvm{n:Nat}{o:Int}(h: -5<=o):UP (-(2*(n:Int)*o)) 0 0<=UP (2*(n:Int)*o) 0 0*32^(2*n):=by
 have hm:2*(n:Int)*(-5)<=2*(n:Int)*o:=YDn h (by omega)
 unfold UP
 simp only[Int.toNat_zero,Nat.pow_zero,YDU]
 rw[show(32:Nat)=2^5 from rfl,<-YDc,<-YC6]
 exact YDm (by decide) (by omega)
theorem YrG{U V E F n c x y s B:Nat}(hn:1<=n)(hV:0<V)(hF:0<F)(h1:U^8<=V^8*2^(9*n))(h2:E<=F*c^(2*n))(h:2^9*c^8*x^4*s^8<y^4*B^8):
   U^2*(E*x^n)*s^(2*n)<V^2*(F*y^n)*B^(2*n):=by
 refine(Nat.pow_lt_pow_iff_left (show 4≠0 by decide)).1 ?_
 have e1:(U^2*(E*x^n)*s^(2*n))^4=U^8*E^4*((x^4*s^8)^n):=by
   simp only[YDq,<-YDc]
   rw[show 2*4=8 from rfl,YC4 n 4,show 2*n*4=8*n by omega]
   simp only[YC3]
 have e2:(V^2*(F*y^n)*B^(2*n))^4=V^8*F^4*((y^4*B^8)^n):=by
   simp only[YDq,<-YDc]
   rw[show 2*4=8 from rfl,YC4 n 4,show 2*n*4=8*n by omega]
   simp only[YC3]
 rw[e1,e2]
 have h3:=YC9 h2 4
 rw[YDq,<-YDc]at h3
 have h4:=YC0 ((x^4*s^8)^n) (YDg h1 h3)
 refine YDH h4 ?_
 have e3:V^8*2^(9*n)*(F^4*c^(2*n*4))*(x^4*s^8)^n=V^8*F^4*(2^9*c^8*x^4*s^8)^n:=by
   rw[YDc 2 9,show 2*n*4=8*n by omega,YDc c 8,YC3 (2^9*c^8),YDq (2^9*c^8),YDq (2^9)]
   generalize(2^9)^n=p at*
   generalize(c^8)^n=q at*
   generalize(x^4*s^8)^n=z at*
   generalize V^8=v at*
   generalize F^4=f at*
   grind
 rw[e3]
 refine Nat.mul_lt_mul_of_pos_left ?_ (YDv (YDs hV) (YDs hF))
 exact Nat.pow_lt_pow_left h (by omega)
def Yfd(k:Nat)(ex:Bool):Int×Int:=if ex=true then((k:Int),(k:Int))else((k:Int),(k:Int)+1)
theorem Ynx{s:Int}{l:List (Int×Int)}{den:Int}{k:Nat}(h:(YdR s l den).1=(k:Int))(hk:k<2^29):pspF s l den=Yfd k (YdR s l den).2.1:=by
 unfold pspF Yfd
 rw[h]
 split
 . rfl
 . rw[YCX ((k:Int)+1) (by omega)]
theorem YbM{t:Int}(h:Yaf t=true):253150<=(273150+t).toNat/\(273150+t).toNat<=323150:=by
 have:=YcD h
 omega
theorem YwM{x y a:Nat}(hx:x<=323150)(hy:253150<=y)(ha:a<=1000000):2^9*64^8*x^4*a^8<y^4*160000000^8:=by
 have h1:=YC9 hx 4
 have h2:=YC9 hy 4
 have h3:=YC9 ha 8
 exact YDH (YDg (YC1 _ h1) h3) (YDI (show 2^9*64^8*323150^4*1000000^8<253150^4*160000000^8 by decide+kernel) (YC0 _ h2))
theorem Yix{a t0 t note:Int}{T:Tm}{r:Rt}{n:Nat}(hS:chkS a t0 t=0)(hn:0<=note/\note<=139)(hr:Ycu (Yp T) note=r)(h:NR r n):
   ∃k ex,Yd3 (Yp T) t0 t note a=Yfd k ex/\PowR (lstF r n (note/12-5) t t0) a.toNat (2*n) 160000000 k ex:=by
 obtain⟨ha,h0,h1⟩:=Yeo hS
 have ho: -5<=note/12-5/\note/12-5<=6:=by omega
 obtain⟨l1,l2⟩:=Ykn h h1 h0 ho
 obtain⟨p1,p2⟩:=Ylq (o:=note/12-5) h h1 h0
 have hs:=YAE (o:=note/12-5) h h1 h0
 have hrn:=h.rng
 have t1:=YbM h1
 have t2:=YbM h0
 have posV:=Yas (-r.a) (-r.b) (-r.c)
 have posF:=Yas (-(2*(n:Int)*(note/12-5))) 0 0
 have hw:wide (lstF r n (note/12-5) t t0) a.toNat (2*n):=by
   have w:=YC0 (2*n) (YlR (n:=a.toNat) (Or.inl (by omega)))
   unfold wide
   omega
 have hY:0<dnP (lstF r n (note/12-5) t t0):=by
   rw[p2]
   exact YDv (YDs posV) (YDv posF (YDs (by omega)))
 have hB:upP (lstF r n (note/12-5) t t0)*a.toNat^(2*n)<dnP (lstF r n (note/12-5) t t0)*160000000^(2*n):=by
   rw[p1,p2]
   exact YrG hrn.1 posV posF h.u (Yzq ho.2) (YwM t1.2 t2.1 (by omega))
 obtain⟨k,hk,hp⟩:=Yrq (s:=a.toNat) (den:=2*n) (B:=160000000) (Yut l1 (by omega)) (fun x hx=>(l1 x hx).1) (by omega) (by omega) hw hY hB (by decide)
 have ea:((a.toNat:Nat):Int)=a:=YDr (by omega)
 rw[ea]at hk hp
 refine⟨k,_,?_,hp⟩
 unfold Yd3
 rw[Yjg hr h]
 have e2:2*(n:Int)=((2*n:Nat):Int):=by omega
 simp only
 rw[e2]
 exact Ynx hk (Nat.lt_of_succ_lt hp.lt)
def lstW(r:Rt)(n:Nat)(o a t0:Int):List (Int×Int):=(lstF r n o t0 t0).map ngT++[(a, -(2*(n:Int))),(273150+t0,(n:Int)),(273150, -(n:Int))]
theorem YqZ{r:Rt}{n:Nat}{o a t0:Int}(h:NR r n)(ht0:Yaf t0=true)(ho: -5<=o/\o<=6):
   upP (lstW r n o a t0)=dnP (lstF r n o t0 t0)*(273150+t0).toNat^n/\dnP (lstW r n o a t0)=upP (lstF r n o t0 t0)*(a.toNat^(2*n)*273150^n):=by
 obtain⟨l1,l2⟩:=Ykn h ht0 ht0 ho
 have hn:=h.rng
 unfold lstW
 rw[(Yao _ _).1,(Yao _ _).2,(ng_P _ fun x hx=>(l1 x hx).1).1,(ng_P _ fun x hx=>(l1 x hx).1).2]
 have h1:¬((n:Int)<0):=by omega
 have h2: -(n:Int)<0:=by omega
 have h3: -(2*(n:Int))<0:=by omega
 have e:(2*(n:Int)).toNat=2*n:=by omega
 have e3:(273150:Int).toNat=273150:=rfl
 simp only[upP,dnP,if_neg h1,if_pos h2,if_pos h3,YCW,Int.neg_neg,YDU,YDE,e,e3,and_self]
theorem YAD{r:Rt}{n:Nat}{o a t0:Int}(h:NR r n)(ht0:Yaf t0=true)(ho: -5<=o/\o<=6)(ha:100000<=a/\a<=1000000):upS wP (lstW r n o a t0)+dnS wP (lstW r n o a t0)<=400000+6*(n*2^52):=by
 obtain⟨l1,l2⟩:=Ykn h ht0 ht0 ho
 have hs:=YAE (o:=o) h ht0 ht0
 have hn:=h.rng
 have t2:=YbM ht0
 unfold lstW
 rw[(Yab wP _ _).1,(Yab wP _ _).2,(ng_S wP _ fun x hx=>(l1 x hx).1).1,(ng_S wP _ fun x hx=>(l1 x hx).1).2]
 have h1:¬((n:Int)<0):=by omega
 have h2: -(n:Int)<0:=by omega
 have h3: -(2*(n:Int))<0:=by omega
 have e:(2*(n:Int)).toNat=2*n:=by omega
 have w1:=YC0 (2*n) (YlR (n:=a.toNat) (Or.inl (by omega)))
 have w2:=YC0 n (YlR (n:=(273150+t0).toNat) (Or.inl (by omega)))
 have w3:=YC0 n (YlR (n:=(273150:Int).toNat) (Or.inl (by decide)))
 simp only[upS,dnS,if_neg h1,if_pos h2,if_pos h3,YCW,Int.neg_neg,e]
 omega
theorem YwN{x a:Nat}(hx:x<=323150)(ha:100000<=a):2^9*32^8*x^4*331300000000^8<(a^2*273150)^4*260000000^8:=by
 have h1:=YC9 hx 4
 have h2:=YC9 (YC0 273150 (YC9 ha 2)) 4
 exact YDH (YC0 _ (YC1 _ h1)) (YDI (show 2^9*32^8*323150^4*331300000000^8<(100000^2*273150)^4*260000000^8 by decide+kernel) (YC0 _ h2))
theorem YyB{T:Tm}{r:Rt}{n:Nat}{a t0 note:Int}(hr:Ycu (Yp T) note=r)(h:NR r n):wavL (Yp T) a t0 note=lstW r n (note/12-5) a t0:=by
 have hn:=h.rng
 unfold wavL lstW
 rw[Yjg hr h]
 simp only
 rw[YCX (0-2*(n:Int)) (by omega),show(2*(n:Int)).tdiv 2=n by rw[Int.mul_comm];exact Int.mul_tdiv_cancel _ (by decide),YCX (n:Int) (by omega),show(0-2*(n:Int))= -(n:Int)*2 by omega,Int.mul_tdiv_cancel _ (by decide),YCX (-(n:Int)) (by omega),show -(n:Int)*2= -(2*(n:Int))by omega]
 rfl
theorem YlS{a t0 t note:Int}{T:Tm}{r:Rt}{n:Nat}(hS:chkS a t0 t=0)(hn:0<=note/\note<=139)(hr:Ycu (Yp T) note=r)(h:NR r n):
   ∃k ex,wavF (Yp T) a t0 note=Yfd k ex/\PowR (lstW r n (note/12-5) a t0) 331300000000 (2*n) 260000000 k ex:=by
 obtain⟨ha,h0,h1⟩:=Yeo hS
 have ho: -5<=note/12-5/\note/12-5<=6:=by omega
 obtain⟨l1,l2⟩:=Ykn h h0 h0 ho
 obtain⟨p1,p2⟩:=Ylq (o:=note/12-5) h h0 h0
 obtain⟨q1,q2⟩:=YqZ (a:=a) h h0 ho
 have hs:=YAD h h0 ho ha
 have hrn:=h.rng
 have t2:=YbM h0
 have t0r:=YcD h0
 have posU:=Yas r.a r.b r.c
 have posE:=Yas (2*(n:Int)*(note/12-5)) 0 0
 have okl:∀x,x∈lstW r n (note/12-5) a t0->okU x/\x.1<=1000000/\ -1000000<=x.2/\x.2<=1000000:=by
   intro x hx
   unfold lstW at hx
   rw[YDp,YDW]at hx
   rcases hx with⟨y,hy,rfl⟩ |hx
   . obtain⟨y1,y2,y3,y4⟩:=l1 y hy
     rw[Ynp y1]
     unfold okU at y1⊢
     simp only
     omega
   . simp only[YDx,List.not_mem_nil,or_false]at hx
     unfold okU
     rcases hx with rfl|rfl|rfl <;> simp only <;> omega
 have lenl:(lstW r n (note/12-5) a t0).length<=16:=by
   unfold lstW
   rw[YDF,List.length_map]
   simp only[YDP,List.length_nil]
   omega
 have hw:wide (lstW r n (note/12-5) a t0) 331300000000 (2*n):=by
   have w:=YC0 (2*n) (YlR (n:=331300000000) (Or.inr rfl))
   unfold wide
   omega
 have hY:0<dnP (lstW r n (note/12-5) a t0):=by
   rw[q2,p1]
   exact YDv (YDv (YDs posU) (YDv posE (YDs (by omega)))) (YDv (YDs (by omega)) (YDs (by decide)))
 have hB:upP (lstW r n (note/12-5) a t0)*331300000000^(2*n)<dnP (lstW r n (note/12-5) a t0)*260000000^(2*n):=by
   have h3:=YrG (s:=331300000000) (B:=260000000) hrn.1 posU posE h.d (Yvm ho.1) (YwN (a:=a.toNat) t2.2 (by omega))
   rw[q1,q2,p1,p2]
   have hx:0<(273150+t0).toNat^n:=YDs (by omega)
   have e1:a.toNat^(2*n)*273150^n=(a.toNat^2*273150)^n:=by rw[YDq,<-YDc]
   rw[e1]
   generalize(a.toNat^2*273150)^n=y at*
   generalize(273150+t0).toNat^n=x at*
   generalize UP (-r.a) (-r.b) (-r.c)^2=V at*
   generalize UP r.a r.b r.c^2=U at*
   generalize UP (-(2*(n:Int)*(note/12-5))) 0 0=F at*
   generalize UP (2*(n:Int)*(note/12-5)) 0 0=E at*
   have h4:=Nat.mul_lt_mul_of_pos_right h3 hx
   refine YDH (YDV ?_) (YDI h4 (YDV ?_))
   . grind
   . grind
 obtain⟨k,hk,hp⟩:=Yrq (s:=331300000000) (den:=2*n) (B:=260000000) (Yut okl lenl) (fun x hx=>(okl x hx).1) (by decide) (by omega) hw hY hB (by decide)
 refine⟨k,_,?_,hp⟩
 unfold wavF
 rw[YyB hr h,Yjg hr h]
 have e2:2*(n:Int)=((2*n:Nat):Int):=by omega
 simp only
 rw[e2]
 exact Ynx hk (Nat.lt_of_succ_lt hp.lt)
theorem PowR.le_of{l:List (Int×Int)}{s den B r v:Nat}{ex:Bool}(h:PowR l s den B r ex)(hd:1<=den)(hY:0<dnP l)(hv:v<2^30)(hx:upP l*s^den<=dnP l*v^den):r<=v:=by
 rcases YDD r with h0|h0
 . omega
 . have h1:=h.near h0
   have h1':(dnP l*r^den)^QJ<=(upP l*s^den)^QJ*2^(den*(0*QJ+2^55)):=by rw[Nat.zero_mul,YDO];exact h1
   have h2:=YgA (t:=2^40) (show 1<=QJ by rw[YhY];decide) (by rw[YhY];decide) (by decide) h1'
   have h3:dnP l*(r*2^40)^den<=dnP l*(v*(2^0*(2^40+1)))^den:=by
     refine YDb h2 ?_
     rw[YDq v,<-YC3]
     exact YC0 _ hx
   have h4:=Nat.le_of_mul_le_mul_left h3 hY
   have h5:=(Nat.pow_le_pow_iff_left (show den≠0 by omega)).1 h4
   omega
theorem PowR.exact{l:List (Int×Int)}{s den B r v:Nat}{ex:Bool}(h:PowR l s den B r ex)(hd:1<=den)(hY:0<dnP l)(hv1:1<=v)(hv:v<2^29)(hx:upP l*s^den=dnP l*v^den):r=v/\ex=true:=by
 have h1:=h.le_of hd hY (by omega) (YDV hx)
 have h2:=h.tru v hv1 hv (YDV hx.symm)
 have e:r=v:=by omega
 subst e
 exact⟨rfl,h.ex_iff.2 ⟨hv1,hx⟩⟩
theorem Yr4{l l':List (Int×Int)}{s s' den B B' r r':Nat}{ex ex':Bool}(h:PowR l s den B r ex)(h':PowR l' s' den B' r' ex')(hd:1<=den)(hB:B<2^28-2)(hY:0<dnP l)(hY':0<dnP l')
   (hS:∀k,1<=k->k<2^28->(isS l' s' den (2*k)↔isS l s den k))(hx:upP l'*s'^den*dnP l=upP l*s^den*dnP l'*2^den):
   (r'=2*r\/r'=2*r+1)/\(ex=true->r'=2*r/\ex'=true)/\(ex'=true->ex=false->r'=2*r+1):=by
 have hrB:=h.leB
 have h1:2*r<=r':=by
   rcases YDD r with h0|h0
   . omega
   . exact(h'.seg (2*r) (by omega) (by omega)).1 ((hS r h0 (by omega)).2 ((h.seg r h0 (by omega)).2 (YC5 r)))
 have h2:r'<2*(r+1):=by
   refine Nat.lt_of_not_le fun hh=>?_
   have:=(hS (r+1) (by omega) (by omega)).1 ((h'.seg (2*(r+1)) (by omega) (by omega)).2 hh)
   have:=(h.seg (r+1) (by omega) (by omega)).1 this
   omega
 have back:∀v,upP l'*s'^den=dnP l'*(2*v)^den->upP l*s^den=dnP l*v^den:=fun v hv=>by
   rw[hv,YDq]at hx
   have hp:0<dnP l'*2^den:=YDv hY' (Y3 den)
   refine Nat.eq_of_mul_eq_mul_right hp ?_
   generalize upP l*s^den=a at*
   generalize v^den=b at*
   generalize 2^den=c at*
   grind
 have forth:∀v,upP l*s^den=dnP l*v^den->upP l'*s'^den=dnP l'*(2*v)^den:=fun v hv=>by
   rw[hv]at hx
   rw[YDq]
   refine Nat.eq_of_mul_eq_mul_right hY ?_
   generalize upP l'*s'^den=a at*
   generalize v^den=b at*
   generalize 2^den=c at*
   grind
 refine⟨by omega,fun he=>?_,fun he' he=>?_⟩
 . obtain⟨e1,e2⟩:=h.ex_iff.1 he
   obtain⟨e3,e4⟩:=h'.exact hd hY' (by omega) (by omega) (forth r e2)
   exact⟨e3,e4⟩
 . rcases(show r'=2*r\/r'=2*r+1 by omega)with c|c
   . exfalso
     obtain⟨e1,e2⟩:=h'.ex_iff.1 he'
     rw[c]at e2
     have:=h.ex_iff.2 ⟨by omega,back r e2⟩
     rw[he]at this
     cases this
   . exact c
def dblB(a b:Int×Int):Bool:=
 decide (a.1<=a.2)&&decide (b.1<=b.2)&&decide (0<=a.1)&&decide (a.2<1099511627776)&&(decide (b.1=2*a.1) || decide (b.1=2*a.1+1))&&(decide (b.2=2*a.2) || decide (b.2=2*a.2-1))&&(decide (a.1<a.2) || decide (b.1=b.2))
theorem YjX{l l':List (Int×Int)}{s s' den B B' r r':Nat}{ex ex':Bool}(h:PowR l s den B r ex)(h':PowR l' s' den B' r' ex')(hd:1<=den)(hB:B<2^28-2)(hY:0<dnP l)(hY':0<dnP l')
   (hS:∀k,1<=k->k<2^28->(isS l' s' den (2*k)↔isS l s den k))(hx:upP l'*s'^den*dnP l=upP l*s^den*dnP l'*2^den):dblB (Yfd r ex) (Yfd r' ex')=true:=by
 obtain⟨h1,h2,h3⟩:=Yr4 h h' hd hB hY hY' hS hx
 have:=h.lt
 unfold dblB Yfd
 cases hex:ex with
 |true=>
   obtain⟨e1,e2⟩:=h2 hex
   rw[e1,e2]
   simp only[eq_self,if_true,YC2,YDN,decide_eq_true_eq,or_true,and_true]
   omega
 |false=>
   cases hex':ex' with
   |true=>
     have:=h3 hex' hex
     rw[this]
     simp only[eq_self,if_true,YDB,if_false,YC2,YDN,decide_eq_true_eq]
     omega
   |false=>
     simp only[YDB,if_false,YC2,YDN,decide_eq_true_eq]
     omega
theorem Ytz(g:Nat->Nat)(e:Int)(a b:List (Int×Int)):upS g (a++(2,e)::b)=upS g a+(g 2*e.toNat+upS g b)/\dnS g (a++(2,e)::b)=dnS g a+(g 2*(-e).toNat+dnS g b):=by
 rw[(Yab g _ _).1,(Yab g _ _).2,upS,dnS]
 by_cases c:e<0
 . simp only[if_pos c]
   rw[show e.toNat=0 by omega,Nat.mul_zero]
   exact⟨rfl,rfl⟩
 . simp only[if_neg c]
   rw[show(-e).toNat=0 by omega,Nat.mul_zero]
   exact⟨rfl,rfl⟩
theorem YAQ{a b:List (Int×Int)}{s n k:Nat}{e:Int}(hk:1<=k/\k<2^28):isS (a++(2,e+2*(n:Int))::b) s (2*n) (2*k)↔isS (a++(2,e)::b) s (2*n) k:=by
 unfold isS
 rw[(Ytz loN _ a b).2,(Ytz hiN _ a b).1,(Ytz loN _ a b).2,(Ytz hiN _ a b).1,YwA hk.1 (by omega),lo_2.1,lo_2.2]
 have hi:(e+2*(n:Int)).toNat+(-e).toNat=e.toNat+(-(e+2*(n:Int))).toNat+2*n:=by omega
 have hm:=congrArg (fun z=>W2*z) hi
 simp only[YDT]at hm
 rw[YDi,YC4 W2 (2*n)]at*
 generalize W2*(e+2*(n:Int)).toNat=x1 at*
 generalize W2*(-e).toNat=x2 at*
 generalize W2*e.toNat=x3 at*
 generalize W2*(-(e+2*(n:Int))).toNat=x4 at*
 have h2:W2*(2*n)=2*n*W2:=YC4 ..
 generalize 2*n*W2=x5 at*
 constructor <;> intro h <;> omega
theorem Yo9{n:Nat}{o:Int}:UP (2*(n:Int)*(o+1)) 0 0*UP (-(2*(n:Int)*o)) 0 0=UP (2*(n:Int)*o) 0 0*UP (-(2*(n:Int)*(o+1))) 0 0*2^(2*n):=by
 have e:2*(n:Int)*(o+1)=2*(n:Int)*o+2*(n:Int):=by grind
 rw[e]
 generalize 2*(n:Int)*o=x
 unfold UP
 simp only[Int.toNat_zero,Nat.pow_zero,YDU]
 rw[<-YC6,<-YC6,<-YC6]
 congr 1
 omega
theorem YfR(r:Rt)(n:Nat)(o t t0:Int):lstF r n o t t0=(Yf r).map dblT++(2,2*(n:Int)*o):: [(273150+t,(n:Int)),(273150+t0, -(n:Int))]:=rfl
theorem Ynl{r:Rt}{n:Nat}{o a t0:Int}(h:NR r n)(ht0:Yaf t0=true)(ho: -5<=o/\o<=6):lstW r n o a t0=(((Yf r).map dblT).map ngT)++(2, -(2*(n:Int)*o))::([(273150+t0,(n:Int)),(273150+t0, -(n:Int))].map ngT++[(a, -(2*(n:Int))),(273150+t0,(n:Int)),(273150, -(n:Int))]):=by
 have hl:=(Ykn h ht0 ht0 ho).1 (2,2*(n:Int)*o) (by rw[YfR];simp)
 have e:=Ynp hl.1
 unfold lstW
 rw[YfR,List.map_append,YDk,e,List.append_assoc]
 rfl
theorem Ylw(L:Nat->Rt)(note:Int):Ycu L (note+12)=Ycu L note:=by
 unfold Ycu
 rw[show(note+12)%12=note%12 by omega]
theorem Yv6{a t0 t note:Int}{T:Tm}(hS:chkS a t0 t=0)(hT:YY T=0)(hn:0<=note)(hn2:note+12<=139):dblB (Yd3 (Yp T) t0 t note a) (Yd3 (Yp T) t0 t (note+12) a)=true:=by
 obtain⟨ha,h0,h1⟩:=Yeo hS
 obtain⟨r,n,hr,h⟩:=YiT hT hn
 obtain⟨k,ex,e1,p⟩:=Yix hS ⟨hn,by omega⟩ hr h
 obtain⟨k',ex',e2,p'⟩:=Yix (note:=note+12) hS ⟨by omega,hn2⟩ (by rw[Ylw];exact hr) h
 rw[show(note+12)/12-5=note/12-5+1 by omega]at p'
 rw[e1,e2]
 have hrn:=h.rng
 have t1:=YbM h1
 have t2:=YbM h0
 obtain⟨p1,p2⟩:=Ylq (o:=note/12-5) h h1 h0
 obtain⟨q1,q2⟩:=Ylq (o:=note/12-5+1) h h1 h0
 have posV:=Yas (-r.a) (-r.b) (-r.c)
 have hst:=Yo9 (n:=n) (o:=note/12-5)
 refine YjX p p' (by omega) (by decide) ?_ ?_ (fun j j1 j2=>?_) ?_
 . rw[p2];exact YDv (YDs posV) (YDv (Yas _ _ _) (YDs (by omega)))
 . rw[q2];exact YDv (YDs posV) (YDv (Yas _ _ _) (YDs (by omega)))
 . rw[YfR,YfR,show 2*(n:Int)*(note/12-5+1)=2*(n:Int)*(note/12-5)+2*(n:Int)by grind]
   exact YAQ ⟨j1,j2⟩
 . rw[p1,p2,q1,q2]
   generalize UP (2*(n:Int)*(note/12-5+1)) 0 0=E' at*
   generalize UP (2*(n:Int)*(note/12-5)) 0 0=E at*
   generalize UP (-(2*(n:Int)*(note/12-5+1))) 0 0=F' at*
   generalize UP (-(2*(n:Int)*(note/12-5))) 0 0=F at*
   generalize UP r.a r.b r.c^2=U at*
   generalize UP (-r.a) (-r.b) (-r.c)^2=V at*
   generalize(273150+t).toNat^n=x at*
   generalize(273150+t0).toNat^n=y at*
   generalize a.toNat^(2*n)=z at*
   generalize 2^(2*n)=c at*
   have e3:U*(E'*x)*z*(V*(F*y))=(E'*F)*(U*x*z*V*y):=by grind
   rw[e3,hst];grind
theorem YyC{a t0 t note:Int}{T:Tm}(hS:chkS a t0 t=0)(hT:YY T=0)(hn:0<=note)(hn2:note+12<=139):dblB (wavF (Yp T) a t0 (note+12)) (wavF (Yp T) a t0 note)=true:=by
 obtain⟨ha,h0,h1⟩:=Yeo hS
 obtain⟨r,n,hr,h⟩:=YiT hT hn
 obtain⟨k,ex,e1,p⟩:=YlS (t:=t) hS ⟨hn,by omega⟩ hr h
 obtain⟨k',ex',e2,p'⟩:=YlS (t:=t) (note:=note+12) hS ⟨by omega,hn2⟩ (by rw[Ylw];exact hr) h
 rw[show(note+12)/12-5=note/12-5+1 by omega]at p'
 rw[e1,e2]
 have hrn:=h.rng
 have t2:=YbM h0
 have ho: -5<=note/12-5/\note/12-5<=6:=by omega
 have ho2: -5<=note/12-5+1/\note/12-5+1<=6:=by omega
 obtain⟨p1,p2⟩:=Ylq (o:=note/12-5) h h0 h0
 obtain⟨q1,q2⟩:=Ylq (o:=note/12-5+1) h h0 h0
 obtain⟨P1,P2⟩:=YqZ (a:=a) h h0 ho
 obtain⟨Q1,Q2⟩:=YqZ (a:=a) h h0 ho2
 have posU:=Yas r.a r.b r.c
 have hst:=Yo9 (n:=n) (o:=note/12-5)
 have pa:0<a.toNat^(2*n)*273150^n:=YDv (YDs (by omega)) (YDs (by decide))
 refine YjX p' p (by omega) (by decide) ?_ ?_ (fun j j1 j2=>?_) ?_
 . rw[Q2,q1];exact YDv (YDv (YDs posU) (YDv (Yas _ _ _) (YDs (by omega)))) pa
 . rw[P2,p1];exact YDv (YDv (YDs posU) (YDv (Yas _ _ _) (YDs (by omega)))) pa
 . rw[Ynl h h0 ho,Ynl h h0 ho2,show -(2*(n:Int)*(note/12-5))= -(2*(n:Int)*(note/12-5+1))+2*(n:Int)by grind]
   exact YAQ ⟨j1,j2⟩
 . rw[P1,P2,Q1,Q2,p1,p2,q1,q2]
   generalize UP (2*(n:Int)*(note/12-5+1)) 0 0=E' at*
   generalize UP (2*(n:Int)*(note/12-5)) 0 0=E at*
   generalize UP (-(2*(n:Int)*(note/12-5+1))) 0 0=F' at*
   generalize UP (-(2*(n:Int)*(note/12-5))) 0 0=F at*
   generalize UP r.a r.b r.c^2=U at*
   generalize UP (-r.a) (-r.b) (-r.c)^2=V at*
   generalize(273150+t0).toNat^n=y at*
   generalize a.toNat^(2*n)*273150^n=z at*
   generalize 331300000000^(2*n)=s at*
   generalize 2^(2*n)=c at*
   have e3:V*(F*y)*y*s*(U*(E'*y)*z)=(E'*F)*(V*y*y*s*U*y*z):=by grind
   rw[e3,hst];grind
theorem Yz5{a t0:Int}{T:Tm}(hS:chkS a t0 t0=0)(hT:YY T=0):Yd3 (Yp T) t0 t0 69 a=(a,a):=by
 obtain⟨ha,h0,_⟩:=Yeo hS
 obtain⟨r,n,hr,h⟩:=YiT hT (note:=69) (by decide)
 have hz:r.a=0/\r.b=0/\r.c=0:=by
   obtain⟨k9,r9,_⟩:=YgE hT (show 3<12 by decide)
   rw[show 7*3%12=9 from rfl]at r9
   have hL:=YbS hT
   have hj:=(YeA (s:= -1) (by omega) r9 r9 (by unfold sm;omega) (by unfold sm;omega) (by unfold sm;omega)).2
   have e:(YaJ (Yp T 9) (Yp T 9) (-1)).1=r:=by rw[<-hr];rfl
   rw[e]at hj
   have key:∀{x y:Int},x*Lm T=(y+ -1*y)*r.n->x=0:=fun {x y} hh=>by
     rw[show y+ -1*y=0 by omega,Int.zero_mul]at hh
     rcases Int.mul_eq_zero.1 hh with h|h
     . exact h
     . omega
   exact⟨key hj.ha,key hj.hb,key hj.hc⟩
 obtain⟨k,ex,e1,p⟩:=Yix hS (by decide) hr h
 rw[show(69:Int)/12-5=0 by decide]at p
 obtain⟨p1,p2⟩:=Ylq (o:=0) h h0 h0
 have t2:=YbM h0
 have hrn:=h.rng
 have eu:UP r.a r.b r.c=1/\UP (-r.a) (-r.b) (-r.c)=1:=by
   rw[hz.1,hz.2.1,hz.2.2];exact⟨rfl,rfl⟩
 have ez:UP (2*(n:Int)*0) 0 0=1/\UP (-(2*(n:Int)*0)) 0 0=1:=by
   rw[Int.mul_zero];exact⟨rfl,rfl⟩
 have hY:0<dnP (lstF r n 0 t0 t0):=by
   rw[p2,eu.2,ez.2];exact YDv (by decide) (YDv (by decide) (YDs (by omega)))
 obtain⟨hk,hex⟩:=p.exact (v:=a.toNat) (by omega) hY (by omega) (by omega) (by rw[p1,p2,eu.1,eu.2,ez.1,ez.2])
 rw[e1,hk,hex]
 unfold Yfd
 rw[if_pos rfl,YDr (by omega)]
set_option maxHeartbeats 8000000
def v17:VF:=⟨48,[.tmp 0],(ZR [u1 0 .mov [.cn (.bool false)]] (ZR [u1 8 (.call 46) [.cn (.int .i64 15000)],u1 9 (.call 47) [.cn (.val (.string ⟨#[101,113,117,97,108]⟩))],u1 10 (.call 8) [.tm 8,.tm 9,.cn (.int .i64 60)],Zm 7 10,Ze 11 0 7,Ze 12 1 7,Zn 1,Zs 2 1 11,Zm 2 12] (ZR [u1 14 (.call 46) [.cn (.int .i64 20000)],u1 15 (.call 47) [.cn (.val (.string ⟨#[101,113,117,97,108]⟩))],u1 16 (.call 8) [.tm 14,.tm 15,.cn (.int .i64 69)],Zm 13 16,Ze 17 0 13,Ze 18 1 13,Zn 3,Zs 2 3 17,Zm 4 18] (ZR [u1 20 (.call 46) [.cn (.int .i64 20000)],Zc 21 20 20,Zm 19 21,Ze 22 0 19,Ze 23 1 19,Zm 5 22,Zm 6 23] (ZR [Zm 24 2,Zq 25 .eql 24 0,Zm 26 25,Zg 27 26 true 4,u2 28 26 true (.cmp .eql) [.tm 27,.cn (.int .i64 0)],u1 29 .and [.tm 26,.tm 28],Zm 30 29,Zg 31 30 true 6,u2 32 30 true (.cmp .eql) [.tm 31,.cn (.int .i64 0)],u1 33 .and [.tm 30,.tm 32],Zm 34 33,u2 35 34 true (.load true 2) [.tm 1],u2 36 34 true (.build [(.int .i64 0),(.int .i64 0)] [(0,1),(1,1)]) [.cn (.int .i64 261625),.cn (.int .i64 261626)],u2 37 34 true (.eqv false [true,true]) [.tm 35,.tm 36],u1 38 .and [.tm 34,.tm 37],Zm 39 38,u2 40 39 true (.load true 2) [.tm 3],u2 41 39 true (.build [(.int .i64 0),(.int .i64 0)] [(0,1),(1,1)]) [.cn (.int .i64 443801),.cn (.int .i64 443802)],u2 42 39 true (.eqv false [true,true]) [.tm 40,.tm 41],u1 43 .and [.tm 39,.tm 42],Zm 44 43,Zg 45 44 true 5,u2 46 44 true (.cmp .eql) [.tm 45,.cn (.int .i64 14891)],u1 47 .and [.tm 44,.tm 46],Zm 0 47] .ret)))))⟩
theorem YCb:Yh YCZ Tryz.f17=some v17:=by kernel_rfl
def v16:VF:=⟨23,[.tmp 4],(ZR [u1 2 .box [.tm 0],u1 4 .mov [.cn (.bool false)]] (ZR [Za 5 0 2,Zt 6 3 5,Zc 7 44 6,Zq 8 .eql 7 0,Zm 9 8,Zj 10 9 true 3 2,u2 11 9 true (.load true 27) [.tm 10],u2 12 9 true (.call 45) [.tm 11],u2 13 9 true (.cmp .eql) [.tm 12,.cn (.int .i64 0)],u1 14 .and [.tm 9,.tm 13],Zm 15 14,Zg 16 15 true 1,u2 17 15 true (.cmp .geq) [.tm 16,.cn (.int .i64 0)],u1 18 .and [.tm 15,.tm 17],Zm 19 18,Zg 20 19 true 1,u2 21 19 true (.cmp .leq) [.tm 20,.cn (.int .i64 139)],u1 22 .and [.tm 19,.tm 21],Zm 4 22] .ret))⟩
theorem YCa:Yh YCZ Tryz.f16=some v16:=by kernel_rfl
def v19:VF:=⟨75,[.tmp 4],(ZR [u1 2 .box [.tm 0],u1 3 .box [.tm 1],u1 4 .mov [.cn (.bool false)]] (ZR [Za 5 0 2,Zf 6 1 5,Za 7 1 2,Zf 8 1 7,Zr 9 .leq 6 8,Zm 10 9,Zj 11 10 true 0 3,Zh 12 10 true 1 11,Zj 13 10 true 1 3,Zh 14 10 true 1 13,u2 15 10 true (.cmp .leq) [.tm 12,.tm 14],u1 16 .and [.tm 10,.tm 15],Zm 17 16,Zj 18 17 true 0 2,Zh 19 17 true 1 18,u2 20 17 true (.cmp .geq) [.tm 19,.cn (.int .i64 0)],u1 21 .and [.tm 17,.tm 20],Zm 22 21,Zj 23 22 true 1 2,Zh 24 22 true 1 23,u2 25 22 true (.cmp .lss) [.tm 24,.cn (.int .i64 1099511627776)],u1 26 .and [.tm 22,.tm 25],Zm 27 26,Zj 28 27 true 0 3,Zh 29 27 true 1 28,Zj 30 27 true 0 2,Zh 31 27 true 1 30,u2 32 27 true (.ari .mul) [.cn (.int .i64 2),.tm 31],u2 33 27 true (.cmp .eql) [.tm 29,.tm 32],Zg 34 27 true 33,Zj 35 34 false 0 3,Zh 36 34 false 1 35,Zj 37 34 false 0 2,Zh 38 34 false 1 37,u2 39 34 false (.ari .mul) [.cn (.int .i64 2),.tm 38],u2 40 34 false (.ari .add) [.tm 39,.cn (.int .i64 1)],u2 41 34 false (.cmp .eql) [.tm 36,.tm 40],u2 42 27 true .or [.tm 34,.tm 41],u1 43 .and [.tm 27,.tm 42],Zm 44 43,Zj 45 44 true 1 3,Zh 46 44 true 1 45,Zj 47 44 true 1 2,Zh 48 44 true 1 47,u2 49 44 true (.ari .mul) [.cn (.int .i64 2),.tm 48],u2 50 44 true (.cmp .eql) [.tm 46,.tm 49],Zg 51 44 true 50,Zj 52 51 false 1 3,Zh 53 51 false 1 52,Zj 54 51 false 1 2,Zh 55 51 false 1 54,u2 56 51 false (.ari .mul) [.cn (.int .i64 2),.tm 55],u2 57 51 false (.ari .sub) [.tm 56,.cn (.int .i64 1)],u2 58 51 false (.cmp .eql) [.tm 53,.tm 57],u2 59 44 true .or [.tm 51,.tm 58],u1 60 .and [.tm 44,.tm 59],Zm 61 60,Zj 62 61 true 0 2,Zh 63 61 true 1 62,Zj 64 61 true 1 2,Zh 65 61 true 1 64,u2 66 61 true (.cmp .lss) [.tm 63,.tm 65],Zg 67 61 true 66,Zj 68 67 false 0 3,Zh 69 67 false 1 68,Zj 70 67 false 1 3,Zh 71 67 false 1 70,u2 72 67 false (.cmp .eql) [.tm 69,.tm 71],u2 73 61 true .or [.tm 67,.tm 72],u1 74 .and [.tm 61,.tm 73],Zm 4 74] .ret))⟩
theorem YCd:Yh YCZ Tryz.f19=some v19:=by kernel_rfl
def v4:VF:=⟨118,[.tmp 4],(ZR [u1 2 .box [.tm 0],u1 4 .mov [.cn (.bool false)]] (.seq (ZR [Zt 15 30 2,Zm 16 1,Zd 17 16 15 16,u1 18 .not [.tm 17],Zm 19 18,u2 20 19 false (.load true 30) [.tm 2],Zg 21 19 false 1,u2 22 19 false (.ari .add) [.tm 21,.cn (.int .i64 12)],u2 23 19 false (.call 16) [.tm 20,.tm 22],u2 24 19 false .not [.tm 23],u1 25 .or [.tm 19,.tm 24]] (ZC 25 (ZR [u1 26 (.call 17) [],Zm 4 26] .ret) .skip)) (ZR [Za 28 0 2,Zt 29 3 28,Za 30 3 2,Zt 31 27 30,Zm 32 1,u1 33 (.call 8) [.tm 29,.tm 31,.tm 32],Zm 27 33,Ze 34 0 27,Ze 35 1 27,Zn 5,Zs 2 5 34,Zm 6 35] (ZR [Za 37 0 2,Zt 38 3 37,Za 39 3 2,Zt 40 27 39,Zm 41 1,Zp 42 41 12,u1 43 (.call 8) [.tm 38,.tm 40,.tm 42],Zm 36 43,Ze 44 0 36,Ze 45 1 36,Zn 7,Zs 2 7 44,Zm 8 45] (ZR [Za 47 0 2,Zt 48 3 47,Za 49 3 2,Zt 50 27 49,Zm 51 1,u1 52 (.call 18) [.tm 48,.tm 50,.tm 51],Zm 46 52,Ze 53 0 46,Ze 54 1 46,Zn 9,Zs 2 9 53,Zm 10 54] (ZR [Za 56 0 2,Zt 57 3 56,Za 58 3 2,Zt 59 27 58,Zm 60 1,Zp 61 60 12,u1 62 (.call 18) [.tm 57,.tm 59,.tm 61],Zm 55 62,Ze 63 0 55,Ze 64 1 55,Zn 11,Zs 2 11 63,Zm 12 64] (ZR [Za 65 0 2,Za 66 1 65,Zf 67 1 66,Za 68 0 2,Za 69 2 68,Zs 1 69 67] (ZR [Za 71 0 2,Zt 72 3 71,Za 73 3 2,Zt 74 27 73,u1 75 (.call 8) [.tm 72,.tm 74,.cn (.int .i64 69)],Zm 70 75,Ze 76 0 70,Ze 77 1 70,Zn 13,Zs 2 13 76,Zm 14 77] (.seq (ZR [Zm 78 6,Zq 79 .neq 78 0,Zm 80 79,Zg 81 80 false 8,u2 82 80 false (.cmp .neq) [.tm 81,.cn (.int .i64 0)],u1 83 .or [.tm 80,.tm 82],Zm 84 83,Zg 85 84 false 10,u2 86 84 false (.cmp .neq) [.tm 85,.cn (.int .i64 0)],u1 87 .or [.tm 84,.tm 86],Zm 88 87,Zg 89 88 false 12,u2 90 88 false (.cmp .neq) [.tm 89,.cn (.int .i64 0)],u1 91 .or [.tm 88,.tm 90],Zm 92 91,Zg 93 92 false 14,u2 94 92 false (.cmp .neq) [.tm 93,.cn (.int .i64 0)],u1 95 .or [.tm 92,.tm 94],Zm 96 95,u2 97 96 false (.load true 2) [.tm 13],Zj 98 96 false 0 2,Zj 99 96 false 0 98,Zh 100 96 false 1 99,Zj 101 96 false 0 2,Zj 102 96 false 0 101,Zh 103 96 false 1 102,u2 104 96 false (.build [(.int .i64 0),(.int .i64 0)] [(0,1),(1,1)]) [.tm 100,.tm 103],u2 105 96 false (.eqv true [true,true]) [.tm 97,.tm 104],u1 106 .or [.tm 96,.tm 105]] (ZC 106 (ZR [u1 4 .mov [.cn (.bool false)]] .ret) .skip)) (ZR [Zt 107 2 5,Zt 108 2 7,Zd 109 19 107 108,Zm 110 109,u2 111 110 true (.load true 2) [.tm 11],u2 112 110 true (.load true 2) [.tm 9],u2 113 110 true (.call 19) [.tm 111,.tm 112],u1 114 .and [.tm 110,.tm 113],Zm 115 114,u2 116 115 true (.call 17) [],u1 117 .and [.tm 115,.tm 116],Zm 4 117] .ret))))))))))⟩
theorem v4_is:Yh YCZ Tryz.f4=some v4:=by kernel_rfl
theorem exf_5:Yd3 (Yp EQ) 15000 15000 60 440000=(261625,261626):=by decide+kernel
theorem exf_6:Yd3 (Yp EQ) 15000 20000 69 440000=(443801,443802):=by decide+kernel
theorem exd_1:drfF 15000 20000=14891:=by decide+kernel
theorem nmE6(m:Bool):(if m=true then MT else EQ).nm.size<=9223372036854775807:=by cases m <;> decide
theorem eqT:YY EQ=0:=by decide+kernel
def UA0:Env:={ ct:=fun n=>match n with|46=>some usu6C|47=>some nmdC|8=>some frq6C|20=>some drfC|_=>none,fn:=fun _=>none,meth:=fun _ _=>none}
theorem YsE:UA0.ct 46=some usu6C:=rfl
theorem YsF:UA0.ct 47=some nmdC:=rfl
theorem Yvl:UA0.ct 8=some frq6C:=rfl
theorem YsD:UA0.ct 20=some drfC:=rfl
theorem Yzn:Yr YCZ UA0:=by
 refine⟨fun f c h=>?_,fun f vf h=>?_,(fun _ _ _ h=>by cases h),by kernel_rfl,(fun _ h=>by cases h)⟩
 . simp only[UA0]at h
   split at h
   . cases h;exact⟨YB9,Tryz.f46,Tryz.func46,by kernel_rfl,by kernel_rfl⟩
   . cases h;exact⟨YAO,Tryz.f47,Tryz.func47,by kernel_rfl,by kernel_rfl⟩
   . cases h;exact⟨YuC,Tryz.f8,Tryz.func8,by kernel_rfl,by kernel_rfl⟩
   . cases h;exact⟨drf_c,Tryz.f20,Tryz.func20,by kernel_rfl,by kernel_rfl⟩
   . cases h
 . cases h
theorem YsO:trueC.ok YCZ 17:=by
 refine Yb Tryz.func17 YCb Yzn 600 trueC fun args k h=>?_
 simp only[trueC]at h
 split at h
 . refine⟨[],trivial,?_⟩
   have h:k (.bool true) []:=h
   dsimp only[v17,YlI,lenT,YsE,YsF,Yvl,YsD,usu6C,nmdC,frq6C,drfC,go_sem,reduceIte,YCS]
   simp only[Yc,YCS,YCU,reduceCtorEq,YCT]
   refine⟨false,rfl,EQ,⟨rfl,nmE6 false,by decide,eqT,by decide⟩,by decide,by decide,false,rfl,EQ,⟨rfl,nmE6 false,by decide,eqT,by decide⟩,by decide,by decide,by decide,by decide,by decide,?_⟩
   rw[exf_5,exf_6,exd_1]
   exact YB h
 . exact h.1.elim
def YvH(a t0 t:Int)(T:Tm):List SV:= .int .i64 a:: .int .i64 t0:: .int .i64 t::encT T
def shp6:List Sh:=[.int .i64,.int .i64,.int .i64,.str,.bool,.int .i64,.int .i64,.int .i64,.int .i64,.int .i64,.int .i64,.int .i64,.int .i64,.int .i64,.int .i64,.int .i64,.int .i64,.int .i64,.int .i64,.int .i64,.int .i64,.int .i64,.int .i64,.int .i64,.int .i64,.int .i64,.int .i64,.int .i64,.int .i64,.int .i64]
def tmOf(nm:ByteArray)(syn:Bool)(w:Int)(l:List Int):Tm:=⟨nm,syn,w,fun i=>(l.getD (2*i) 0,l.getD (2*i+1) 0)⟩
theorem Yz{l:List Sh}{c:List SV}(h:okSL (.int .i64::l) c):∃(x:Int) (r:List SV),c= .int .i64 x::r/\okSL l r:=by
 obtain⟨v,r,rfl,h1,h2⟩:=Ycv h
 obtain⟨a,rfl,_⟩:=YgF h1
 exact⟨a,r,rfl,h2⟩
theorem YsW{cs:List SV}(h:okSL shp6 cs):∃(a t0 t:Int) (T:Tm),cs=YvH a t0 t T/\T.nm.size<=maxLen:=by
 obtain⟨a,r0,e0,h0⟩:=Yz h
 obtain⟨t0,r1,e1,h1⟩:=Yz h0
 obtain⟨t,r2,e2,h2⟩:=Yz h1
 obtain⟨v3,r3,e3,⟨nm,u3,hnm⟩,h3⟩:=Ycv h2
 obtain⟨v4,r4,e4,⟨syn,u4⟩,h4⟩:=Ycv h3
 obtain⟨w,r5,e5,h5⟩:=Yz h4
 obtain⟨x0,r6,e6,h6⟩:=Yz h5
 obtain⟨x1,r7,e7,h7⟩:=Yz h6
 obtain⟨x2,r8,e8,h8⟩:=Yz h7
 obtain⟨x3,r9,e9,h9⟩:=Yz h8
 obtain⟨x4,r10,e10,h10⟩:=Yz h9
 obtain⟨x5,r11,e11,h11⟩:=Yz h10
 obtain⟨x6,r12,e12,h12⟩:=Yz h11
 obtain⟨x7,r13,e13,h13⟩:=Yz h12
 obtain⟨x8,r14,e14,h14⟩:=Yz h13
 obtain⟨x9,r15,e15,h15⟩:=Yz h14
 obtain⟨x10,r16,e16,h16⟩:=Yz h15
 obtain⟨x11,r17,e17,h17⟩:=Yz h16
 obtain⟨x12,r18,e18,h18⟩:=Yz h17
 obtain⟨x13,r19,e19,h19⟩:=Yz h18
 obtain⟨x14,r20,e20,h20⟩:=Yz h19
 obtain⟨x15,r21,e21,h21⟩:=Yz h20
 obtain⟨x16,r22,e22,h22⟩:=Yz h21
 obtain⟨x17,r23,e23,h23⟩:=Yz h22
 obtain⟨x18,r24,e24,h24⟩:=Yz h23
 obtain⟨x19,r25,e25,h25⟩:=Yz h24
 obtain⟨x20,r26,e26,h26⟩:=Yz h25
 obtain⟨x21,r27,e27,h27⟩:=Yz h26
 obtain⟨x22,r28,e28,h28⟩:=Yz h27
 obtain⟨x23,r29,e29,h29⟩:=Yz h28
 have e30:=Ykx h29
 exact⟨a,t0,t,tmOf nm syn w [x0,x1,x2,x3,x4,x5,x6,x7,x8,x9,x10,x11,x12,x13,x14,x15,x16,x17,x18,x19,x20,x21,x22,x23],by rw[e0,e1,e2,e3,u3,e4,u4,e5,e6,e7,e8,e9,e10,e11,e12,e13,e14,e15,e16,e17,e18,e19,e20,e21,e22,e23,e24,e25,e26,e27,e28,e29,e30];rfl,hnm⟩
def dblC:Ctr:={ alias:=false,of:=fun l=>match l with
 | [.agg [.int .i64 a,.int .i64 b],.agg [.int .i64 c,.int .i64 d]]=> .pre ((-1000000000000<=a/\a<=1000000000000)/\ -1000000000000<=b/\b<=1000000000000) (.fin (.bool (dblB (a,b) (c,d))) [])
 |_=> .pre False (.fin (.bool false) [])}
def UD0:Env:={ ct:=fun _=>none,fn:=fun _=>none,meth:=fun _ _=>none}
theorem Yzo:Yr YCZ UD0:=by
 refine⟨fun f c h=>?_,fun f vf h=>?_,(fun _ _ _ h=>by cases h),by kernel_rfl,(fun _ h=>by cases h)⟩
 . cases h
 . cases h
theorem dbl_c:dblC.ok YCZ 19:=by
 refine Yb Tryz.func19 YCd Yzo 300 dblC fun args k h=>?_
 simp only[dblC]at h
 split at h
 . rename_i a b c d
   obtain⟨⟨ha,hb⟩,h⟩:=h
   have h:k (.bool (dblB (a,b) (c,d))) []:=h
   refine⟨[.agg [.int .i64 a,.int .i64 b],.agg [.int .i64 c,.int .i64 d]],by simp [leL,le],?_⟩
   dsimp only[v19,go_sem,reduceIte,YCS]
   simp only[Yc,YCS,YCU,reduceCtorEq,YCT]
   rw[YCX (2*a) (by omega),YCX (2*a+1) (by omega),YCX (2*b) (by omega),YCX (2*b-1) (by omega)]
   exact⟨fun u v=>by rw[u,decide_eq_false v];rfl,fun u v=>by rw[u,decide_eq_false v];rfl,fun u v=>by rw[u,decide_eq_false v];rfl,YB h⟩
 . exact h.1.elim
theorem vw_T(b:Bool)(hp:List HO)(f:List SV->List SV)(T:Tm):Ycf b hp f (encT T)=encT T:=rfl
theorem YnS{k:Nat}(ex:Bool)(h:k+1<2^29):(0<=(Yfd k ex).1/\(Yfd k ex).1<=600000000)/\0<=(Yfd k ex).2/\(Yfd k ex).2<=600000000:=by
 unfold Yfd
 split <;> simp only <;> omega
theorem sp_T(T:Tm):YJ (encT T) 0 []=encT T:=rfl
def UO0:Env:={ ct:=fun n=>match n with|19=>some dblC|44=>some chkSC|45=>some chk5A|8=>some frq6C|18=>some wavC|17=>some trueC|_=>none,fn:=fun n=>match n with|16=>some v16|_=>none,meth:=fun _ _=>none}
theorem Ymx:UO0.ct 19=some dblC:=rfl
theorem Ymy:UO0.ct 44=some chkSC:=rfl
theorem Ymz:UO0.ct 45=some chk5A:=rfl
theorem Yo8:UO0.ct 8=some frq6C:=rfl
theorem Ymw:UO0.ct 18=some wavC:=rfl
theorem Ymv:UO0.ct 17=some trueC:=rfl
theorem Ymu:UO0.ct 16=none:=rfl
theorem YmA:UO0.fn 16=some v16:=rfl
theorem Yzp:Yr YCZ UO0:=by
 refine⟨fun f c h=>?_,fun f vf h=>?_,(fun _ _ _ h=>by cases h),by kernel_rfl,(fun _ h=>by cases h)⟩
 . simp only[UO0]at h
   split at h
   . cases h;exact⟨dbl_c,Tryz.f19,Tryz.func19,by kernel_rfl,by kernel_rfl⟩
   . cases h;exact⟨YzO,Tryz.f44,Tryz.func44,by kernel_rfl,by kernel_rfl⟩
   . cases h;exact⟨YvJ,Tryz.f45,Tryz.func45,by kernel_rfl,by kernel_rfl⟩
   . cases h;exact⟨YuC,Tryz.f8,Tryz.func8,by kernel_rfl,by kernel_rfl⟩
   . cases h;exact⟨wav_c,Tryz.f18,Tryz.func18,by kernel_rfl,by kernel_rfl⟩
   . cases h;exact⟨YsO,Tryz.f17,Tryz.func17,by kernel_rfl,by kernel_rfl⟩
   . cases h
 . simp only[UO0]at h
   split at h
   . cases h;exact⟨Tryz.f16,Tryz.func16,YCa,Tryz.f16,Tryz.func16,by kernel_rfl,by kernel_rfl⟩
   . cases h
theorem YAi:(lawC [⟨true,shp6⟩,⟨false,[.int .i64]⟩]).ok YCZ 4:=by
 refine Yb Tryz.func4 v4_is Yzp 900 (lawC [⟨true,shp6⟩,⟨false,[.int .i64]⟩]) fun args k h=>?_
 obtain⟨ha,hk⟩:=h
 obtain⟨_,_,rfl,h1,e1⟩:=YeG ha
 obtain⟨cs,rfl,g1⟩:=Yly h1
 obtain⟨a,t0,t,T,rfl,hnm⟩:=YsW g1
 obtain⟨_,_,rfl,h2,e2⟩:=YeG e1
 obtain⟨note,rfl,hw⟩:=YgF (Ylz h2)
 cases Ykw e2
 have hk':k (.bool true) []:=hk
 have hm:T.nm.size<=9223372036854775807:=YDb hnm (by unfold maxLen;decide)
 refine⟨[.agg (YvH a t0 t T),.int .i64 note],?_,?_⟩
 . refine⟨Yi _ ⟨trivial,trivial,trivial,?_⟩,⟨rfl,rfl⟩,trivial⟩
   exact Yak T _
 dsimp only[v4,YvH,YlI,lenT,Ymy,Ymz,Yo8,Ymw,Ymv,Ymu,YmA,v16,Ymx,dblC,chkSC,chk5A,frq6C,wavC,trueC,go_sem,reduceIte,YCS]
 simp only[Yc,YCS,YCU,reduceCtorEq,YCT]
 simp only[vw_T]
 refine⟨YbB T,YbB T,T,fun _=>⟨rfl,hm⟩,fun _=>⟨YbB T,T,fun _=>⟨rfl,hm⟩,fun hc=>?_,fun hc=>?_⟩,fun hc=>?_⟩
 . exact YB hk'
 . have hg:chkS a t0 t=0/\YY T=0/\0<=note/\note<=139/\0<=IntKind.i64.wrap (note+12)/\IntKind.i64.wrap (note+12)<=139:=by
     simp only[YDt,Bool.not_eq_false',YC2,decide_eq_true_eq]at hc
     obtain⟨⟨⟨⟨c1,c2⟩,c3⟩,c4⟩,⟨⟨c5,c6⟩,c7⟩,c8⟩:=hc
     exact⟨c1,c2,c3,c4,c7,c8⟩
   obtain⟨hS,hT,n0,n1,n2,n3⟩:=hg
   rw[YCX (note+12) (by omega)]at n2 n3⊢
   have hS0:chkS a t0 t0=0:=by
     obtain⟨ha',hb0,hb1⟩:=Yeo hS
     unfold chkS
     rw[if_neg]
     rw[hb0];simp;omega
   simp only[sp_T,vw_T,lenT]
   refine⟨T,⟨rfl,hm,hS,hT,n0,n1⟩,by decide,by decide,T,⟨rfl,hm,hS,hT,n2,n3⟩,by decide,by decide,T,⟨rfl,hm,hS,hT,n0,n1⟩,by decide,by decide,T,⟨rfl,hm,hS,hT,n2,n3⟩,by decide,by decide,by decide,T,⟨rfl,hm,hS0,hT,by decide,by decide⟩,?_⟩
   obtain⟨r,n,hr,hnr⟩:=YiT hT n0
   obtain⟨k1,x1,f1,p1⟩:=Yix hS ⟨n0,n1⟩ hr hnr
   obtain⟨k2,x2,f2,p2⟩:=YlS (t:=t) (note:=note+12) hS ⟨by omega,n3⟩ (by rw[Ylw];exact hr) hnr
   have b1:=YnS x1 p1.lt
   have b2:=YnS x2 p2.lt
   rw[<-f1]at b1
   rw[<-f2]at b2
   have o1:dblB ((Yd3 (Yp T) t0 t note a).1,(Yd3 (Yp T) t0 t note a).2) ((Yd3 (Yp T) t0 t (note+12) a).1,(Yd3 (Yp T) t0 t (note+12) a).2)=true:=Yv6 hS hT n0 n3
   have o2:dblB ((wavF (Yp T) a t0 (note+12)).1,(wavF (Yp T) a t0 (note+12)).2) ((wavF (Yp T) a t0 note).1,(wavF (Yp T) a t0 note).2)=true:=YyC hS hT n0 n3
   have e69:=Yz5 hS0 hT
   rw[o1,o2,e69]
   refine⟨by decide,by decide,fun hb=>?_,fun _=>⟨⟨⟨by omega,by omega⟩,by omega,by omega⟩,fun _=>⟨⟨by omega,by omega⟩,by omega,by omega⟩,YB hk'⟩⟩
   simp at hb
 . refine⟨by simpa using hc,.bool false,?_⟩
   dsimp only[YlI,lenT,Ymy,Ymz,Yo8,Ymw,Ymv,Ymu,YmA,v16,Ymx,dblC,chkSC,chk5A,frq6C,wavC,trueC,go_sem,reduceIte,YCS]
   simp only[Yc,YCS,YCU,reduceCtorEq,YCT]
   refine⟨fun _=>YB hk',fun hh=>?_⟩
   have hx:(decide (chkS a t0 t=0)&&decide (YY T=0)&&decide (0<=note)&&decide (note<=139))=false:=by simpa using hc
   rw[hx]at hh
   exact absurd hh (by decide)
end Go.Proofs.YtfjodiojchknmaaGreatDoor
namespace Go.Vx
open Go Go.RowKit Go.ChangeShapes Go.WideShapes Go.ChangeAt Go.WideMaps Go.WideElems
def primesL:List Int:=[2,3,5,7,11,13]
def Ydb:DataW Unit:= .agg [.lit (.int .i64 2),.lit (.int .i64 3),.lit (.int .i64 5),.lit (.int .i64 7),.lit (.int .i64 11),.lit (.int .i64 13)]
theorem Yj8{P:Program}{W:World}{g:Nat}{T el:TypeId}(hg:P.globalNamed "quintadena/ratios.primes" =some g)(hT:(P.globals[g]?).map (·.type)=some T)
   (hu:P.underlying T=some (.array 6 el)) (he:P.underlying el=some (.int .i64)) (hc:P.cellsOf el=1) (hp:laidMetH P [("quintadena/ratios.primes",Ydb)] W):
   Cells W g 0 (gloV primesL):=by
 rw[MakeChecks.laidMetH_plain _ _ _ (by kernel_rfl)]at hp
 obtain⟨ps,⟨g1,t1,cs1,f1,p1,q1,hg1,ht1,hv1,hd1,h1⟩,h2⟩:=hp
 obtain rfl:=Option.some.inj (hg.symm.trans hg1)
 obtain rfl:=Option.some.inj (hT.symm.trans ht1)
 obtain⟨xs,m1,rfl,hx1,hlen,hn3,hel⟩:=DataW.trod_array hu hd1
 have hcell:∀k,k<6->cs1[k]? =some (.int .i64 (primesL.getD k 0)):=by
   intro k hk
   have h3:=hel k hk
   obtain⟨x,hx⟩:∃x,xs[k]? =some x:=⟨xs[k]'(by omega),by simp⟩
   rw[hx,hc,YDU]at h3
   obtain⟨v,e1,e2,_⟩:=DataW.trod_int he h3
   have e3:(cs1.toList.drop k)[0]? =some (.int .i64 v):=by
     have:((cs1.toList.drop k).take 1)[0]? =some (.int .i64 v):=by rw[e1];rfl
     simpa using this
   have e4:cs1[k]? =some (.int .i64 v):=by simpa using e3
   rw[e4]
   simp only[Prod.mk.injEq]at hx1
   have e5:(DataW.lit (.int .i64 (primesL.getD k 0)):DataW Unit)=x.1:=by
     have e6:(xs.map (·.1))[k]? =some x.1:=by simp [hx]
     have e7:=hx1.1
     simp only[Ydb,DataW.agg.injEq]at e7
     rw[<-e7]at e6
     match k,hk,e6 with
     |0,_,e6|1,_,e6|2,_,e6|3,_,e6|4,_,e6|5,_,e6=>exact Option.some.inj e6
   rw[e2]at e5
   simp only[DataW.lit.injEq,Lit.int.injEq]at e5
   rw[e5.2]
 unfold World.var? at hv1
 rw[hg]at hv1
 simp only[Option.bind_some]at hv1
 split at hv1
 . rename_i cs T' fz ho
   cases hv1
   refine⟨cs1,T',fz,ho,fun j v hj=>?_⟩
   have hj6:j<6:=by
     have:=(List.getElem?_eq_some_iff.1 hj).1
     simpa [gloV,primesL]using this
   rw[YDO,hcell j hj6]
   match j,hj6,hj with
   |0,_,hj|1,_,hj|2,_,hj|3,_,hj|4,_,hj|5,_,hj=>exact hj
 . cases hv1
theorem Ykj{g:Nat}{T el:TypeId}{C:Checked}{f:FuncId}{fn:Func}{s:ChangeSpec}{dom:List PathCond}{os:Os}{H:Type}{enc:TypeId×Value->H}{shs:List PSh}{tb:TypeId}
   (own:ownKnob C.prog.godebug=none)(started:os.Started)(noInit:C.prog.inits.idxOf? f=none)(hfn:C.prog.funcs[f]? =some fn)(hl:laidOutB C.prog=true)
   (witness:∃(w:World) (tape:Tape) (i:Input),w.os=os/\(w.forCall tape i).Shaped C.prog/\i.vars=[]/\Input.okWide C.prog (w.forCall tape i) .any w.heap.size f i/\
     ((s.pre enc C.prog fn dom false (w.forCall tape i).memory i.args/\laidMetH C.prog [("quintadena/ratios.primes",Ydb)] (w.forCall tape i).memory)/\sizedMet enc C.prog fn (OpenSpec.ofChange s) false (w.forCall tape i).memory i.args)/\({}:Assume).holds C.prog (lone (Frame.enter C.prog f i.args .normal) [] (w.forCall tape i)))
   (hsh:YkB C.prog fn.params.toList=some shs)(hread:Yxn C.prog fn.params.toList=true)(hres:fn.resultTypes.toList=[tb])(htb:C.prog.underlying tb=some .bool)(hvars:s.vars=[])
   (hspec:∀ds:List (DataW H),ds.length=fn.params.toList.length->(s.fn H ds).results=[.lit (.bool true)]/\(s.fn H ds).args=ds/\(s.fn H ds).vars=[])(hc:(lawC shs).ok C.prog f)(hg:C.prog.globalNamed "quintadena/ratios.primes" =some g)(hT:(C.prog.globals[g]?).map (·.type)=some T) (hu:C.prog.underlying T=some (.array 6 el)) (he:C.prog.underlying el=some (.int .i64)) (hce:C.prog.cellsOf el=1):
   ReturnsInHanded {} C os f .any (fun w args=>(s.pre enc C.prog fn dom false w args/\laidMetH C.prog [("quintadena/ratios.primes",Ydb)] w)/\sizedMet enc C.prog fn (OpenSpec.ofChange s) false w args) (s.post enc C.prog fn false true false false):=by
 refine returnsInHanded_of_change_and (X:=fun w _=>laidMetH C.prog [("quintadena/ratios.primes",Ydb)] w) (fun _ _ _ hh h=>h.of_heap hh) own started noInit hfn witness ?_
 intro W base args ds gs before hval hW hcnd _ hL _
 obtain⟨p,q,hA,hV,hbef,hfz,hnd⟩:=id hW
 have hlen:=YgW hA
 rw[hvars]at hV
 obtain⟨rfl,rfl⟩:=trodVars_none hV
 obtain⟨svs,k1,k2⟩:=YhI (B:=W.heap.size) hsh (fun j t v ht hv=>hval j t v (by simpa using ht) (by simpa using hv)) hA
 have hcall:=hc svs args.toList (cx0 W) (fun r hs=>r= .bool true) ⟨fun b K h=>(by cases h),fun g' l h=>by
   have hcl:=Yj8 hg hT hu he hce hL
   unfold glob at h
   split at h
   . rename_i hg'
     cases h
     obtain rfl:=Option.some.inj (hg.symm.trans hg')
     obtain⟨cs,T',fz,ho,_⟩:=id hcl
     exact⟨(YDl.1 ho).1,trivial,hcl⟩
   . cases h⟩ k1 ⟨k2,rfl⟩
 simp only[Array.toArray_toList]at hcall
 refine hcall.mono fun e W' h=>?_
 obtain⟨r,hs,v,bs,J,hJ,rfl,rfl,hr,_,hbI,_⟩:=h
 have hb:Below W.heap.size W W':=⟨hbI.os,hbI.tape,hbI.output,hbI.size,fun k hk=>hbI.block k hk rfl⟩
 have hv:=hr.bool_inv
 subst hv
 obtain⟨s1,s2,s3⟩:=hspec ds hlen
 refine⟨_,rfl,ds,[],before,[],p,[],hW,?_,?_,?_,hb.frame _,fun h=>by cases h⟩
 . rw[List.append_nil,s1,hres]
   have hsz:fn.resultTypes.size=1:=by rw[<-Array.length_toList,hres];rfl
   have:(Value.bool true).resultList fn.resultTypes.size=[.bool true]:=by rw[hsz];rfl
   rw[this]
   exact trodAll_mk1 (shut_bool htb true)
 . rw[List.append_nil,s2]
   exact Yfr hl hb hread hA
 . rw[List.append_nil,s3,hvars];rfl
end Go.Vx
namespace Go.Vx
open Go Go.RowKit Go.ChangeShapes Go.WideShapes Go.ChangeAt Go.WideMaps Go.WideElems
end Go.Vx
namespace Go.Proofs.YtfjodiojchknmaaGreatDoor
open Go Go.Vx Go.RowKit
set_option maxRecDepth 100000
theorem YAW:ownKnob YCZ.godebug=none:=by kernel_rfl
theorem Ywo:laidOutB YCZ=true:=by kernel_rfl
theorem gPr37:YCZ.globalNamed "quintadena/ratios.primes" =some 0:=by kernel_rfl
theorem tPr37:(YCZ.globals[0]?).map (·.type)=some 167:=by kernel_rfl
theorem uPr37:YCZ.underlying 167=some (.array 6 2):=by kernel_rfl
theorem ePr37:YCZ.underlying 2=some (.int .i64):=by kernel_rfl
theorem cPr37:YCZ.cellsOf 2=1:=by kernel_rfl
theorem YzW(os:Os)(args:Array Value):laidMetH YCZ [("quintadena/ratios.primes",Ydb)] ((World.doorLaid YCZ 400 os).forCall (fun _ _=>0) ⟨#[],args,[]⟩).memory:=
 laidMetH_of_parts3 (fuel:=8) (laidMet_of_run' 8 (by kernel_rfl) (by kernel_rfl)) (by kernel_rfl) (by kernel_rfl)
theorem Yeb(os:Os)(started:os.Started)(H:Type)(enc:TypeId×Value->H):
   ReturnsInHanded {} Tryz.checked os 4 .any (fun w args=>(Rows.pitchOctavesSpec.pre enc YCZ Tryz.f4 [] false w args/\laidMetH YCZ [("quintadena/ratios.primes",Ydb)] w)/\sizedMet enc YCZ Tryz.f4 (OpenSpec.ofChange Rows.pitchOctavesSpec) false w args)
     (Rows.pitchOctavesSpec.post enc YCZ Tryz.f4 false true false false):=
 Ykj (C:=Tryz.checked) (tb:=4) YAW started (by kernel_rfl) Tryz.func4 Ywo
   (ChangeSpec.witness_shaped (enc:=enc) (C:=Tryz.checked) (os:=os) (X:=fun w _=>laidMetH YCZ [("quintadena/ratios.primes",Ydb)] w) false (World.doorLaid YCZ 400 os) #[.agg #[.int .i64 0,.int .i64 0,.int .i64 0,.string ⟨#[]⟩,.bool false,.int .i64 0,.int .i64 0,.int .i64 0,.int .i64 0,.int .i64 0,.int .i64 0,.int .i64 0,.int .i64 0,.int .i64 0,.int .i64 0,.int .i64 0,.int .i64 0,.int .i64 0,.int .i64 0,.int .i64 0,.int .i64 0,.int .i64 0,.int .i64 0,.int .i64 0,.int .i64 0,.int .i64 0,.int .i64 0,.int .i64 0,.int .i64 0,.int .i64 0],.int .i64 0] 8 rfl (World.shaped_of_RefB (by kernel_rfl) (by kernel_rfl)) (by kernel_rfl) (by kernel_rfl) (by kernel_rfl) (YzW os _))
   (by kernel_rfl) (by kernel_rfl) (by kernel_rfl) (by kernel_rfl) rfl (fun ds h=>match ds,h with| [_,_],_=>⟨rfl,rfl,rfl⟩) YAi gPr37 tPr37 uPr37 ePr37 cPr37
theorem Yfa:Rows.PitchOctavesSaid:=
 OpenClaim.holds_of_wide 4 Tryz.f4 rfl rfl rfl rfl rfl rfl rfl ⟨rfl,rfl,rfl,rfl,rfl⟩ rfl rfl rfl rfl rfl (by kernel_rfl) Tryz.func4 (by kernel_rfl)
   (of_decide_eq_true (by kernel_rfl)) (by unfold Func.isWrapper;first| (rw[if_pos (by decide+kernel)];kernel_rfl) | (rw[if_neg (by decide+kernel)];exact⟨rfl,rfl⟩))
   (fun os started H enc _=>Yeb os started H enc)
theorem pitchOctaves_holds:Rows.PitchOctavesCardSaid:=
 Claim7.holds_tied_plain_at .later [] [.data] true (true, "0c962a7de201b333494358a9e6881a4611c9eb42a14a790af7658f72a7e712a7") false
   Yfa (fun _ h=>by cases h) (by kernel_rfl) (fun _ h=>by cases h) pitchOctaves_row_tie rfl ⟨rfl,rfl⟩ (by kernel_rfl) rfl
   (fun f fn hf hfn=>by
     obtain rfl:f=4:=Option.some.inj ((show YCZ.funcNamed Rows.pitchOctavesRow.func=some 4 by kernel_rfl).symm.trans hf) |>.symm
     obtain rfl:fn=Tryz.f4:=(Option.some.inj (Tryz.func4.symm.trans hfn)).symm
     exact⟨by kernel_rfl,fun j t ht=>by
       have hall:(Tryz.f4.params.toList.all fun u=>!YCZ.wantsStandIn u)=true:=by kernel_rfl
       have hm:t∈Tryz.f4.params.toList:=Array.mem_toList_iff.2 (Array.mem_of_getElem? ht)
       exact(show YCZ.wantsStandIn t=false by simpa using List.all_eq_true.1 hall t hm)⟩)
   (by kernel_rfl)
end Go.Proofs.YtfjodiojchknmaaGreatDoor
