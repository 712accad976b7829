/- Roots of 2 one after the other, evaluated: none is nearly a whole number, but for powers of 2. -/
import Derived.Test.YtfjodiojchknmaaGreatDoorMgX39e
import Derived.Test.YtfjodiojchknmaaGreatDoorMgX39g
import Derived.Test.YtfjodiojchknmaaGreatDoorProg
import Derived.Test.YtfjodiojchknmaaGreatDoorMgX39d
open And renaming intro->YHd
open Bool renaming and_eq_true->YG2,false_eq_true->YHm,not_eq_true'->YHn,or_eq_false_iff->YHq,or_eq_true->YHB
open Int renaming le_refl->YHS,mul_comm->YH9,mul_le_mul_of_nonneg_left->YHb,mul_le_mul_of_nonneg_right->YHj,mul_nonneg->YG7,natCast_mul->YHZ,toNat_natCast->YG0,toNat_of_nonneg->YHs
open Go.IntWalk renaming i64_in->YGZ
open List renaming getD_eq_getElem?_getD->YG9,getElem?_append_left->YHP,length_append->YHW,mem_append->YHz,mem_map->YIa,mem_singleton->YHF
open Nat renaming add_mul->YHr,div_add_mod->YHH,div_mul_le_self->YHU,eq_zero_or_pos->YHR,gcd->YH6,le_of_ble_eq_true->YHJ,le_of_eq->YH2,le_of_mul_le_mul_right->YHp,le_refl->YG8,le_trans->YHc,lt_of_le_of_lt->YHG,lt_of_lt_of_le->YHM,lt_or_ge->YHE,mod_lt->YHT,mul_add->YH7,mul_assoc->YG6,mul_comm->YG4,mul_le_mul->YHi,mul_le_mul_left->YG5,mul_le_mul_right->YG3,mul_left_comm->YHw,mul_one->YH8,mul_pos->YHX,mul_pow->YHy,one_mul->YHN,pow_add->YHa,pow_le_pow_left->YHe,pow_le_pow_right->YHl,pow_mul->YHf,pow_pos->YHO,pow_succ->YHo,reduceAdd->YGU,reduceEqDiff->YGV,reduceLeDiff->YGW,zero_add->YH0
open Go.Proofs.Tryz renaming prog->YGY
set_option linter.all false
namespace Go.Proofs.YtfjodiojchknmaaGreatDoor
open Go Go.Vx
def upR(R:Nat):Nat->Nat->Nat
 |0,u=>u
 |i+1,u=>upR R i (u*u/R+1)
def dnR(R:Nat):Nat->Nat->Nat
 |0,u=>u
 |i+1,u=>dnR R i (u*u/R)
theorem Ydn(a i:Nat):a^(2^(i+1))=(a*a)^(2^i):=YoL a i
theorem Yxv{R:Nat}(hR:0<R):∀(i u X Y:Nat),X*R<=u*Y->X^(2^i)*R<=upR R i u*Y^(2^i)
 |0,u,X,Y,h=>by simpa [upR]using h
 |i+1,u,X,Y,h=>by
   rw[upR,Ydn,Ydn]
   refine Yxv hR i _ _ _ ?_
   refine YHp (c:=R) ?_ hR
   have k:=YHi h h
   have k0:u*u<=(u*u/R+1)*R:=by
     have:=YHH (u*u) R
     have h3:=YHT (u*u) hR
     rw[YHr,YHN,YG4 (u*u/R)];omega
   have k1:=YG3 (Y*Y) k0
   have e1:X*R*(X*R)=X*X*R*R:=by simp only[YG6,YHw]
   have e2:u*Y*(u*Y)=u*u*(Y*Y):=by simp only[YG6,YHw]
   have e3:(u*u/R+1)*(Y*Y)*R=(u*u/R+1)*R*(Y*Y):=Nat.mul_right_comm ..
   omega
theorem YwN{R:Nat}(hR:0<R):∀(i u X Y:Nat),u*Y<=X*R->dnR R i u*Y^(2^i)<=X^(2^i)*R
 |0,u,X,Y,h=>by simpa [dnR]using h
 |i+1,u,X,Y,h=>by
   rw[dnR,Ydn,Ydn]
   refine YwN hR i _ _ _ ?_
   refine YHp (c:=R) ?_ hR
   have k:=YHi h h
   have k1:=YG3 (Y*Y) (YHU (u*u) R)
   have e1:X*R*(X*R)=X*X*R*R:=by simp only[YG6,YHw]
   have e2:u*Y*(u*Y)=u*u*(Y*Y):=by simp only[YG6,YHw]
   have e3:u*u/R*(Y*Y)*R=u*u/R*R*(Y*Y):=Nat.mul_right_comm ..
   omega
theorem RtJ.up{R J x y m:Nat}(d:Nat)(h:RtJ R J x y m):RtJ R (J+d) x y (m*2^d):=by
 obtain⟨h1,h2⟩:=h
 unfold RtJ
 have k1:=YHe h1 (2^d)
 have k2:=YHe h2 (2^d)
 rw[YHy,<-YHf,<-YHf,<-YHf,<-YHa]at k1 k2
 exact⟨k1,k2⟩
theorem RtJ.le{R J x y m B:Nat}(h:RtJ R J x y m)(hm:m<=B*2^J):x<=2^B*R:=by
 have hQ:=YH J
 rw[<-Nat.pow_le_pow_iff_left (show 2^J≠0 by omega),YHy,<-YHf]
 exact YHc h.1 (YG3 _ (YHl (by decide) hm))
def sq(n:Nat)(f:Nat->Bool):Bool:=Nat.rec (f 0) (fun k _=>f (Nat.succ k)) n
theorem YvV{J J' n:Nat}(h:YbF J n)(h1:J<=J')(h2:J'<=2048):(lN n 2048).2<=(lN n 2048).1+2^(J'-J)*2^(2048-J'):=by
 rw[<-YHa,show J'-J+(2048-J')=2048-J by omega]
 exact h
theorem YhG:∀q,q<62->YaY ((2^q:Nat):Int)=true:=by decide
def farJ(J n:Nat):Prop:=∀m,¬Near (2^4160) (2^2160) J n m
theorem Yeu{J n:Nat}(hJ:J<=500)(h1:1<=n)(h2:n<2^61)(h:(∃q,n=2^q)\/farJ J n):YbF J n:=by
 rcases YsU h1 (Nat.lt_trans h2 (by decide)) hJ with hn| ⟨hp,m,hm⟩
 . exact hn
 . exfalso
   rcases h with⟨q,hq⟩ |h
   . have hq2:q<61:=(Nat.pow_lt_pow_iff_right (show 1<2 by decide)).1 (by rw[<-hq];exact h2)
     rw[hq,YhG q (by omega)]at hp
     cases hp
   . exact h m hm
end Go.Proofs.YtfjodiojchknmaaGreatDoor
set_option maxRecDepth 100000
namespace Go.Proofs.YtfjodiojchknmaaGreatDoor.LB
theorem YD5{P:Nat}{n a c:Nat}(hP:2*kap^P<=(kap+1)^P)(h:2^c*(kap+1)^a<=n*kap^a):2^(c*P+a)<=n^P:=by
 have h1:=YHe hP a
 have h2:=YHe h P
 rw[YHy,<-YHf,<-YHf]at h1
 rw[YHy,YHy,<-YHf,<-YHf,<-YHf,YG4 a P]at h2
 have hk:0<kap^(P*a):=YHO (by decide)
 refine YHp (c:=kap^(P*a)) ?_ hk
 rw[YHa,YG6]
 exact YHc (YG5 _ h1) h2
theorem YDz{P:Nat}{n b c:Nat}(hP:(kap+2)^P<=2*(kap+1)^P)(h:n*(kap+1)^b<=2^c*(kap+2)^b):n^P<=2^(c*P+b):=by
 have h1:=YHe hP b
 have h2:=YHe h P
 rw[YHy,<-YHf,<-YHf]at h1
 rw[YHy,YHy,<-YHf,<-YHf,<-YHf,YG4 b P]at h2
 have hk:0<(kap+1)^(P*b):=YHO (by decide)
 refine YHp (c:=(kap+1)^(P*b)) ?_ hk
 rw[YHa,YG6]
 exact YHc h2 (YG5 _ h1)
theorem YtW{M W:Nat}:∀k,k*W<=M->(M-k*W)*(M+W)^k<=M^k*M
 |0,_=>by simp
 |k+1,h=>by
   rw[YHr,YHN]at h
   have ih:=YtW (M:=M) (W:=W) k (by omega)
   rw[YHo,YHo]
   obtain⟨x,hx⟩:∃x,M=(k+1)*W+x:=⟨M-(k+1)*W,by rw[YHr,YHN];omega⟩
   have e1:M-(k+1)*W=x:=by omega
   have e2:M-k*W=W+x:=by rw[YHr,YHN]at hx;omega
   rw[e1]
   rw[e2]at ih
   have h3:x*(M+W)<=(W+x)*M:=by
     have:x*(M+W)=x*M+x*W:=YH7 ..
     have:(W+x)*M=W*M+x*M:=YHr ..
     have:x*W<=W*M:=by rw[YG4];exact YG5 W (by omega)
     omega
   have h4:=YG5 ((M+W)^k) h3
   have h5:=YG3 M ih
   generalize(M+W)^k=p at*
   generalize M^k=r at*
   have e3:x*(p*(M+W))=p*(x*(M+W)):=by rw[YHw]
   have e4:p*((W+x)*M)=(W+x)*p*M:=by rw[YHw,YG6]
   omega
theorem YrH{M W:Nat}(hWM:W<=M):∀k,k*W<=M->M^k*(M-k*W)<=(M-W)^k*M
 |0,_=>by simp
 |k+1,h=>by
   rw[YHr,YHN]at h
   have ih:=YrH hWM k (by omega)
   rw[YHo,YHo]
   obtain⟨V,hV⟩:∃V,M=W+V:=⟨M-W,by omega⟩
   have e0:M-W=V:=by omega
   obtain⟨x,hx⟩:∃x,M=(k+1)*W+x:=⟨M-(k+1)*W,by rw[YHr,YHN];omega⟩
   have e1:M-(k+1)*W=x:=by omega
   have e2:M-k*W=W+x:=by rw[YHr,YHN]at hx;omega
   rw[e1,e0]
   rw[e2,e0]at ih
   have h3:M*x<=(W+x)*V:=by
     have:M*x=W*x+V*x:=by rw[hV,YHr]
     have:(W+x)*V=W*V+x*V:=YHr ..
     have:W*x<=W*V:=YG5 W (by rw[YHr,YHN]at hx;omega)
     have:V*x=x*V:=YG4 ..
     omega
   have h4:=YG5 (M^k) h3
   have h5:=YG3 V ih
   generalize V^k=p at*
   generalize M^k=r at*
   have e3:r*M*x=r*(M*x):=YG6 ..
   have e4:r*((W+x)*V)=r*(W+x)*V:=by rw[YG6]
   have e5:p*V*M=p*M*V:=Nat.mul_right_comm ..
   omega
theorem near_pow{M W Z P m:Nat}(hM:2*(P*W)<=M)(hP:1<=P)(hM0:0<M)(h1:2^m*M<=Z*M+2^m*W)(h2:Z*M<=2^m*(M+W)):2^(m*P)<=2*Z^P/\Z^P<=2*2^(m*P):=by
 have hPW:W<=P*W:=Nat.le_mul_of_pos_left W hP
 have u:=YtW (M:=M) (W:=W) P (by omega)
 have d:=YrH (M:=M) (W:=W) (by omega) P (by omega)
 have hMP:0<M^P:=YHO hM0
 have h1':2^m*(M-W)<=Z*M:=by rw[Nat.mul_sub];omega
 have k1:=YHe h1' P
 have k2:=YHe h2 P
 rw[YHy,YHy,<-YHf]at k1 k2
 generalize 2^(m*P)=A at*
 generalize Z^P=B at*
 generalize(M+W)^P=C at*
 generalize(M-W)^P=D at*
 generalize M^P=E at*
 constructor
 . --A E M <=A 2 (M-PW) E <=2 A D M <=2 B E M
   refine YHp (c:=E*M) ?_ (YHX hMP hM0)
   have a1:M<=2*(M-P*W):=by omega
   have a2:=YG5 (A*E) a1
   have a3:=YG5 A d
   have a4:=YG3 M k1
   generalize M-P*W=V at*
   grind
 . refine YHp (c:=E*M) ?_ (YHX hMP hM0)
   have a1:M<=2*(M-P*W):=by omega
   have a2:=YG5 (A*C) a1
   have a3:=YG5 A u
   have a4:=YG3 M k2
   generalize M-P*W=V at*
   grind
theorem pow_of_le{a b:Nat}(h:2^a<=2^b):a<=b:=(Nat.pow_le_pow_iff_right (show 1<2 by decide)).1 h
theorem Yr3{n F J P x y m:Nat}(hxy:y+P+1<=x)(hF:F=J+P)(hJ:J=48)(hP:P=64)(hU:2*kap^(2^F)<=(kap+1)^(2^F))(hL:(kap+2)^(2^F)<=2*(kap+1)^(2^F))(h:Good n)(hm:Near (2^x) (2^y) J n m):False:=by
 obtain⟨a,b,q,l,u,h1,h2⟩:=h
 have k1:=YD5 hU l
 have k2:=YDz hL u
 have e:n^(2^F)=(n^(2^J))^(2^P):=by rw[<-YHf,hF,YHa]
 rw[e]at k1 k2
 have hbig:2*(2^P*2^y)<=2^x:=by
   rw[<-YHa,<-Nat.pow_succ']
   exact YHl (by decide) (by omega)
 obtain⟨g1,g2⟩:=near_pow (P:=2^P) hbig (Nat.two_pow_pos P) (YH x) hm.1 hm.2
 have c1:2^(28*2^F+a)<=2^(m*2^P+1):=by rw[YHo];omega
 have c2:2^(m*2^P)<=2^(28*2^F+b+1):=by rw[YHo];omega
 have d1:=pow_of_le c1
 have d2:=pow_of_le c2
 clear c1 c2 g1 g2 k1 k2 e hm l u hU hL hbig hxy
 subst hJ hP hF
 have:(2:Nat)^(48+64)=2^48*2^64:=YHa ..
 omega
theorem Yvu{n F J P:Nat}(hF:F=J+P)(hJ:J=48)(hP:P=64)(hU:2*kap^(2^F)<=(kap+1)^(2^F))(hL:(kap+2)^(2^F)<=2*(kap+1)^(2^F))(h:Good n):farJ J n:=
 fun _ hm=>Yr3 (by omega) hF hJ hP hU hL h hm
theorem Yvm{J n:Nat}(h:farJ J (2*n)):farJ J n:=by
 intro m hm
 refine h (2^J+m) ?_
 obtain⟨h1,h2⟩:=hm
 unfold Near
 rw[YHy,YHa]
 generalize(2:Nat)^4160=M at*
 generalize(2:Nat)^2160=W at*
 generalize 2^2^J=Q at*
 generalize n^2^J=X at*
 generalize 2^m=R at*
 have k1:=YG5 Q h1
 have k2:=YG5 Q h2
 constructor
 . grind
 . grind
theorem YqV{J:Nat}(h:∀n,2^28<n->n<2^29->farJ J n):∀k n,2^28<=n*2^k->n*2^k<2^29->(∃q,n=2^q)\/farJ J n
 |0,n,h1,h2=>by
   by_cases c:n=2^28
   . exact Or.inl ⟨28,c⟩
   . exact Or.inr (h n (by omega) (by omega))
 |k+1,n,h1,h2=>by
   have e:n*2^(k+1)=2*n*2^k:=by rw[YHo];grind
   rw[e]at h1 h2
   rcases YqV h k (2*n) h1 h2 with⟨q,hq⟩ |hf
   . cases q with
     |zero=>omega
     |succ q=>exact Or.inl ⟨q,by rw[YHo]at hq;omega⟩
   . exact Or.inr (Yvm hf)
theorem YuQ{J:Nat}(h:∀n,2^28<n->n<2^29->farJ J n){n:Nat}(h1:1<=n)(h2:n<2^29):(∃q,n=2^q)\/farJ J n:=by
 have hlog:∃k,2^28<=n*2^k/\n*2^k<2^29:=by
   have:∀j,j<=29->∀n,1<=n->n<2^29->2^(29-j)<=2*n->∃k,2^28<=n*2^k/\n*2^k<2^29:=by
     intro j
     induction j with
     |zero=>intro _ n _ h2 h3;exact⟨0,by omega,by omega⟩
     |succ j ih=>
       intro hj n h1 h2 h3
       by_cases c:2^28<=n
       . exact⟨0,by omega,by omega⟩
       . obtain⟨k,k1,k2⟩:=ih (by omega) (2*n) (by omega) (by omega) (by
           have:29-j=29-(j+1)+1:=by omega
           rw[this,YHo];omega)
         exact⟨k+1,by rw[YHo];grind,by rw[YHo];grind⟩
   exact this 29 (YG8 _) n h1 h2 (by simp;omega)
 obtain⟨k,k1,k2⟩:=hlog
 exact YqV h k n k1 k2
theorem YDl{R d a b:Nat}(hR:0<R)(h:d*a<=b*R)(h2:2*R<=d):2*a<=b:=by
 refine YHp (c:=R) ?_ hR
 have h3:=YG3 a h2
 have e:2*a*R=2*R*a:=Nat.mul_right_comm ..
 omega
theorem YFL{R d a b:Nat}(hR:0<R)(h:a*R<=d*b)(h2:d<=2*R):a<=2*b:=by
 refine YHp (c:=R) ?_ hR
 have h3:=YG3 b h2
 have e:2*b*R=2*R*b:=Nat.mul_right_comm ..
 omega
theorem hU{F:Nat}(hF:F=112):2*kap^(2^F)<=(kap+1)^(2^F):=by
 exact YDl (R:=2037035976334486086268445688409378161051468393665936250636140449354381299763336706183397376) (by decide) (YwN (R:=2037035976334486086268445688409378161051468393665936250636140449354381299763336706183397376) (by decide) F 2037035976334486086268445688409378432986179016867039655483833588404070672507063007306623016 (kap+1) kap (by decide+kernel)) (by rw[hF];decide+kernel)
theorem hL{F:Nat}(hF:F=112):(kap+2)^(2^F)<=2*(kap+1)^(2^F):=by
 exact YFL (R:=2037035976334486086268445688409378161051468393665936250636140449354381299763336706183397376) (by decide) (Yxv (R:=2037035976334486086268445688409378161051468393665936250636140449354381299763336706183397376) (by decide) F 2037035976334486086268445688409378432986179016867039655483833588404034370503710671025638499 (kap+2) (kap+1) (by decide+kernel)) (by rw[hF];decide+kernel)
theorem YDq{F n:Nat}(hF:F=112)(h1:1<=n)(h2:n<2^29):(∃q,n=2^q)\/farJ 48 n:=
 YuQ (fun n a b=>Yvu (F:=F) (P:=64) hF rfl rfl (hU hF) (hL hF) (YuR a b)) h1 h2
theorem far48{n:Nat}(h1:1<=n)(h2:n<2^29):(∃q,n=2^q)\/farJ 48 n:=YDq rfl h1 h2
end Go.Proofs.YtfjodiojchknmaaGreatDoor.LB
namespace Go.Proofs.YtfjodiojchknmaaGreatDoor
theorem YoE{n:Nat}(h1:1<=n)(h2:n<2^29):YbF 48 n:=Yeu (by decide) h1 (Nat.lt_trans h2 (by decide)) (LB.far48 h1 h2)
end Go.Proofs.YtfjodiojchknmaaGreatDoor
namespace Go.Proofs.YtfjodiojchknmaaGreatDoor
open Go Go.Vx
set_option maxRecDepth 100000
theorem Yvn{n J P a b q x y m:Nat}(hxy:y+P+1<=x)(hP:2<=P)(l:2^a<=n^(2^(J+P)))(u:n^(2^(J+P))<=2^b)(h1:q*2^P+2<=a)(h2:b+2<=(q+1)*2^P)(hm:Near (2^x) (2^y) J n m):False:=by
 have e:n^(2^(J+P))=(n^(2^J))^(2^P):=by rw[<-YHf,YHa]
 rw[e]at l u
 have hbig:2*(2^P*2^y)<=2^x:=by
   rw[<-YHa,<-Nat.pow_succ']
   exact YHl (by decide) (by omega)
 obtain⟨g1,g2⟩:=LB.near_pow (P:=2^P) hbig (Nat.two_pow_pos P) (YH x) hm.1 hm.2
 have c1:2^a<=2^(m*2^P+1):=by rw[YHo];omega
 have c2:2^(m*2^P)<=2^(b+1):=by rw[YHo];omega
 have d1:=LB.pow_of_le c1
 have d2:=LB.pow_of_le c2
 have hQ:=YH P
 generalize 2^P=Q at*
 rcases YHE q m with h|h
 . have:=YG3 Q (show q+1<=m from h)
   omega
 . have:=YG3 Q h
   omega
def glT(D f n:Nat):Nat×Nat:=gl (2^D) false f (n*2^(D-lgK n)) (n*2^(D-lgK n)) (lgK n)
theorem Yr1{D f n:Nat}(h1:1<=n)(hD:lgK n<=D):2^(glT D f n).1<=n^(2^f)/\n^(2^f)<=2^(glT D f n).2:=by
 obtain⟨m1,m2,m3⟩:=mant (D:=D) h1 hD
 exact Yj5 _ false (YHO (by decide)) f _ _ _ n (YH2 m3) (YH2 m3.symm) m1 (Nat.le_of_lt m2)
def glOk(D f P n:Nat):Bool:=Nat.ble ((glT D f n).1/2^P*2^P+2) (glT D f n).1&&Nat.ble ((glT D f n).2+2) (((glT D f n).1/2^P+1)*2^P)&&Nat.ble (lgK n) D
theorem Yvt{D J P n:Nat}(hP:2<=P/\P<=1000)(h1:1<=n)(h:glOk D (J+P) P n=true):farJ J n:=by
 intro m hm
 simp only[glOk,YG2]at h
 have a:=YHJ h.1.1
 have b:=YHJ h.1.2
 have c:=YHJ h.2
 obtain⟨l,u⟩:=Yr1 (f:=J+P) h1 c
 exact Yvn (by omega) hP.1 l u a b hm
theorem YiX{D J P n:Nat}(hP:2<=P/\P<=1000)(hJ:J<=500)(h1:1<=n)(h2:n<2^61)(h:glOk D (J+P) P n=true):YbF J n:=Yeu hJ h1 h2 (Or.inr (Yvt hP h1 h))
theorem nar_3:YbF 100 3:=YiX (D:=400) (J:=100) (P:=70) (by decide) (by decide) (by decide) (by decide) (by decide+kernel)
theorem nar_5:YbF 100 5:=YiX (D:=400) (J:=100) (P:=70) (by decide) (by decide) (by decide) (by decide) (by decide+kernel)
theorem nar_7:YbF 100 7:=YiX (D:=400) (J:=100) (P:=70) (by decide) (by decide) (by decide) (by decide) (by decide+kernel)
theorem YEe:YbF 100 11:=YiX (D:=400) (J:=100) (P:=70) (by decide) (by decide) (by decide) (by decide) (by decide+kernel)
theorem YEf:YbF 100 13:=YiX (D:=400) (J:=100) (P:=70) (by decide) (by decide) (by decide) (by decide) (by decide+kernel)
theorem nar_c:YbF 48 331300000000:=YiX (D:=400) (J:=48) (P:=70) (by decide) (by decide) (by decide) (by decide) (by decide+kernel)
theorem Yvr:∀n m:Nat,n^4=2^m->∃q,n=2^q:=by
 intro n
 induction n using Nat.strongRecOn with
 |_ n ih=>
   intro m h
   by_cases h1:n<=1
   . refine⟨0,?_⟩
     rcases(show n=0\/n=1 by omega)with rfl|rfl
     . have:=YH m
       simp at h
       omega
     . rfl
   . have hm:4<=m:=by
       refine Nat.le_of_not_lt fun hh=>?_
       have a:=YHe (show 2<=n by omega) 4
       have b:(2:Nat)^m<2^4:=(Nat.pow_lt_pow_iff_right (by decide)).2 hh
       omega
     obtain⟨d,rfl⟩:∃d,m=d+4:=⟨m-4,by omega⟩
     rw[YHa]at h
     have hev:n%2=0:=by
       refine Classical.byContradiction fun ho=>?_
       obtain⟨j,rfl⟩:∃j,n=2*j+1:=⟨n/2,by omega⟩
       have e:(2*j+1)^4=2*(8*j^4+16*j^3+12*j^2+4*j)+1:=by grind
       omega
     obtain⟨j,rfl⟩:∃j,n=2*j:=⟨n/2,by omega⟩
     rw[YHy]at h
     have h2:j^4=2^d:=by omega
     obtain⟨q,hq⟩:=ih j (by omega) d h2
     exact⟨q+1,by rw[hq,YHo,YG4]⟩
theorem YmY{n x y d m:Nat}(hx:x=y+d)(hd:250<=d)(h2:n<2^41)(hm:Near (2^x) (2^y) 2 n m):∃q,n=2^q:=by
 obtain⟨a,b⟩:=hm
 have hW:=YH y
 have e:(2:Nat)^x=2^y*2^d:=by rw[hx,YHa]
 rw[e]at a b
 have h4:n^2^2=n^4:=rfl
 rw[h4]at a b
 have hn4:n^4<2^164:=by
   have:=Nat.pow_lt_pow_left h2 (show 4≠0 by decide)
   rwa [<-YHf]at this
 have hD:(2:Nat)^250<=2^d:=YHl (by decide) hd
 have h3:(2:Nat)^165*2^85=2^250:=rfl
 generalize hN:n^4=N at*
 generalize 2^y=W at*
 generalize hDD:(2:Nat)^d=D at*
 generalize hR:(2:Nat)^m=R at*
 have a':R*D<=N*D+R:=by
   refine Nat.le_of_mul_le_mul_left (c:=W) ?_ hW
   grind
 have b':N*D<=R*D+R:=by
   refine Nat.le_of_mul_le_mul_left (c:=W) ?_ hW
   grind
 have hRs:R<2^165:=by
   refine Nat.lt_of_not_le fun hh=>?_
   have k1:=YG3 D (show N+1<=2^164 from hn4)
   have k2:=YG3 D hh
   have k3:2*R<=R*D:=by
     have:2<=D:=by omega
     rw[YG4 R D];exact YG3 R this
   have e1:(N+1)*D=N*D+D:=by rw[YHr,YHN]
   have e2:(2:Nat)^165*D=2*(2^164*D):=by rw[YHo,Nat.mul_right_comm,YG4 2]
   have:0<D:=by omega
   omega
 have c1:R<=N:=by
   refine Nat.le_of_not_lt fun hh=>?_
   have:=YG3 D (show N+1<=R from hh)
   rw[YHr,YHN]at this
   omega
 have c2:N<=R:=by
   refine Nat.le_of_not_lt fun hh=>?_
   have:=YG3 D (show R+1<=N from hh)
   rw[YHr,YHN]at this
   omega
 exact Yvr n m (by rw[hN,hR];omega)
theorem YzF{n:Nat}(h1:1<=n)(h2:n<2^41):YbF 2 n:=by
 by_cases h:∃q,n=2^q
 . exact Yeu (by decide) h1 (Nat.lt_trans h2 (by decide)) (Or.inl h)
 . exact Yeu (by decide) h1 (Nat.lt_trans h2 (by decide)) (Or.inr fun m hm=>h (YmY (x:=4160) (y:=2160) (d:=2000) rfl (by decide) h2 hm))
def wP(n:Nat):Nat:=if n=2 then 0 else if n=3\/n=5\/n=7\/n=11\/n=13 then 1 else if n<2^29\/n=331300000000 then 2^52 else 2^98
theorem Yse:YaY ((2:Nat):Int)=true:=by decide
theorem lN_pw{n p:Nat}(h:YaY (n:Int)=true):(lN n p).2=(lN n p).1:=by
 unfold lN
 rw[if_pos h]
theorem wP_ok{n:Nat}(h1:1<=n)(h2:n<2^41):hiN n<=loN n+wP n*DD:=by
 unfold wP
 split
 . rename_i e
   subst e
   have e:hiN 2=loN 2:=lN_pw Yse
   rw[e]
   exact Nat.le_add_right _ _
 . split
   . rename_i h
     rw[YHN]
     rcases h with rfl|rfl|rfl|rfl|rfl
     . exact Yl4 nar_3
     . exact Yl4 nar_5
     . exact Yl4 nar_7
     . exact Yl4 YEe
     . exact Yl4 YEf
   . split
     . rename_i h
       have hn:YbF 48 n:=by
         rcases h with h|rfl
         . exact YoE h1 h
         . exact nar_c
       rw[<-KB_is.2]
       exact YsT hn
     . have:=YvV (J':=100) (YzF h1 h2) (by decide) (by decide)
       rw[show 100-2=98 from rfl]at this
       unfold hiN loN DD
       exact this
theorem YxA{n:Nat}(h1:1<=n)(h2:n<2^41):(lN n 2048).2<=(lN n 2048).1+wP n*2^(2048-100):=by
 have h:=wP_ok h1 h2
 unfold hiN loN DD at h
 exact h
theorem Yaz(g:Nat->Nat):∀a b:List (Int×Int),upS g (a++b)=upS g a+upS g b/\dnS g (a++b)=dnS g a+dnS g b
 | [],b=>by simp [upS,dnS]
 |x::a,b=>by
   obtain⟨h1,h2⟩:=Yaz g a b
   rw[List.cons_append,upS,dnS,upS,dnS,h1,h2]
   omega
theorem Ya5:∀a b:List (Int×Int),upP (a++b)=upP a*upP b/\dnP (a++b)=dnP a*dnP b
 | [],b=>by simp [upP,dnP]
 |x::a,b=>by
   obtain⟨h1,h2⟩:=Ya5 a b
   rw[List.cons_append,upP,dnP,upP,dnP,h1,h2]
   simp only[YG6,and_self]
theorem at_S(g:Nat->Nat){l:List (Int×Int)}{s den k:Nat}(hd:1<=den):upS g (atF (l++[((s:Int),(den:Int))]) den k)=upS g l+g s*den/\dnS g (atF (l++[((s:Int),(den:Int))]) den k)=dnS g l+g k*den:=by
 unfold atF
 rw[(Yaz g _ _).1,(Yaz g _ _).2,(Yaz g _ _).1,(Yaz g _ _).2]
 have h1:¬((den:Int)<0):=by omega
 have h2:(-(den:Int))<0:=by omega
 simp only[upS,dnS,if_neg h1,if_pos h2,YG0,Int.neg_neg]
 omega
theorem at_P{l:List (Int×Int)}{s den k:Nat}(hd:1<=den):upP (atF (l++[((s:Int),(den:Int))]) den k)=upP l*s^den/\dnP (atF (l++[((s:Int),(den:Int))]) den k)=dnP l*k^den:=by
 unfold atF
 rw[(Ya5 _ _).1,(Ya5 _ _).2,(Ya5 _ _).1,(Ya5 _ _).2]
 have h1:¬((den:Int)<0):=by omega
 have h2:(-(den:Int))<0:=by omega
 simp only[upP,dnP,if_neg h1,if_pos h2,YG0,Int.neg_neg,YH8,YHN,and_self]
def isS(l:List (Int×Int))(s den k:Nat):Prop:=dnS loN l+loN k*den<=upS hiN l+hiN s*den
theorem YnW{l:List (Int×Int)}{s den k:Nat}(hl:∀x,x∈l->okU x)(hs:1<=s/\s<=1000000000000)(hd:1<=den/\den<=1000000)(hk:1<=k/\k<=1000000000001):∀x,x∈atF (l++[((s:Int),(den:Int))]) den k->okU x:=by
 intro x hx
 simp only[atF,YHz,YHF]at hx
 rcases hx with(hx|rfl) |rfl
 . exact hl x hx
 . unfold okU;simp only;omega
 . unfold okU;simp only;omega
theorem isF_S{l:List (Int×Int)}{s den k:Nat}(hl:∀x,x∈l->okU x)(hn:l.length<=16)(hs:1<=s/\s<=1000000000000)(hd:1<=den/\den<=1000000)(hk:1<=k/\k<=1000000000001):isF (l++[((s:Int),(den:Int))]) den k=true↔isS l s den k:=by
 have h:=Yng (YnW hl hs hd hk) (by simp [atF];omega)
 rw[(at_S hiN hd.1).1,(at_S loN hd.1).2]at h
 unfold isF isS
 rw[YHB,decide_eq_true_eq,decide_eq_true_eq,h]
 omega
def QJ:Nat:=2^100
theorem Yjg:QJ=2^100:=rfl
theorem Yw9{x:Int×Int}(h:okU x):x.1.toNat<2^41:=by
 have:=h.2.1
 omega
theorem Yvz{l:List (Int×Int)}{s den k:Nat}(hl:∀x,x∈l->okU x)(hn:l.length<=16)(hs:1<=s/\s<=1000000000000)(hd:1<=den/\den<=1000000)(hk:1<=k/\k<=1000000000001)(h:isS l s den k):
   (dnP l*k^den)^QJ<=(upP l*s^den)^QJ*2^(upS wP l+dnS wP l+(wP s+wP k)*den):=by
 have hl2:=YnW hl hs hd hk
 by_cases c:dnP l*k^den<=upP l*s^den
 . exact YHc (YHe c _) (Nat.le_mul_of_pos_right _ (YH _))
 . have hu:Und (atF (l++[((s:Int),(den:Int))]) den k) 2048:=by
     refine⟨Nat.le_of_not_lt fun hh=>?_,?_⟩
     . obtain⟨⟨a1,a2⟩,b1,b2⟩:=YaO (K:=KB) (g:=loN) (h:=hiN) (fun n k1 k2=>Ydk k1 k2) _ hl2
       have:=Yap b2 a1 hh
       rw[(at_P hd.1).1,(at_P hd.1).2]at this
       omega
     . show dnS loN _<=upS hiN _
       rw[(at_S hiN hd.1).1,(at_S loN hd.1).2]
       exact h
   have:=Ypd (J:=100) (w:=wP) (by decide) hl2 (fun x hx=>YxA (Ydl (hl2 x hx)).1 (Yw9 (hl2 x hx))) hu
   rw[(at_P hd.1).1,(at_P hd.1).2,(at_S wP hd.1).1,(at_S wP hd.1).2,<-Yjg]at this
   rw[YHr,show upS wP l+dnS wP l+(wP s*den+wP k*den)=upS wP l+wP s*den+(dnS wP l+wP k*den)by omega]
   exact this
theorem YhN{X Y k den Q e t c:Nat}(hQ:1<=Q)(het:e*t<=Q)(ht:1<=t)(h:(Y*k^den)^Q<=X^Q*2^(den*(c*Q+e))):Y*(k*t)^den<=X*(2^c*(t+1))^den:=by
 have h1:2^e*t^Q<=(t+1)^Q:=by
   have a:=YHe (Yxu t ht) e
   rw[YHy,<-YHf,<-YHf,YG4 t e]at a
   obtain⟨d,hd⟩:∃d,Q=e*t+d:=⟨Q-e*t,by omega⟩
   rw[hd,YHa,YHa,<-YG6]
   exact YHi a (YHe (Nat.le_succ t) d)
 have h2:=YHe h1 den
 rw[YHy,<-YHf,<-YHf,<-YHf]at h2
 refine(Nat.pow_le_pow_iff_left (show Q≠0 by omega)).1 ?_
 have h3:=YG3 (t^(Q*den)) h
 have e1:(Y*(k*t)^den)^Q=(Y*k^den)^Q*t^(Q*den):=by
   rw[YHy k,<-YG6,YHy _ (t^den),<-YHf t,YG4 den Q]
 have e2:(X*(2^c*(t+1))^den)^Q=X^Q*(2^(den*(c*Q))*(t+1)^(Q*den)):=by
   rw[YHy X,<-YHf,YHy (2^c),<-YHf,YG4 den Q]
   congr 3
   rw[YG4 Q den,YHw]
 rw[e1,e2]
 refine YHc h3 ?_
 rw[YG6]
 refine YG5 _ ?_
 rw[YH7,YHa,YG6]
 refine YG5 _ ?_
 rw[YG4 den e]
 exact h2
theorem YEd{k a b c:Nat}(hk:k<=2^a)(h:a+(b+1)<=c):k*(2^b+1)<=2^c:=by
 have e1:2^b+1<=2^(b+1):=by have:=YH b;rw[YHo];omega
 have e2:=YHi hk e1
 rw[<-YHa]at e2
 exact YHc e2 (YHl (by decide) h)
theorem YvR{k K m c lo hi:Nat}(h1:1<=k)(hmc:m=c+1)(hk:k*m<=K)(g1:2^lo<=k^K)(g2:(k+1)^K<=2^hi):lo+c<hi:=by
 have a:=YHe (Yxu k h1) m
 rw[YHy,<-YHf,<-YHf]at a
 obtain⟨d,hd⟩:∃d,K=k*m+d:=⟨K-k*m,by omega⟩
 have b:2^m*k^K<=(k+1)^K:=by
   rw[hd,YHa,YHa,<-YG6]
   exact YHi a (YHe (Nat.le_succ k) d)
 have c1:2^(m+lo)<=2^hi:=by
   rw[YHa]
   exact YHc (YG5 _ g1) (YHc b g2)
 have:=LB.pow_of_le c1
 omega
theorem YxD{k:Nat}(h:k<=2^29):k*(C48+1)<=KB:=by
 have h:=YEd (b:=2048-48) (c:=2048) h (by decide)
 unfold C48 KB
 exact h
theorem YpA{k:Nat}(h1:1<=k)(h2:k+1<2^29):loN k+C48<hiN (k+1):=
 YvR h1 rfl (YxD (by omega)) (Ydk h1 (by omega)).1 (Ydk (Nat.le_add_left 1 k) (by omega)).2
theorem YvJ{k:Nat}(h1:1<=k)(h2:k+1<2^29):loN k<=loN (k+1):=by
 have s:=YpA h1 h2
 have hn:=YsT (YoE (n:=k+1) (Nat.le_add_left 1 k) h2)
 omega
theorem Yw3:∀{d k:Nat},1<=k->k+d<2^29->loN k<=loN (k+d)
 |0,_,_,_=>YG8 _
 |d+1,k,h1,h2=>YHc (Yw3 (d:=d) h1 (by omega)) (YvJ (k:=k+d) (by omega) (by omega))
theorem YwY{l:List (Int×Int)}{s den k m:Nat}(hk:1<=k)(hkm:k<=m)(hm:m<2^29)(h:isS l s den m):isS l s den k:=by
 obtain⟨d,rfl⟩:∃d,m=k+d:=⟨m-k,by omega⟩
 have:=YG3 den (Yw3 hk hm)
 unfold isS at*
 omega
def wide(l:List (Int×Int))(s den:Nat):Prop:=upS wP l+dnS wP l+wP s*den<=den*(2^54+2^20)
theorem YlQ{l:List (Int×Int)}{s den k B:Nat}(hl:∀x,x∈l->okU x)(hn:l.length<=16)(hs:1<=s/\s<=1000000000000)(hd:1<=den/\den<=1000000)(hk:1<=k/\k<=1000000000001)(hw:wide l s den)(hY:0<dnP l)
   (hB:upP l*s^den<dnP l*B^den)(hB2:B<=450000000)(h:isS l s den k):k<2^29/\(dnP l*k^den)^QJ<=(upP l*s^den)^QJ*2^(den*2^55):=by
 have h0:=Yvz hl hn hs hd hk h
 have wk:wP k<=2^98:=by
   unfold wP
   split
   . decide
   . split
     . decide
     . split
       . decide
       . decide
 have hk2:k<2^29:=by
   have e1:upS wP l+dnS wP l+(wP s+wP k)*den<=den*(2^98+2^55):=by
     have:=YG5 den wk
     unfold wide at hw
     rw[YHr,YH7,YG4 (wP k)]
     omega
   have h1:=YHc h0 (YG5 _ (YHl (show 1<=2 by decide) e1))
   obtain⟨q,hq⟩:∃q,q=2^98:=⟨_,rfl⟩
   have hQ4:QJ=4*q:=by rw[hq,Yjg]
   have h1':(dnP l^4*(k^4)^den)^q<=(upP l^4*(s^4)^den)^q*2^(den*(1*q+2^55)):=by
     have e2:∀u v:Nat,(u^4*(v^4)^den)^q=(u*v^den)^QJ:=fun u v=>by
       rw[hQ4,YHf (u*v^den),YHy u,<-YHf v,<-YHf v,YG4 4 den]
     rw[e2,e2,YHN,hq]
     exact h1
   have h2:=YhN (t:=2^40) (by rw[hq];decide) (by rw[hq];decide) (by decide) h1'
   have h3:dnP l^4*(k^4*2^40)^den<dnP l^4*(B^4*(2^1*(2^40+1)))^den:=by
     refine YHG h2 ?_
     rw[YHy (B^4),<-YG6]
     refine Nat.mul_lt_mul_of_pos_right ?_ (YHO (by decide))
     have e3:∀u v:Nat,u^4*(v^4)^den=(u*v^den)^4:=fun u v=>by
       rw[YHy u,<-YHf v,<-YHf v,YG4 4 den]
     rw[e3,e3]
     exact Nat.pow_lt_pow_left hB (by decide)
   have h4:=Nat.lt_of_mul_lt_mul_left h3
   have h5:=(Nat.pow_lt_pow_iff_left (by omega)).1 h4
   have h6:=YHe hB2 4
   have h7:k^4<(2^29)^4:=by
     have:(450000000:Nat)^4*(2^1*(2^40+1))<=(2^29)^4*2^40:=by decide
     have:=YG3 (2^1*(2^40+1)) h6
     omega
   exact(Nat.pow_lt_pow_iff_left (show 4≠0 by decide)).1 h7
 refine⟨hk2,?_⟩
 have wk2:wP k<=2^52:=by
   unfold wP
   split
   . decide
   . split
     . decide
     . rw[if_pos (Or.inl hk2)]
       exact YG8 _
 have e1:upS wP l+dnS wP l+(wP s+wP k)*den<=den*2^55:=by
   have:=YG5 den wk2
   unfold wide at hw
   rw[YHr,YG4 (wP k)]
   omega
 exact YHc h0 (YG5 _ (YHl (show 1<=2 by decide) e1))
structure PowR (l:List (Int×Int)) (s den B r:Nat) (ex:Bool):Prop where
 lt:r+1<2^29
 leB:r<=B
 seg:∀k,1<=k->k<2^29->(isS l s den k↔k<=r)
 up:upP l*s^den<dnP l*(r+1)^den
 tru:∀k,1<=k->k<2^29->dnP l*k^den<=upP l*s^den->k<=r
 near:1<=r->(dnP l*r^den)^QJ<=(upP l*s^den)^QJ*2^(den*2^55)
 ex_iff:ex=true↔1<=r/\upP l*s^den=dnP l*r^den
theorem YwX{l:List (Int×Int)}{s den k:Nat}(hl:∀x,x∈l->okU x)(hs:1<=s/\s<=1000000000000)(hd:1<=den/\den<=1000000)(hk:1<=k/\k<=1000000000001)(h:¬isS l s den k):upP l*s^den<dnP l*k^den:=by
 have hl2:=YnW hl hs hd hk
 obtain⟨⟨a1,a2⟩,b1,b2⟩:=YaO (K:=KB) (g:=loN) (h:=hiN) (fun n k1 k2=>Ydk k1 k2) _ hl2
 have hlt:upS hiN (atF (l++[((s:Int),(den:Int))]) den k)<dnS loN (atF (l++[((s:Int),(den:Int))]) den k):=by
   rw[(at_S hiN hd.1).1,(at_S loN hd.1).2]
   exact Nat.lt_of_not_le h
 have:=Yap a2 b1 hlt
 rwa [(at_P hd.1).1,(at_P hd.1).2]at this
theorem YiB{t:Int->Bool}:∀(f:Nat)(a b:Int),a<b->b-a<=2^f->(bisL f t a b=a\/t (bisL f t a b)=true)/\(bisL f t a b+1=b\/t (bisL f t a b+1)=false):=by
 intro f
 induction f with
 |zero=>
   intro a b h1 h2
   rw[Int.pow_zero]at h2
   rw[bisL]
   exact⟨Or.inl rfl,Or.inl (by omega)⟩
 |succ f ih=>
   intro a b h1 h2
   rw[bisL]
   by_cases c:1<b-a
   . rw[if_pos c]
     have e:(2:Int)^(f+1)=2*2^f:=by rw[Int.pow_succ];omega
     rw[e]at h2
     by_cases d:t (a+(b-a)/2)=true
     . rw[if_pos d]
       obtain⟨i1,i2⟩:=ih (a+(b-a)/2) b (by omega) (by omega)
       refine⟨?_,i2⟩
       rcases i1 with i1|i1
       . exact Or.inr (by rw[i1];exact d)
       . exact Or.inr i1
     . rw[if_neg d]
       obtain⟨i1,i2⟩:=ih a (a+(b-a)/2) (by omega) (by omega)
       refine⟨i1,?_⟩
       rcases i2 with i2|i2
       . exact Or.inr (by rw[i2];simpa using d)
       . exact Or.inr i2
   . rw[if_neg c]
     exact⟨Or.inl rfl,Or.inl (by omega)⟩
theorem Ylg{t:Int->Bool}:∀(f:Nat)(a b:Int),a<b->a<=bisL f t a b/\bisL f t a b<b:=by
 intro f
 induction f with
 |zero=>intro a b h;rw[bisL];omega
 |succ f ih=>
   intro a b h
   rw[bisL]
   by_cases c:1<b-a
   . rw[if_pos c]
     by_cases d:t (a+(b-a)/2)=true
     . rw[if_pos d]
       have:=ih (a+(b-a)/2) b (by omega)
       omega
     . rw[if_neg d]
       have:=ih a (a+(b-a)/2) (by omega)
       omega
   . rw[if_neg c];omega
theorem Yta{l:List (Int×Int)}{s den B:Nat}(hc:YeM l=0)(hl:∀x,x∈l->okU x)(hs:1<=s/\s<=1000000000000)(hd:1<=den/\den<=1000000)(hw:wide l s den)(hY:0<dnP l)
   (hB:upP l*s^den<dnP l*B^den)(hB2:B<=450000000):∃r:Nat,(Yb9 s l den).1=(r:Int)/\PowR l s den B r (Yb9 s l den).2.1:=by
 have hn:=(YmT hc).2
 obtain⟨f,hf⟩:∃f,f=isF (l++[((s:Int),(den:Int))]) (den:Int):=⟨_,rfl⟩
 have hfk:∀k:Nat,1<=k->k<=1000000000001->(f (k:Int)=true↔isS l s den k):=fun k h1 h2=>by
   rw[hf];exact isF_S hl hn hs hd ⟨h1,h2⟩
 have htop:f 1000000000001=false:=by
   cases hh:f 1000000000001 with
   |false=>rfl
   |true=>
     have:=YlQ hl hn hs hd (k:=1000000000001) (by decide) hw hY hB hB2 ((hfk 1000000000001 (by decide) (by decide)).1 hh)
     exact absurd this.1 (by decide)
 have hbad:YjF (s:Int) (den:Int)=false:=by
   simp only[YjF,YHq,decide_eq_false_iff_not];omega
 have e1:Yb9 (s:Int) l (den:Int)=(bisL 64 f 0 1000000000001,decide (0<bisL 64 f 0 1000000000001)&&oneF (atF (l++[((s:Int),(den:Int))]) den (bisL 64 f 0 1000000000001)),0):=by
   unfold Yb9
   rw[if_neg (by rw[hc];decide),if_neg (by rw[hbad];decide)]
   unfold Ytd
   rw[<-hf,if_neg (by rw[htop];decide)]
 obtain⟨s1,s2⟩:=YiB (t:=f) 64 0 1000000000001 (by decide) (by decide)
 have hr:=Ylg (t:=f) 64 0 1000000000001 (by decide)
 rw[e1]
 generalize bisL 64 f 0 1000000000001=b at*
 obtain⟨r,rfl⟩:∃r:Nat,b=(r:Int):=⟨b.toNat,by omega⟩
 have hr1:1<=r->isS l s den r:=fun h=>by
   rcases s1 with c|c
   . omega
   . exact(hfk r h (by omega)).1 c
 have hlt:r<2^29/\(1<=r->(dnP l*r^den)^QJ<=(upP l*s^den)^QJ*2^(den*2^55)):=by
   rcases YHR r with h0|h0
   . exact⟨by omega,fun h=>by omega⟩
   . have:=YlQ hl hn hs hd ⟨h0,by omega⟩ hw hY hB hB2 (hr1 h0)
     exact⟨this.1,fun _=>this.2⟩
 have hr2:¬isS l s den (r+1):=fun hh=>by
   have:=(hfk (r+1) (by omega) (by omega)).2 hh
   rcases s2 with c|c
   . omega
   . rw[Int.natCast_add,show((1:Nat):Int)=1 from rfl,c]at this
     cases this
 have hup:=YwX hl hs hd (k:=r+1) (by omega) hr2
 have hleB:r<=B:=by
   rcases YHR r with h0|h0
   . omega
   . have h1:=hlt.2 h0
     have h1':(dnP l*r^den)^QJ<=(upP l*s^den)^QJ*2^(den*(0*QJ+2^55)):=by rw[Nat.zero_mul,YH0];exact h1
     have h2:=YhN (t:=2^40) (show 1<=QJ by rw[Yjg];decide) (by rw[Yjg];decide) (by decide) h1'
     have h3:dnP l*(r*2^40)^den<dnP l*(B*(2^0*(2^40+1)))^den:=by
       refine YHG h2 ?_
       rw[YHy B,<-YG6]
       exact Nat.mul_lt_mul_of_pos_right hB (YHO (by decide))
     have h5:=(Nat.pow_lt_pow_iff_left (by omega)).1 (Nat.lt_of_mul_lt_mul_left h3)
     omega
 have hlt2:r+1<2^29:=by omega
 have hseg:∀k,1<=k->k<2^29->isS l s den k->k<=r:=fun k k1 k2 hk=>by
   refine Nat.le_of_not_lt fun hh=>hr2 ?_
   exact YwY (by omega) (show r+1<=k from hh) k2 hk
 refine⟨r,rfl,⟨hlt2,hleB,fun k k1 k2=>⟨hseg k k1 k2,fun hk=>?_⟩,hup,fun k k1 k2 hk=>?_,hlt.2,?_⟩⟩
 . exact YwY k1 hk hlt.1 (hr1 (by omega))
 . refine Classical.byContradiction fun hh=>?_
   have:¬isS l s den k:=fun h=>hh (hseg k k1 k2 h)
   have:=YwX hl hs hd (k:=k) (by omega) this
   omega
 . rw[YG2,decide_eq_true_eq]
   by_cases h0:1<=r
   . rw[YzP (YnW hl hs hd ⟨h0,by omega⟩) (by simp [atF];omega),(at_P hd.1).1,(at_P hd.1).2]
     omega
   . omega
structure Scl where
 d:Int
 c:Int
 bs:List (Int×Int)
 mn:Int
 md:Int
 cn:Int
 cd:Int
def inS(n a b:Int):Bool:=decide (a<=n)&&decide (n<=b)
def benL:List (Int×Int)->Int->Bool
 | [],_=>true
 |b::r,last=>decide (last<b.1)&&decide (b.1<=139)&&inS b.2 8 64&&benL r b.1
def Ydm(n:Int):Bool:=inS n 1 20
def okS(s:Scl):Bool:=
 decide (s.bs≠ [])&&inS s.d 1000 500000&&inS s.c 0 (min 50000 (s.d-1))&&Ydm s.mn&&Ydm s.md&&Ydm s.cn&&Ydm s.cd&&benL s.bs (-1)&&decide (s.mn<s.md)
def chkL(s:Scl):Int:=if 3<s.bs.length then 3 else if okS s=true then 0 else 2
structure Exn where
 f:Int
 h:Int
 n:Int
 d:Int
def addE(e:Exn)(to:Int):Int×Int:=if 0<e.h then(IntKind.i64.wrap (IntKind.i64.wrap (e.n*e.h)+IntKind.i64.wrap (IntKind.i64.wrap (to-e.f)*e.d)),IntKind.i64.wrap (e.d*e.h))else(e.n,e.d)
def expL(note:Int):List (Int×Int)->Exn->Int×Int
 | [],e=>addE e note
 |b::r,e=>if note<=b.1 then addE e note else expL note r ⟨b.1,b.2,(addE e b.1).1,(addE e b.1).2⟩
def expF(bs:List (Int×Int))(note:Int):Int×Int:=expL note bs ⟨0,0,0,1⟩
def YbQ(m num den:Int):Int×Bool:=((Yb9 m [(2, -num)] den).1,(Yb9 m [(2, -num)] den).2.1)
def diaS(s:Scl)(note:Int):Iv:=
 let r:=YbQ (s.d-s.c) (expF s.bs note).1 (expF s.bs note).2
 (s.c+r.1,if r.2=true then s.c+r.1 else s.c+r.1+1)
def Yft(s:Scl):Int:=(s.bs.getD 0 default).1
def hasS(s:Scl)(note:Int):Bool:=decide (Yft s<=note)&&decide (note<=139)
def askS(s:Scl)(low high:Int):Int:=if chkL s≠0 then chkL s else if(!hasS s low|| !hasS s high|| decide (high<low))=true then 2 else 0
def diaF(s:Scl)(note:Int):Iv×Int:=if askS s note note≠0 then((0,0),askS s note note)else(diaS s note,0)
def Exn.ok(e:Exn)(k:Nat):Prop:=(0<=e.f/\e.f<=139)/\(0<=e.h/\e.h<=64)/\(0<=e.n/\e.n<=e.f*e.d)/\1<=e.d/\e.d*64^(k+if e.h=0 then 0 else 1)<=262144
def Exn.add(e:Exn)(to:Int):Int×Int:=if 0<e.h then(e.n*e.h+(to-e.f)*e.d,e.d*e.h)else(e.n,e.d)
def exE(note:Int):List (Int×Int)->Exn->Int×Int
 | [],e=>e.add note
 |b::r,e=>if note<=b.1 then e.add note else exE note r ⟨b.1,b.2,(e.add b.1).1,(e.add b.1).2⟩
theorem p64(k:Nat):(1:Int)<=64^k:=Int.pow_pos (by decide)
theorem Exn.ok_d{e:Exn}{k:Nat}(h:e.ok k):e.d<=262144/\(e.h≠0->e.d*64<=262144):=by
 obtain⟨_,_,_,h4,h5⟩:=h
 have h6:=p64 k
 constructor
 . have h7:=p64 (k+if e.h=0 then 0 else 1)
   have:e.d*1<=e.d*64^(k+if e.h=0 then 0 else 1):=YHb h7 (by omega)
   omega
 . intro hh
   rw[if_neg hh,Int.pow_succ,<-Int.mul_assoc,Int.mul_right_comm]at h5
   have:e.d*64*1<=e.d*64*64^k:=YHb h6 (by omega)
   omega
theorem Exn.add_rng{e:Exn}{k:Nat}(h:e.ok k){to:Int}(ht:to<=139)(hf:e.h≠0->e.f<=to)(h0:e.h=0->0<=to/\e.n=0):
   addE e to=e.add to/\0<=(e.add to).1/\(e.add to).1<=to*(e.add to).2/\1<=(e.add to).2/\(e.add to).2<=262144/\(e.add to).2<=e.d*(if e.h=0 then 1 else 64):=by
 obtain⟨hd1,hd2⟩:=Exn.ok_d h
 obtain⟨⟨f0,f1⟩,⟨g0,g1⟩,⟨n0,n1⟩,d0,_⟩:=h
 unfold addE Exn.add
 by_cases c:0<e.h
 . rw[if_pos c,if_pos c,if_neg (by omega)]
   have hf:=hf (by omega)
   have hd2:=hd2 (by omega)
   have k1:e.f*e.d<=139*262144:=YaG f1 (by omega) (by omega) (by omega)
   have k2:e.n*e.h<=139*262144*64:=YaG (by omega) g1 n0 (by omega)
   have k3:(to-e.f)*e.d<=139*262144:=YaG (by omega) (by omega) (by omega) (by omega)
   have k4:e.d*e.h<=e.d*64:=YHb g1 (by omega)
   have k5:0<=e.n*e.h:=YG7 n0 g0
   have k6:0<=(to-e.f)*e.d:=YG7 (by omega) (by omega)
   have k7:e.d*1<=e.d*e.h:=YHb (by omega) (by omega)
   rw[YGZ (e.n*e.h) (by omega),YGZ (to-e.f) (by omega),YGZ ((to-e.f)*e.d) (by omega),YGZ (e.n*e.h+_) (by omega),YGZ (e.d*e.h) (by omega)]
   refine⟨rfl,by simp only;omega,?_,by simp only;omega,by simp only;omega,k4⟩
   simp only
   have q1:e.n*e.h<=e.f*e.d*e.h:=YHj n1 g0
   have q2:(to-e.f)*e.d*1<=(to-e.f)*e.d*e.h:=YHb (by omega) k6
   have q3:to*(e.d*e.h)=e.f*e.d*e.h+(to-e.f)*e.d*e.h:=by
     rw[<-Int.add_mul,<-Int.add_mul,show e.f+(to-e.f)=to by omega,Int.mul_assoc]
   omega
 . rw[if_neg c,if_neg c,if_pos (by omega)]
   obtain⟨h1,h2⟩:=h0 (by omega)
   refine⟨rfl,n0,?_,d0,hd1,by omega⟩
   simp only
   rw[h2]
   exact YG7 h1 (by omega)
theorem Exn.next{e:Exn}{k:Nat}(h:e.ok (k+1)){b:Int×Int}(hb:(0<=b.1/\b.1<=139)/\8<=b.2/\b.2<=64)(hf:e.h≠0->e.f<=b.1)(h0:e.h=0->e.n=0):(⟨b.1,b.2,(e.add b.1).1,(e.add b.1).2⟩:Exn).ok k:=by
 obtain⟨_,r1,r2,r3,r4,r5⟩:=Exn.add_rng h (to:=b.1) hb.1.2 hf fun hh=>⟨hb.1.1,h0 hh⟩
 refine⟨hb.1,⟨by simp only;omega,hb.2.2⟩,⟨r1,r2⟩,r3,?_⟩
 obtain⟨_,_,_,_,h5⟩:=h
 rw[if_neg (show¬b.2=0 by omega)]
 refine Int.le_trans (YHj r5 (Int.le_of_lt (Int.pow_pos (by decide)))) ?_
 by_cases c:e.h=0
 . rw[if_pos c]at h5⊢
   rw[Int.mul_one];exact h5
 . rw[if_neg c]at h5⊢
   rw[Int.mul_assoc,show(64:Int)*64^(k+1)=64^(k+1+1)by rw[Int.pow_succ 64 (k+1),YH9]]
   exact h5
theorem Yhl{b:Int×Int}{r:List (Int×Int)}{last:Int}(h:benL (b::r) last=true)(hl: -1<=last):(last<b.1/\(0<=b.1/\b.1<=139)/\8<=b.2/\b.2<=64)/\benL r b.1=true:=by
 simp only[benL,inS,YG2,decide_eq_true_eq]at h
 exact⟨by omega,h.2⟩
theorem YrP{note:Int}(hn:0<=note/\note<=139):∀(r:List (Int×Int))(e:Exn)(last:Int), -1<=last->benL r last=true->e.ok r.length->(e.h≠0->e.f<=last/\e.f<=note)->(e.h=0->e.n=0)->
   expL note r e=exE note r e/\0<=(exE note r e).1/\(exE note r e).1<=note*(exE note r e).2/\1<=(exE note r e).2/\(exE note r e).2<=262144
 | [],e,last,_,_,hok,hf,h0=>by
   obtain⟨a,b,c,d,g,_⟩:=Exn.add_rng hok (to:=note) hn.2 (fun h=>(hf h).2) fun h=>⟨hn.1,h0 h⟩
   exact⟨a,b,c,d,g⟩
 |b::r,e,last,hl,hb,hok,hf,h0=>by
   obtain⟨⟨b1,b2⟩,b3⟩:=Yhl hb hl
   rw[expL,exE]
   split
   . obtain⟨a,b,c,d,g,_⟩:=Exn.add_rng hok (to:=note) hn.2 (fun h=>(hf h).2) fun h=>⟨hn.1,h0 h⟩
     exact⟨a,b,c,d,g⟩
   . obtain⟨a,_⟩:=Exn.add_rng hok (to:=b.1) b2.1.2 (fun h=>by have:=hf h;omega) fun h=>⟨b2.1.1,h0 h⟩
     rw[a]
     exact YrP hn r _ b.1 (by omega) b3 (Exn.next hok b2 (fun h=>by have:=hf h;omega) h0) (fun _=>⟨YHS _,by simp only;omega⟩) (fun h=>by simp only at h;omega)
theorem Yya(n h d x:Int)(hd:0<=d)(h0:0<=h)(h1:h<=64):d*h*(d*h)<=((n*h+(x+1)*d)*(d*h)-(n*h+x*d)*(d*h))*64:=by
 have e1:(n*h+(x+1)*d)*(d*h)-(n*h+x*d)*(d*h)=d*(d*h):=by
   rw[<-Int.sub_mul,Int.add_mul x 1 d,Int.one_mul];congr 1;omega
 rw[e1]
 have k:d*(d*h)*h<=d*(d*h)*64:=YHb h1 (YG7 hd (YG7 hd h0))
 have e2:d*h*(d*h)=d*(d*h)*h:=by rw[Int.mul_right_comm]
 omega
theorem Yvh{note:Int}:∀(r:List (Int×Int))(e:Exn)(last:Int), -1<=last->benL r last=true->1<=e.d->(0<=e.h/\e.h<=64)->(e.h=0->∃b t,r=b::t/\b.1<=note)->
   (exE note r e).2*(exE (note+1) r e).2<=((exE (note+1) r e).1*(exE note r e).2-(exE note r e).1*(exE (note+1) r e).2)*64:=by
 have brk:∀e:Exn,1<=e.d->(0<=e.h/\e.h<=64)->e.h≠0->(e.add note).2*(e.add (note+1)).2<=((e.add (note+1)).1*(e.add note).2-(e.add note).1*(e.add (note+1)).2)*64:=fun e hd hh h0=>by
   unfold Exn.add
   rw[if_pos (by omega),if_pos (by omega)]
   simp only
   rw[show note+1-e.f=note-e.f+1 by omega]
   exact Yya e.n e.h e.d (note-e.f) (by omega) hh.1 hh.2
 intro r
 induction r with
 |nil=>
   intro e last _ _ hd hh h0
   refine brk e hd hh fun h=>?_
   obtain⟨_,_,hb,_⟩:=h0 h
   cases hb
 |cons b r ih=>
   intro e last hl hb hd hh h0
   obtain⟨⟨b1,b2⟩,b3⟩:=Yhl hb hl
   have hd2:1<=(e.add b.1).2:=by
     unfold Exn.add
     split
     . rename_i c
       have:1*1<=e.d*e.h:=YaG hd c (by decide) (by omega)
       exact this
     . exact hd
   rw[exE,exE]
   by_cases c1:note+1<=b.1
   . rw[if_pos (by omega),if_pos c1]
     refine brk e hd hh fun h=>?_
     obtain⟨b',t,hb',hle⟩:=h0 h
     cases hb'
     omega
   . by_cases c2:note<=b.1
     . obtain rfl:note=b.1:=by omega
       rw[if_pos c2,if_neg c1]
       have key:exE (b.1+1) r ⟨b.1,b.2,(e.add b.1).1,(e.add b.1).2⟩=((e.add b.1).1*b.2+(e.add b.1).2,(e.add b.1).2*b.2):=by
         have hadd:(⟨b.1,b.2,(e.add b.1).1,(e.add b.1).2⟩:Exn).add (b.1+1)=((e.add b.1).1*b.2+(e.add b.1).2,(e.add b.1).2*b.2):=by
           rw[Exn.add,if_pos (by simp only;omega)]
           simp only
           rw[show b.1+1-b.1=1 by omega,Int.one_mul]
         cases r with
         |nil=>rw[exE];exact hadd
         |cons b' t=>
           obtain⟨⟨g1,_⟩,_⟩:=Yhl b3 (by omega)
           rw[exE,if_pos (by omega)];exact hadd
       rw[key]
       generalize e.add b.1=A at*
       obtain⟨N,D⟩:=A
       simp only at hd2⊢
       have e1:(N*b.2+D)*D-N*(D*b.2)=D*D:=by
         rw[Int.add_mul]
         have:N*b.2*D=N*(D*b.2):=by rw[Int.mul_assoc,YH9 b.2]
         omega
       rw[e1,<-Int.mul_assoc]
       exact YHb b2.2.2 (YG7 (by omega) (by omega))
     . rw[if_neg c2,if_neg c1]
       exact ih _ b.1 (by omega) b3 hd2 ⟨by simp only;omega,b2.2.2⟩ fun h=>by simp only at h;omega
theorem YFp{num:Nat}(hn:num<=1000000000):YeM [((2:Int), -(num:Int))]=0/\(∀x,x∈ [((2:Int), -(num:Int))]->okU x)/\upP [((2:Int), -(num:Int))]=1/\dnP [((2:Int), -(num:Int))]=2^num/\upS wP [((2:Int), -(num:Int))]=0/\dnS wP [((2:Int), -(num:Int))]=0:=by
 have hmem:∀x,x∈ [((2:Int), -(num:Int))]->x=((2:Int), -(num:Int)):=fun x hx=>YHF.1 hx
 refine⟨?_,fun x hx=>?_,?_,?_,?_,?_⟩
 . have h0:okT0 ((2:Int), -(num:Int))=false:=by
     simp only[okT0,YHq,decide_eq_false_iff_not];omega
   unfold YeM
   simp [h0]
 . rw[hmem x hx];unfold okU;simp only;omega
 . unfold upP upP;simp only
   split
   . rfl
   . rw[show(-(num:Int)).toNat=0 by omega];rfl
 . unfold dnP dnP;simp only
   split
   . rw[Int.neg_neg,YG0];exact YH8 _
   . rw[show num=0 by omega]
 . unfold upS upS;simp only
   rw[show wP (Int.toNat 2)=0 from rfl]
   split <;> simp
 . unfold dnS dnS;simp only
   rw[show wP (Int.toNat 2)=0 from rfl]
   split <;> simp
theorem Ywu{m:Nat}(h:m<2^29):wP m<=2^52:=by
 unfold wP
 split
 . decide
 . split
   . decide
   . rw[if_pos (Or.inl h)];exact YG8 _
theorem YgY{m num den:Nat}(hm:1<=m/\m<=500000)(hn:num<=1000000000)(hd:1<=den/\den<=1000000):∃k:Nat,k<=2000000/\(YbQ (m:Int) (num:Int) (den:Int)).1=(k:Int)/\
   (1<=k->(2^num*k^den)^QJ<=(m^den)^QJ*2^(2^55*den))/\m^den<2^num*(k+1)^den/\((YbQ (m:Int) (num:Int) (den:Int)).2=true->1<=k/\m^den=2^num*k^den):=by
 obtain⟨h1,h2,h3,h4,h5,h6⟩:=YFp hn
 have hB:upP [((2:Int), -(num:Int))]*m^den<dnP [((2:Int), -(num:Int))]*1000000^den:=by
   rw[h3,h4,YHN]
   refine YHM ((Nat.pow_lt_pow_iff_left (by omega)).2 (show m<1000000 by omega)) (Nat.le_mul_of_pos_left _ (YHO (by decide)))
 obtain⟨r,e1,p⟩:=Yta (s:=m) (den:=den) (B:=1000000) h1 h2 ⟨hm.1,by omega⟩ hd (by
   unfold wide
   rw[h5,h6]
   have:=YG3 den (Ywu (m:=m) (by omega))
   omega) (by rw[h4];exact YHO (by decide)) hB (by decide)
 have q:=p.near
 have u:=p.up
 have x:=p.ex_iff
 rw[h3,h4,YHN]at q u x
 refine⟨r,YHc p.leB (by decide),e1,fun hk=>?_,u,fun hx=>?_⟩
 . rw[YG4 (2^55)];exact q hk
 . exact x.1 hx
theorem YBR:QJ=1267650600228229401496703205376:=rfl
theorem YAu{m k Q W n1 d1 n2 d2:Nat}(hk:1<=k)(hB:m^d1<=2^n1*k^d1)(hA:(2^n2*k^d2)^Q<=(m^d2)^Q*2^(W*d2)):n2*d1*Q<=n1*d2*Q+W*(d1*d2):=by
 have a:=YHe hB (d2*Q)
 have b:=YHe hA d1
 have em:(m^d1)^(d2*Q)=m^(d1*d2*Q):=by rw[<-YHf,YG6]
 have ek:(2^n1*k^d1)^(d2*Q)=2^(n1*d2*Q)*k^(d1*d2*Q):=by rw[YHy,<-YHf,<-YHf,YG6,YG6]
 have fk:((2^n2*k^d2)^Q)^d1=2^(n2*d1*Q)*k^(d1*d2*Q):=by
   rw[<-YHf,YHy,<-YHf,<-YHf]
   congr 2
   . rw[YG4 Q,YG6]
   . rw[YG4 d1 d2,YG4 Q,YG6]
 have fm:((m^d2)^Q*2^(W*d2))^d1=m^(d1*d2*Q)*2^(W*(d1*d2)):=by
   rw[YHy,<-YHf,<-YHf,<-YHf]
   congr 2
   . rw[YG4 d1 d2,Nat.mul_right_comm,YG6]
   . rw[YG6,YG4 d2]
 rw[em,ek]at a
 rw[fk,fm]at b
 have c:=YHc b (YG3 (2^(W*(d1*d2))) a)
 have hk0:0<k^(d1*d2*Q):=YHO hk
 have e:2^(n1*d2*Q)*k^(d1*d2*Q)*2^(W*(d1*d2))=2^(n1*d2*Q+W*(d1*d2))*k^(d1*d2*Q):=by rw[YHa,Nat.mul_right_comm]
 rw[e]at c
 exact(Nat.pow_le_pow_iff_right (by decide)).1 (YHp c hk0)
theorem YpL{m n1 d1 n2 d2:Nat}(hm:1<=m/\m<=500000)(hn1:n1<=1000000000)(hd1:1<=d1/\d1<=1000000)(hn2:n2<=1000000000)(hd2:1<=d2/\d2<=1000000)(h:d1*d2+n1*d2*4096<=n2*d1*4096):
   (YbQ (m:Int) (n2:Int) (d2:Int)).1<=(YbQ (m:Int) (n1:Int) (d1:Int)).1/\((YbQ (m:Int) (n2:Int) (d2:Int)).1=(YbQ (m:Int) (n1:Int) (d1:Int)).1->(YbQ (m:Int) (n1:Int) (d1:Int)).2=false):=by
 obtain⟨k,k1,k2,k3,k4,k5⟩:=YgY hm hn1 hd1
 obtain⟨j,j1,j2,j3,j4,j5⟩:=YgY hm hn2 hd2
 rw[k2,j2]
 have hpos:1*1<=d1*d2:=YHi hd1.1 hd2.1
 have no:∀x:Nat,1<=x->m^d1<=2^n1*x^d1->¬(2^n2*x^d2)^QJ<=(m^d2)^QJ*2^(2^55*d2):=fun x hx hb ha=>by
   have:=YAu hx hb ha
   rw[YBR]at this
   omega
 have hle:j<=k:=by
   refine Nat.le_of_not_lt fun hh=>?_
   refine no j (by omega) ?_ (j3 (by omega))
   exact YHc (Nat.le_of_lt k4) (YG5 _ (YHe (by omega) _))
 refine⟨by omega,fun he=>?_⟩
 cases hx:(YbQ (m:Int) (n1:Int) (d1:Int)).2 with
 |false=>rfl
 |true=>
   exfalso
   obtain⟨h1,h2⟩:=k5 hx
   obtain rfl:j=k:=by omega
   exact no j h1 (YH2 h2) (j3 h1)
theorem YDg{d c n1 d1 n2 d2:Int}(hd:d<=500000/\0<=c/\c<d)(h1:0<=n1/\n1<=139*262144/\1<=d1/\d1<=262144)(h2:0<=n2/\n2<=139*262144/\1<=d2/\d2<=262144)(h:d1*d2<=(n2*d1-n1*d2)*4096):
   (YbQ (d-c) n2 d2).1<=(YbQ (d-c) n1 d1).1/\(if(YbQ (d-c) n2 d2).2=true then c+(YbQ (d-c) n2 d2).1 else c+(YbQ (d-c) n2 d2).1+1)<=(if(YbQ (d-c) n1 d1).2=true then c+(YbQ (d-c) n1 d1).1 else c+(YbQ (d-c) n1 d1).1+1):=by
 obtain⟨m,rfl⟩:∃m:Nat,d=c+m:=⟨(d-c).toNat,by omega⟩
 obtain⟨a1,rfl⟩:∃a:Nat,n1=a:=⟨n1.toNat,by omega⟩
 obtain⟨b1,rfl⟩:∃a:Nat,d1=a:=⟨d1.toNat,by omega⟩
 obtain⟨a2,rfl⟩:∃a:Nat,n2=a:=⟨n2.toNat,by omega⟩
 obtain⟨b2,rfl⟩:∃a:Nat,d2=a:=⟨d2.toNat,by omega⟩
 rw[show c+(m:Int)-c=m by omega]
 have h':b1*b2+a1*b2*4096<=a2*b1*4096:=by
   rw[Int.sub_mul]at h
   have e:((b1*b2+a1*b2*4096:Nat):Int)<=((a2*b1*4096:Nat):Int):=by
     simp only[Int.natCast_add,YHZ]
     have:((4096:Nat):Int)=4096:=rfl
     rw[this];omega
   exact Int.ofNat_le.1 e
 obtain⟨f1,f2⟩:=YpL (m:=m) (n1:=a1) (d1:=b1) (n2:=a2) (d2:=b2) (by omega) (by omega) (by omega) (by omega) (by omega) h'
 refine⟨f1,?_⟩
 generalize YbQ (m:Int) (a1:Int) (b1:Int)=R at*
 generalize YbQ (m:Int) (a2:Int) (b2:Int)=T at*
 rcases Int.lt_or_eq_of_le f1 with hlt|heq
 . split <;> split <;> omega
 . simp only[f2 heq,YHm,if_false]
   split <;> omega
theorem Ye6{s:Scl}(h:chkL s=0):0<s.bs.length/\s.bs.length<=3/\okS s=true:=by
 unfold chkL at h
 split at h
 . cases h
 . split at h
   . rename_i h1 h2
     refine⟨?_,by omega,h2⟩
     simp only[okS,YG2,decide_eq_true_eq]at h2
     exact List.length_pos_iff.2 h2.1.1.1.1.1.1.1.1
   . cases h
theorem YnZ:∀(r:List (Int×Int))(last:Int),benL r last=true↔∀j,j<r.length->((r.getD j default).1<=139/\8<=(r.getD j default).2/\(r.getD j default).2<=64)/\(if j=0 then last else(r.getD (j-1) default).1)<(r.getD j default).1
 | [],last=>by simp [benL]
 |b::r,last=>by
   have ih:=YnZ r b.1
   simp only[benL,inS,YG2,decide_eq_true_eq]
   constructor
   . rintro⟨⟨⟨h1,h2⟩,h3,h4⟩,h5⟩ j hj
     cases j with
     |zero=>exact⟨⟨h2,h3,h4⟩,h1⟩
     |succ j=>
       have:=ih.1 h5 j (by simpa using hj)
       refine⟨this.1,?_⟩
       cases j with
       |zero=>exact this.2
       |succ j=>exact this.2
   . intro h
     have h0:=h 0 (by simp)
     refine⟨⟨⟨h0.2,h0.1.1⟩,h0.1.2⟩,ih.2 fun j hj=>?_⟩
     have:=h (j+1) (by simpa using hj)
     refine⟨this.1,?_⟩
     cases j with
     |zero=>exact this.2
     |succ j=>exact this.2
theorem YC0(r:List (Int×Int)):benL r (-1)=true↔∀j,j<r.length->(0<=(r.getD j default).1/\(r.getD j default).1<=139/\8<=(r.getD j default).2/\(r.getD j default).2<=64)/\(0<j->(r.getD (j-1) default).1<(r.getD j default).1):=by
 rw[YnZ]
 constructor
 . intro h j
   induction j with
   |zero=>
     intro hj
     have:=h 0 hj
     simp only[if_pos]at this
     exact⟨by omega,fun hh=>absurd hh (by decide)⟩
   |succ j ih=>
     intro hj
     have h1:=h (j+1) hj
     have h2:=ih (by omega)
     rw[if_neg (by omega)]at h1
     simp only[Nat.add_sub_cancel]at h1⊢
     exact⟨by omega,fun _=>h1.2⟩
 . intro h j hj
   have h1:=h j hj
   refine⟨h1.1.2,?_⟩
   by_cases c:j=0
   . rw[if_pos c];omega
   . rw[if_neg c];exact h1.2 (by omega)
theorem Yj2{s:Scl}(hs:chkL s=0){note:Int}(hn:0<=note/\note<=139):expF s.bs note=exE note s.bs ⟨0,0,0,1⟩/\0<=(expF s.bs note).1/\(expF s.bs note).1<=note*(expF s.bs note).2/\1<=(expF s.bs note).2/\(expF s.bs note).2<=262144:=by
 obtain⟨h1,h2,h3⟩:=Ye6 hs
 simp only[okS,YG2]at h3
 have hok:(⟨0,0,0,1⟩:Exn).ok s.bs.length:=by
   refine⟨⟨by decide,by decide⟩,⟨by decide,by decide⟩,⟨by decide,by decide⟩,by decide,?_⟩
   rw[if_pos rfl,Nat.add_zero,Int.one_mul]
   rcases(by omega:s.bs.length=1\/s.bs.length=2\/s.bs.length=3)with e|e|e <;> rw[e] <;> decide
 obtain⟨a,b,c,d,g⟩:=YrP hn s.bs ⟨0,0,0,1⟩ (-1) (by decide) h3.1.2 hok (fun h=>absurd rfl h) (fun _=>rfl)
 rw[show expF s.bs note=expL note s.bs ⟨0,0,0,1⟩from rfl,a]
 exact⟨rfl,b,c,d,g⟩
theorem Ync{s:Scl}(h:chkL s=0):(1000<=s.d/\s.d<=500000)/\0<=s.c/\s.c<s.d:=by
 have h3:=(Ye6 h).2.2
 simp only[okS,inS,YG2,decide_eq_true_eq]at h3
 omega
theorem YuX{s:Scl}{low high:Int}(h:askS s low high=0):chkL s=0/\(Yft s<=low/\low<=139)/\(Yft s<=high/\high<=139)/\low<=high:=by
 unfold askS at h
 split at h
 . rename_i h1;exact absurd h h1
 . rename_i h1
   split at h
   . cases h
   . rename_i h2
     simp only[YHB,YHn,hasS,Bool.and_eq_false_iff,decide_eq_false_iff_not,decide_eq_true_eq,not_or,Decidable.not_not]at h2
     exact⟨by simpa using h1,by omega⟩
theorem YdO{s:Scl}(h:chkL s=0):0<=Yft s/\Yft s<=139:=by
 obtain⟨h1,_,h3⟩:=Ye6 h
 simp only[okS,YG2]at h3
 have:=((YC0 s.bs).1 h3.1.2 0 h1).1
 unfold Yft;omega
theorem YmX{s:Scl}(hs:chkL s=0){note:Int}(hn:0<=note/\note<=139):0<=(expF s.bs note).1/\(expF s.bs note).1<=139*262144/\1<=(expF s.bs note).2/\(expF s.bs note).2<=262144:=by
 obtain⟨_,h1,h2,h3,h4⟩:=Yj2 hs hn
 have:note*(expF s.bs note).2<=139*262144:=YaG hn.2 h4 hn.1 (by decide)
 omega
theorem Yu9{s:Scl}(hs:chkL s=0){note:Int}(h0:Yft s<=note)(h1:note<139):(diaS s (note+1)).1<=(diaS s note).1/\(diaS s (note+1)).2<=(diaS s note).2:=by
 have hf:=YdO hs
 have hr:=Ync hs
 obtain⟨l1,l2,l3⟩:=Ye6 hs
 simp only[okS,YG2]at l3
 have e1:=(Yj2 hs (note:=note) (by omega)).1
 have e2:=(Yj2 hs (note:=note+1) (by omega)).1
 have st:=Yvh (note:=note) s.bs ⟨0,0,0,1⟩ (-1) (by decide) l3.1.2 (by decide) (by decide) fun _=>by
   unfold Yft at h0
   cases hb:s.bs with
   |nil=>rw[hb]at l1;exact absurd l1 (by decide)
   |cons b t=>rw[hb]at h0;exact⟨b,t,rfl,h0⟩
 rw[<-e1,<-e2]at st
 have hp1:=YmX hs (note:=note) (by omega)
 have hp2:=YmX hs (note:=note+1) (by omega)
 have hpos:1*1<=(expF s.bs note).2*(expF s.bs (note+1)).2:=YaG hp1.2.2.1 hp2.2.2.1 (by decide) (by omega)
 obtain⟨k1,k2⟩:=YDg (d:=s.d) (c:=s.c) ⟨hr.1.2,hr.2.1,hr.2.2⟩ hp1 hp2 (by omega)
 unfold diaS
 simp only
 exact⟨by omega,k2⟩
theorem YrB{s:Scl}(hs:chkL s=0){note:Int}(hn:0<=note/\note<=139):0<=(diaS s note).1/\(diaS s note).1<=(diaS s note).2/\1<=(diaS s note).2/\(diaS s note).2<=3000000:=by
 have hr:=Ync hs
 have hb:=YmX hs hn
 obtain⟨K,g1,g2,_,_,g5⟩:=YgY (m:=(s.d-s.c).toNat) (num:=(expF s.bs note).1.toNat) (den:=(expF s.bs note).2.toNat) (by omega) (by omega) (by omega)
 rw[YHs (by omega),YHs (by omega),YHs (by omega)]at g2 g5
 unfold diaS
 simp only
 rw[g2]
 split
 . rename_i hx
   have:=(g5 hx).1
   omega
 . omega
structure Rt where
 a:Int
 b:Int
 c:Int
 d:Int
 e:Int
 f:Int
 n:Int
 deriving Inhabited,DecidableEq
def encR(r:Rt):List SV:=[.int .i64 r.a,.int .i64 r.b,.int .i64 r.c,.int .i64 r.d,.int .i64 r.e,.int .i64 r.f,.int .i64 r.n]
def badN(n:Int):Bool:=decide (n< -100000) || decide (100000<n)
def gcdR(r:Rt):Nat:=((((((r.n.toNat).gcd r.a.natAbs).gcd r.b.natAbs).gcd r.c.natAbs).gcd r.d.natAbs).gcd r.e.natAbs).gcd r.f.natAbs
def chkR(r:Rt):Int:=
 if r.n<1\/1000<r.n then 2 else if badN r.a|| (badN r.b|| (badN r.c|| (badN r.d|| (badN r.e|| badN r.f))))then 2 else if 1<gcdR r then 6 else 0
def YaQ:Rt:=⟨0,0,0,0,0,0,0⟩
def divR(r:Rt)(g:Int):Rt:=⟨r.a.tdiv g,r.b.tdiv g,r.c.tdiv g,r.d.tdiv g,r.e.tdiv g,r.f.tdiv g,r.n.tdiv g⟩
def Ydy(r:Rt):Rt×Int:=if chkR (divR r (gcdR r))=0 then(divR r (gcdR r),0)else(YaQ,7)
def Ybq(x y:Rt)(by':Int):Rt×Int:=
 if chkR x≠0 then(YaQ,chkR x)else if chkR y≠0 then(YaQ,chkR y)
 else Ydy ⟨x.a*y.n+by'*y.a*x.n,x.b*y.n+by'*y.b*x.n,x.c*y.n+by'*y.c*x.n,x.d*y.n+by'*y.d*x.n,x.e*y.n+by'*y.e*x.n,x.f*y.n+by'*y.f*x.n,x.n*y.n⟩
def tm1(p n:Int):List (Int×Int):=if n=0 then []else [(p,n)]
def Yg(r:Rt):List (Int×Int):=tm1 2 r.a++(tm1 3 r.b++(tm1 5 r.c++(tm1 7 r.d++(tm1 11 r.e++tm1 13 r.f))))
theorem YbV(r:Rt):(Yg r).length<=6:=by
 have h:∀p n:Int,(tm1 p n).length<=1:=fun p n=>by unfold tm1;split <;> simp
 have:=h 2 r.a;have:=h 3 r.b;have:=h 5 r.c;have:=h 7 r.d;have:=h 11 r.e;have:=h 13 r.f
 simp only[Yg,YHW];omega
theorem Yhr{r:Rt}(h:chkR r=0):(1<=r.n/\r.n<=1000)/\badN r.a=false/\badN r.b=false/\badN r.c=false/\badN r.d=false/\badN r.e=false/\badN r.f=false/\gcdR r<=1:=by
 unfold chkR at h
 split at h
 . cases h
 . split at h
   . cases h
   . split at h
     . cases h
     . rename_i h1 h2 h3
       simp only[YHB,not_or,Bool.not_eq_true]at h2
       exact⟨by omega,h2.1,h2.2.1,h2.2.2.1,h2.2.2.2.1,h2.2.2.2.2.1,h2.2.2.2.2.2,by omega⟩
theorem YdG{n:Int}(h:badN n=false): -100000<=n/\n<=100000:=by
 simp only[badN,YHq,decide_eq_false_iff_not]at h;omega
theorem YaS{x y X Y:Int}(hx: -X<=x/\x<=X)(hy: -Y<=y/\y<=Y): -(X*Y)<=x*y/\x*y<=X*Y:=by
 have h0:0<=X:=by omega
 have h1:0<=Y:=by omega
 have a1:=YG7 (show 0<=X-x by omega) (show 0<=Y+y by omega)
 have a2:=YG7 (show 0<=X+x by omega) (show 0<=Y-y by omega)
 have a3:=YG7 (show 0<=X-x by omega) (show 0<=Y-y by omega)
 have a4:=YG7 (show 0<=X+x by omega) (show 0<=Y+y by omega)
 rw[Int.sub_mul,Int.mul_add,Int.mul_add]at a1
 rw[Int.add_mul,Int.mul_sub,Int.mul_sub]at a2
 rw[Int.sub_mul,Int.mul_sub,Int.mul_sub]at a3
 rw[Int.add_mul,Int.mul_add,Int.mul_add]at a4
 omega
set_option maxHeartbeats 4000000
def v115:VF:=⟨7,[.tmp 2],(ZR [Zi 2 0] (ZR [Zm 3 0,Zm 4 0,u1 5 .neg [.tm 4],u1 6 .max [.tm 3,.tm 5],Zm 2 6] .ret))⟩
theorem YAW:Yf YGY Tryz.f115=some v115:=by kernel_rfl
def v102:VF:=⟨34,[.tmp 2],(ZR [u1 1 .box [.tm 0],Zi 2 0] (.seq (ZR [Za 6 6 1,Zf 7 1 6,Zq 8 .lss 7 1,Zm 9 8,Zj 10 9 false 6 1,Zh 11 9 false 1 10,u2 12 9 false (.cmp .gtr) [.tm 11,.cn (.int .i64 1000)],u1 13 .or [.tm 9,.tm 12]] (ZC 13 (ZR [Zi 2 2] .ret) .skip)) (ZR [Za 14 6 1,Zf 15 1 14,Zm 3 15] (.seq (ZR [Za 16 0 1,Zt 17 6 16,Zi 18 0] (.block 0 (.loop (ZR [Zq 19 .lss 18 6] (.seq (ZC 19 .skip (.exit 0)) (.seq (.block 1 (ZR [u1 20 (.index false 6 1) [.tm 17,.tm 18],Zm 5 20] (.seq (ZR [Zm 21 5,Zq 22 .lss 21 (-100000),Zm 23 22,Zg 24 23 false 5,u2 25 23 false (.cmp .gtr) [.tm 24,.cn (.int .i64 100000)],u1 26 .or [.tm 23,.tm 25]] (ZC 26 (ZR [Zi 2 2] .ret) .skip)) (.region [Zm 27 3,Zm 28 5,Zc 29 115 28,Zd 30 114 27 29,Zm 3 30])))) (.region [Zp 31 18 1,Zm 18 31]))))))) (.seq (ZR [Zm 32 3,Zq 33 .gtr 32 1] (ZC 33 (ZR [Zi 2 6] .ret) .skip)) (ZR [Zi 2 0] .ret))))))⟩
theorem YAJ:Yf YGY Tryz.f102=some v102:=by kernel_rfl
def v113:VF:=⟨43,[.cell 4 true 7,.tmp 5],(ZR [u1 2 .box [.tm 0],u1 4 (.alloc [(.int .i64 0),(.int .i64 0),(.int .i64 0),(.int .i64 0),(.int .i64 0),(.int .i64 0),(.int .i64 0)]) [],Zi 5 0] (ZR [Zm 12 1,Zm 6 12] (.seq (ZR [Zt 13 6 2,Zi 14 0] (.block 0 (.loop (ZR [Zq 15 .lss 14 6] (.seq (ZC 15 .skip (.exit 0)) (.seq (.block 1 (ZR [u1 16 (.index false 6 1) [.tm 13,.tm 14],Zm 8 16] (.region [Zm 17 6,Zm 18 8,Zc 19 115 18,Zd 20 114 17 19,Zm 6 20]))) (.region [Zp 21 14 1,Zm 14 21]))))))) (ZR [Zm 22 1,Zm 23 6,u1 24 .quo [.tm 22,.tm 23],u1 25 (.build [(.int .i64 0),(.int .i64 0),(.int .i64 0),(.int .i64 0),(.int .i64 0),(.int .i64 0),(.int .i64 0)] [(6,1)]) [.tm 24],u1 9 (.alloc [(.int .i64 0),(.int .i64 0),(.int .i64 0),(.int .i64 0),(.int .i64 0),(.int .i64 0),(.int .i64 0)]) [],Zs 7 9 25] (.seq (ZR [Zt 26 6 2,Zi 27 0] (.block 2 (.loop (ZR [Zq 28 .lss 27 6] (.seq (ZC 28 .skip (.exit 2)) (.seq (.block 3 (ZR [Zm 29 27,u1 30 (.index false 6 1) [.tm 26,.tm 27],Zm 10 29,Zm 11 30] (.region [Zm 31 10,Zm 32 11,Zm 33 6,u1 34 .quo [.tm 32,.tm 33],Za 35 0 9,u1 36 (.idxArr 6 1) [.tm 35,.tm 31],Zs 1 36 34]))) (.region [Zp 37 27 1,Zm 27 37]))))))) (.seq (ZR [Zt 38 7 9,Zc 39 102 38,Zq 40 .neq 39 0] (ZC 40 (ZR [u1 41 (.build [(.int .i64 0),(.int .i64 0),(.int .i64 0),(.int .i64 0),(.int .i64 0),(.int .i64 0),(.int .i64 0)] []) [],Zs 7 4 41,Zi 5 7] .ret) .skip)) (ZR [Zt 42 7 9,Zs 7 4 42,Zi 5 0] .ret)))))))⟩
theorem YAU:Yf YGY Tryz.f113=some v113:=by kernel_rfl
def v112:VF:=⟨5,[.tmp 2],(ZR [Zi 2 0] (ZR [Zm 3 0,Zc 4 133 3,Zm 2 4] .ret))⟩
theorem YAT:Yf YGY Tryz.f112=some v112:=by kernel_rfl
def v133:VF:=⟨18,[.tmp 2],(ZR [Zi 2 0] (ZR [Zi 3 0] (.seq (ZR [Zm 6 0,Zl 7 6,Zi 8 0] (.block 0 (.loop (ZR [Zr 9 .lss 8 7] (.seq (ZC 9 .skip (.exit 0)) (.seq (.block 1 (ZR [Zx 10 1 6 8,Zf 11 1 10,Zm 5 11] (ZR [Zm 12 5,Zm 13 3,Zr 14 .neq 12 13] (ZC 14 (ZR [Zm 15 5,Zm 2 15] .ret) .skip)))) (.region [Zp 16 8 1,Zm 8 16]))))))) (ZR [Zm 17 3,Zm 2 17] .ret))))⟩
theorem YBd:Yf YGY Tryz.f133=some v133:=by kernel_rfl
def v101:VF:=⟨53,[.cell 6 true 7,.tmp 7],(ZR [u1 3 .box [.tm 0],u1 4 .box [.tm 1],u1 6 (.alloc [(.int .i64 0),(.int .i64 0),(.int .i64 0),(.int .i64 0),(.int .i64 0),(.int .i64 0),(.int .i64 0)]) [],Zi 7 0] (.seq (.seq (.draw [] [Zw 11 7 3,Zw 13 7 4,w1 12 (.call 102) [.tm 11],w1 14 (.call 102) [.tm 13],w1 15 (.buildSlice 1 2 [(.int .i64 0)] [(0,1),(1,1)]) [.tm 12,.tm 14],w1 16 (.call 112) [.tm 15],Zu 8 16]) (ZR [Zm 17 8,Zq 18 .neq 17 0] (ZC 18 (ZR [u1 19 (.build [(.int .i64 0),(.int .i64 0),(.int .i64 0),(.int .i64 0),(.int .i64 0),(.int .i64 0),(.int .i64 0)] []) [],Zm 20 8,Zs 7 6 19,Zm 7 20] .ret) .skip))) (ZR [u1 9 (.allocArr 6 1 [(.int .i64 0),(.int .i64 0),(.int .i64 0),(.int .i64 0),(.int .i64 0),(.int .i64 0)]) []] (.seq (ZR [Zi 21 0] (.block 0 (.loop (ZR [Zq 22 .lss 21 6] (.seq (ZC 22 .skip (.exit 0)) (.seq (.block 1 (ZR [Zm 23 21,Zm 10 23] (.draw [] [Zu 24 10,Zu 25 10,Zy 26 0 3,w1 27 (.idxArr 6 1) [.tm 26,.tm 25],Zv 28 1 27,Zy 29 6 4,Zv 30 1 29,w1 31 (.ari .mul) [.tm 28,.tm 30],Zu 32 2,Zu 33 10,Zy 34 0 4,w1 35 (.idxArr 6 1) [.tm 34,.tm 33],Zv 36 1 35,w1 37 (.ari .mul) [.tm 32,.tm 36],Zy 38 6 3,Zv 39 1 38,w1 40 (.ari .mul) [.tm 37,.tm 39],w1 41 (.ari .add) [.tm 31,.tm 40],w1 42 (.idxArr 6 1) [.tm 9,.tm 24],ZS 1 42 41]))) (.region [Zp 43 21 1,Zm 21 43]))))))) (ZR [Zt 44 6 9,Za 45 6 3,Zf 46 1 45,Za 47 6 4,Zf 48 1 47,Zo 49 .mul 46 48,Zd 50 113 44 49,Ze 51 0 50,Ze 52 1 50,Zs 7 6 51,Zm 7 52] .ret)))))⟩
theorem YAI:Yf YGY Tryz.f101=some v101:=by kernel_rfl
def v147:VF:=⟨11,[.cell 4 true 7,.tmp 5],(ZR [u1 2 .box [.tm 0],u1 3 .box [.tm 1],u1 4 (.alloc [(.int .i64 0),(.int .i64 0),(.int .i64 0),(.int .i64 0),(.int .i64 0),(.int .i64 0),(.int .i64 0)]) [],Zi 5 0] (ZR [Zt 6 7 2,Zt 7 7 3,u1 8 (.call 101) [.tm 6,.tm 7,.cn (.int .i64 1)],Ze 9 0 8,Ze 10 1 8,Zs 7 4 9,Zm 5 10] .ret))⟩
theorem YBq:Yf YGY Tryz.f147=some v147:=by kernel_rfl
def v79:VF:=⟨11,[.cell 4 true 7,.tmp 5],(ZR [u1 2 .box [.tm 0],u1 3 .box [.tm 1],u1 4 (.alloc [(.int .i64 0),(.int .i64 0),(.int .i64 0),(.int .i64 0),(.int .i64 0),(.int .i64 0),(.int .i64 0)]) [],Zi 5 0] (ZR [Zt 6 7 2,Zt 7 7 3,u1 8 (.call 101) [.tm 6,.tm 7,.cn (.int .i64 (-1))],Ze 9 0 8,Ze 10 1 8,Zs 7 4 9,Zm 5 10] .ret))⟩
theorem YGu:Yf YGY Tryz.f79=some v79:=by kernel_rfl
theorem YEK{hp:List HO}{n size j:Nat}{k:IntKind}{i:Int}:Yb4 hp n size [.ptr j 3,.int k i]=Yvw (getH hp j) n size j 3 i:=rfl
theorem q_fl6{get:Nat->List SV}:Yf0 6 0 get=get 0++(get 1++(get 2++(get 3++(get 4++(get 5++[]))))):=rfl
theorem YEL{hp:List HO}{n size:Nat}{t:Bool}{cs:List SV}{k:IntKind}{i:Int}:Yb4 hp n size [.xp t cs,.int k i]=YB (0<=i/\i<n/\n*size<=lenL cs) (.xp t (Yu (i.toNat*size) cs)):=rfl
attribute [go_sem] YEK YEL q_fl6
def Rt.num(r:Rt):Nat->Int
 |0=>r.a
 |1=>r.b
 |2=>r.c
 |3=>r.d
 |4=>r.e
 |_=>r.f
theorem six{i:Nat}(h:i<6):i=0\/i=1\/i=2\/i=3\/i=4\/i=5:=by omega
theorem Yfn(r:Rt){i:Nat}(h:i<6):YC 1 (Yu (i*1) [.int .i64 r.a,.int .i64 r.b,.int .i64 r.c,.int .i64 r.d,.int .i64 r.e,.int .i64 r.f])=[.int .i64 (r.num i)]:=by
 rcases six h with rfl|rfl|rfl|rfl|rfl|rfl <;> rfl
theorem Yoh(r:Rt){i:Nat}(h:i<6):YC 1 (Yu (idxN (i:Int) 1) [.int .i64 r.a,.int .i64 r.b,.int .i64 r.c,.int .i64 r.d,.int .i64 r.e,.int .i64 r.f,.int .i64 r.n])=[.int .i64 (r.num i)]:=by
 rcases six h with rfl|rfl|rfl|rfl|rfl|rfl <;> rfl
theorem Yog(r:Rt){i:Nat}(h:i<6):1<=lenL (Yu (idxN (i:Int) 1) [.int .i64 r.a,.int .i64 r.b,.int .i64 r.c,.int .i64 r.d,.int .i64 r.e,.int .i64 r.f,.int .i64 r.n]):=by
 rcases six h with rfl|rfl|rfl|rfl|rfl|rfl <;> exact YHJ rfl
def gP(r:Rt):Nat->Nat
 |0=>r.n.toNat
 |i+1=>YH6 (gP r i) (r.num i).natAbs
theorem gP_6(r:Rt):gP r 6=gcdR r:=rfl
theorem YyZ(r:Rt):∀i,gP r i<=r.n.toNat\/r.n.toNat=0
 |0=> .inl (YG8 _)
 |i+1=>by
   rcases YyZ r i with h|h
   . rcases YHR (gP r i)with h0|h0
     . right
       have key:∀j,gP r j=0->r.n.toNat=0:=fun j=>by
         induction j with
         |zero=>exact id
         |succ j ih=>intro hj;exact ih (Nat.gcd_eq_zero_iff.1 hj).1
       exact key i h0
     . left;exact YHc (Nat.gcd_le_left _ h0) h
   . exact .inr h
theorem YwU{r:Rt}(h:1<=r.n):∀i,1<=gP r i
 |0=>by show 1<=r.n.toNat;omega
 |i+1=>Nat.gcd_pos_of_pos_left _ (YwU h i)
def bad6(r:Rt):Bool:=badN r.a|| (badN r.b|| (badN r.c|| (badN r.d|| (badN r.e|| badN r.f))))
theorem YCT{r:Rt}{i:Nat}(h:i<6)(hb:badN (r.num i)=true):bad6 r=true:=by
 unfold bad6
 rcases six h with rfl|rfl|rfl|rfl|rfl|rfl <;> (simp only[Rt.num]at hb;rw[hb];simp)
theorem YCS{r:Rt}(h:∀i,i<6->badN (r.num i)=false):bad6 r=false:=by
 unfold bad6
 have h0:=h 0 (by decide);have h1:=h 1 (by decide);have h2:=h 2 (by decide);have h3:=h 3 (by decide);have h4:=h 4 (by decide);have h5:=h 5 (by decide)
 simp only[Rt.num]at h0 h1 h2 h3 h4 h5
 rw[h0,h1,h2,h3,h4,h5];rfl
theorem Yyz(r:Rt):chkR r=if r.n<1\/1000<r.n then 2 else if bad6 r=true then 2 else if 1<gcdR r then 6 else 0:=rfl
theorem YiY(x:Int)(h: -9000000000000000000<=x/\x<=9000000000000000000):max x (IntKind.i64.wrap (0-x))=(x.natAbs:Int):=by
 rw[YGZ (0-x) (by omega)]
 omega
def absC:Ctr:={ alias:=false,of:=fun l=>match l with
 | [.int .i64 x]=> .pre (-9000000000000000000<=x/\x<=9000000000000000000) (.fin (.int .i64 (x.natAbs:Nat)) [])
 |_=>noC}
def TB0:Env:={ ct:=fun _=>none,fn:=fun _=>none,meth:=fun _ _=>none}
theorem YB6:Yl YGY TB0:=by
 refine⟨fun f c h=>?_,fun f vf h=>?_,(fun _ _ _ h=>by cases h),by kernel_rfl,(fun _ h=>by cases h)⟩
 . cases h
 . cases h
theorem YCK:absC.ok YGY 115:=by
 refine Yb Tryz.func115 YAW YB6 100 absC fun args k h=>?_
 simp only[absC]at h
 split at h
 . rename_i x
   obtain⟨hx,h⟩:=h
   refine⟨[.int .i64 x],by simp [leL,le],?_⟩
   dsimp only[v115,go_sem,reduceIte,YGU]
   simp only[Yc,YGU,YGW,reduceCtorEq,YGV]
   rw[YiY x hx]
   exact Yi h
 . exact h.1.elim
def chkRC:Ctr:={ alias:=false,of:=fun l=>match l with
 | [.agg [.int .i64 a,.int .i64 b,.int .i64 c,.int .i64 d,.int .i64 e,.int .i64 f,.int .i64 n]]=> .fin (.int .i64 (chkR ⟨a,b,c,d,e,f,n⟩)) []
 |_=>noC}
def TB1:Env:={ ct:=fun n=>match n with|115=>some absC|114=>some gcdC|_=>none,fn:=fun _=>none,meth:=fun _ _=>none}
theorem Yk3:TB1.ct 115=some absC:=rfl
theorem Yk2:TB1.ct 114=some gcdC:=rfl
theorem YB7:Yl YGY TB1:=by
 refine⟨fun f c h=>?_,fun f vf h=>?_,(fun _ _ _ h=>by cases h),by kernel_rfl,(fun _ h=>by cases h)⟩
 . simp only[TB1]at h
   split at h
   . cases h;exact⟨YCK,Tryz.f115,Tryz.func115,by kernel_rfl,by kernel_rfl⟩
   . cases h;exact⟨Yy1,Tryz.f114,Tryz.func114,by kernel_rfl,by kernel_rfl⟩
   . cases h
 . cases h
theorem Yn5:chkRC.ok YGY 102:=by
 refine Yb Tryz.func102 YAJ YB7 300 chkRC fun args k h=>?_
 simp only[chkRC]at h
 split at h
 . rename_i a b c d e f n
   refine⟨[.agg [.int .i64 a,.int .i64 b,.int .i64 c,.int .i64 d,.int .i64 e,.int .i64 f,.int .i64 n]],by simp [leL,le],?_⟩
   obtain⟨r,hr⟩:∃r:Rt,r=⟨a,b,c,d,e,f,n⟩:=⟨_,rfl⟩
   rw[<-hr]at h
   have h:k (.int .i64 (chkR r)) []:=h
   rw[show a=r.a by rw[hr],show b=r.b by rw[hr],show c=r.c by rw[hr],show d=r.d by rw[hr],show e=r.e by rw[hr],show f=r.f by rw[hr],show n=r.n by rw[hr]]
   clear hr
   rw[Yyz]at h
   dsimp only[v102,go_sem,reduceIte,YGU]
   simp only[Yc,YGU,YGW,reduceCtorEq,YGV]
   refine⟨fun hc=>?_,fun hc=>?_⟩
   . rw[if_pos (by simpa using hc)]at h;exact Yi h
   have hn:1<=r.n/\r.n<=1000:=by simp only[YHq,decide_eq_false_iff_not]at hc;omega
   rw[if_neg (by omega)]at h
   refine Loop.keep [2,14] Nat (fun i=>[(3,.int .i64 (gP r i:Nat)),(18,.int .i64 i)]) (fun _=>[]) [] (fun i=>i<=6/\∀j,j<i->badN (r.num j)=false) (fun i=>6-i) ?_ ?_
   . refine⟨0,⟨by omega,fun j hj=>by omega⟩,?_⟩
     dsimp only[go_sem,reduceIte,YGU]
     simp only[Ya]
     exact⟨(YHs (by omega)).symm,rfl⟩
   . rintro i ⟨hi,hall⟩
     dsimp only[Yk3,Yk2,absC,gcdC,YG0,go_sem,reduceIte,YGU]
     simp only[Yc,YGU,YGW,reduceCtorEq,YGV]
     refine⟨fun hlt=>?_,fun hge=>?_⟩
     . have hi6:i<6:=by omega
       rw[Yfn r hi6]
       dsimp only[Yk3,Yk2,absC,gcdC,go_sem,reduceIte,YGU]
       simp only[Yc,YGU,YGW,reduceCtorEq,YGV]
       have hgl:gP r i<=1000:=by rcases YyZ r i with h1|h1 <;> omega
       refine⟨⟨by omega,by omega⟩,fun hb=>?_,fun hb=>⟨?_,gP r i,(r.num i).natAbs,⟨rfl,rfl,by omega,?_⟩,i+1,⟨by omega,fun j hj=>?_⟩,by omega,?_⟩⟩
       . rw[if_pos (YCT hi6 hb)]at h;exact Yi h
       . have:=YdG hb;omega
       . have:=YdG hb;omega
       . rcases YHE j i with h1|h1
         . exact hall j h1
         . obtain rfl:j=i:=by omega
           exact hb
       . rw[YGZ ((i:Int)+1) (by omega)]
         simp only[Ya]
         exact⟨rfl,by simp⟩
     . obtain rfl:i=6:=by omega
       rw[if_neg (by rw[YCS hall];decide),<-gP_6]at h
       refine⟨fun hc=>?_,fun hc=>?_⟩
       . rw[if_pos (by omega)]at h;exact Yi h
       . rw[if_neg (by omega)]at h;exact Yi h
 . exact h.1.elim
def Yih(q:Nat->Int)(n:Int)(i:Nat):List SV:=
 [.int .i64 (if 0<i then q 0 else 0),.int .i64 (if 1<i then q 1 else 0),.int .i64 (if 2<i then q 2 else 0),.int .i64 (if 3<i then q 3 else 0),.int .i64 (if 4<i then q 4 else 0),.int .i64 (if 5<i then q 5 else 0),.int .i64 n]
theorem Yyy(q:Nat->Int)(n:Int):Yih q n 6=[.int .i64 (q 0),.int .i64 (q 1),.int .i64 (q 2),.int .i64 (q 3),.int .i64 (q 4),.int .i64 (q 5),.int .i64 n]:=rfl
theorem Yrp(q:Nat->Int)(n:Int)(i:Nat):lenL (Yih q n i)=7:=rfl
theorem Y6(q:Nat->Int)(n:Int)(i m:Nat):bndL m (Yih q n i):=by simp [Yih,bndL,bnd]
theorem Ypp(q:Nat->Int)(n:Int){i:Nat}(h:i<6):YZ (Yih q n i) (idxN (i:Int) 1) [.int .i64 (q i)]=Yih q n (i+1):=by
 rcases six h with rfl|rfl|rfl|rfl|rfl|rfl <;> rfl
theorem YlO(i:Nat):idxN (i:Int) 1=i:=by simp [idxN]
theorem YtO(x:Int)(g:Nat)(h: -9000000000000000000<=x/\x<=9000000000000000000): -9000000000000000000<=x.tdiv g/\x.tdiv g<=9000000000000000000:=by
 have h1:(x.tdiv g).natAbs<=x.natAbs:=by
   rw[Int.natAbs_tdiv]
   exact Nat.div_le_self _ _
 omega
def madeC:Ctr:={ alias:=false,of:=fun l=>match l with
 | [.agg [.int .i64 a,.int .i64 b,.int .i64 c,.int .i64 d,.int .i64 e,.int .i64 f],.int .i64 n]=>
   .pre (1<=n/\n<=9000000000000000000/\∀i,i<6-> -9000000000000000000<=(Rt.mk a b c d e f n).num i/\(Rt.mk a b c d e f n).num i<=9000000000000000000) (.fin (.tup [.agg (encR (Ydy ⟨a,b,c,d,e,f,n⟩).1),.int .i64 (Ydy ⟨a,b,c,d,e,f,n⟩).2]) [])
 |_=>noC}
theorem Yci{k:SV->List HO->Prop}{al:Bool}{hp:List HO}{r:Rt}{e:Int}(h:k (.tup [.agg (encR r),.int .i64 e]) []):Yy al k (.tup [.agg (encR r),.int .i64 e]) hp:=
 YD (show k _ []from h) (Yw (.tup [.agg (encR r),.int .i64 e]) ⟨⟨trivial,trivial,trivial,trivial,trivial,trivial,trivial,trivial⟩,trivial,trivial⟩) (fun _=>by simp [Yj,Yk,encR])
theorem YuU{k:SV->List HO->Prop}{al:Bool}{hp:List HO}{r:Rt}(h:k (.agg (encR r)) []):Yy al k (.agg (encR r)) hp:=
 YD (show k _ []from h) (Yw (.agg (encR r)) ⟨trivial,trivial,trivial,trivial,trivial,trivial,trivial,trivial⟩) (fun _=>by simp [Yj,Yk,encR])
def TB2:Env:={ ct:=fun n=>match n with|115=>some absC|114=>some gcdC|102=>some chkRC|_=>none,fn:=fun _=>none,meth:=fun _ _=>none}
theorem Yk5:TB2.ct 115=some absC:=rfl
theorem Yk4:TB2.ct 114=some gcdC:=rfl
theorem Yg8:TB2.ct 102=some chkRC:=rfl
theorem YB8:Yl YGY TB2:=by
 refine⟨fun f c h=>?_,fun f vf h=>?_,(fun _ _ _ h=>by cases h),by kernel_rfl,(fun _ h=>by cases h)⟩
 . simp only[TB2]at h
   split at h
   . cases h;exact⟨YCK,Tryz.f115,Tryz.func115,by kernel_rfl,by kernel_rfl⟩
   . cases h;exact⟨Yy1,Tryz.f114,Tryz.func114,by kernel_rfl,by kernel_rfl⟩
   . cases h;exact⟨Yn5,Tryz.f102,Tryz.func102,by kernel_rfl,by kernel_rfl⟩
   . cases h
 . cases h
theorem YsK:madeC.ok YGY 113:=by
 refine Yb Tryz.func113 YAU YB8 300 madeC fun args k h=>?_
 simp only[madeC]at h
 split at h
 . rename_i a b c d e f n
   refine⟨[.agg [.int .i64 a,.int .i64 b,.int .i64 c,.int .i64 d,.int .i64 e,.int .i64 f],.int .i64 n],by simp [leL,le],?_⟩
   obtain⟨r,hr⟩:∃r:Rt,r=⟨a,b,c,d,e,f,n⟩:=⟨_,rfl⟩
   rw[<-hr]at h
   rw[show a=r.a by rw[hr],show b=r.b by rw[hr],show c=r.c by rw[hr],show d=r.d by rw[hr],show e=r.e by rw[hr],show f=r.f by rw[hr]]
   rw[show n=r.n by rw[hr]]at h⊢
   clear hr
   obtain⟨⟨hn,hn2,hb⟩,h⟩:=h
   have h:k (.tup [.agg (encR (Ydy r).1),.int .i64 (Ydy r).2]) []:=h
   dsimp only[v113,go_sem,reduceIte,YGU]
   simp only[Yc,YGU,YGW,reduceCtorEq,YGV]
   refine Loop.keep [1,0,1,0,7] Nat (fun i=>[(6,.int .i64 (gP r i:Nat)),(14,.int .i64 i)]) (fun _=>[]) [] (fun i=>i<=6) (fun i=>6-i) ?_ ?_
   . refine⟨0,by omega,?_⟩
     dsimp only[go_sem,reduceIte,YGU]
     simp only[Ya]
     repeat' apply YHd
     all_goals first|exact trivial|decide|rfl|omega|exact(YHs (by omega)).symm|exact Yp _ (Y6 _ _ _ _) |simp
   . rintro i hi
     dsimp only[Yk5,Yk4,absC,gcdC,YG0,go_sem,reduceIte,YGU]
     simp only[Yc,YGU,YGW,reduceCtorEq,YGV]
     have hgl:gP r i<=9000000000000000000:=by rcases YyZ r i with h1|h1 <;> omega
     have hg0:=YwU hn i
     refine⟨fun hlt=>?_,fun hge=>?_⟩
     . have hi6:i<6:=by omega
       rw[Yfn r hi6]
       dsimp only[Yk5,Yk4,absC,gcdC,go_sem,reduceIte,YGU]
       simp only[Yc,YGU,YGW,reduceCtorEq,YGV]
       refine⟨⟨by omega,by omega⟩,hb i hi6,gP r i,(r.num i).natAbs,⟨rfl,rfl,by omega,?_⟩,i+1,by omega,by omega,?_⟩
       . have:=hb i hi6;omega
       . rw[YGZ ((i:Int)+1) (by omega)]
         simp only[Ya]
         repeat' apply YHd
         all_goals first|exact trivial|decide|rfl|omega|exact(YHs (by omega)).symm|exact Yp _ (Y6 _ _ _ _) |simp
     . obtain rfl:i=6:=by omega
       rw[gP_6]at hgl hg0⊢
       obtain⟨g,hg⟩:∃g,g=gcdR r:=⟨_,rfl⟩
       rw[Ydy,<-hg]at h
       rw[<-hg]at hgl hg0⊢
       have hdn:=YtO r.n g (by omega)
       rw[YGZ (r.n.tdiv (g:Int)) (by omega)]
       refine⟨by omega,?_⟩
       refine Loop.keep [4,0,0,2,16] Nat (fun i=>[(27,.int .i64 i)]) (fun i=>[(2,.box (Yih (fun j=>(r.num j).tdiv g) (r.n.tdiv g) i))]) [] (fun i=>i<=6) (fun i=>6-i) ?_ ?_
       . refine⟨0,by omega,?_⟩
         dsimp only[Yih,go_sem,reduceIte,YGU]
         simp only[Ya]
         repeat' apply YHd
         all_goals first|exact trivial|decide|rfl|omega|exact(YHs (by omega)).symm|exact Yp _ (Y6 _ _ _ _) |simp
       . rintro i hi
         dsimp only[Yg8,chkRC,YG0,go_sem,reduceIte,YGU]
         simp only[Yc,YGU,YGW,reduceCtorEq,YGV]
         refine⟨fun hlt=>?_,fun hge=>?_⟩
         . have hi6:i<6:=by omega
           rw[Yfn r hi6]
           dsimp only[Yg8,chkRC,go_sem,reduceIte,YGU]
           simp only[Yc,YGU,YGW,reduceCtorEq,YGV]
           have hw:=YtO (r.num i) g (hb i hi6)
           have e:YZ (Yih (fun j=>(r.num j).tdiv g) (r.n.tdiv g) i) (idxN (i:Int) 1) [.int .i64 ((r.num i).tdiv g)]=Yih (fun j=>(r.num j).tdiv g) (r.n.tdiv g) (i+1):=Ypp (fun j=>(r.num j).tdiv g) (r.n.tdiv g) hi6
           rw[YGZ ((r.num i).tdiv g) (by omega),YGZ ((i:Int)+1) (by omega),e]
           refine⟨⟨by omega,by omega⟩,by omega,⟨by omega,by omega⟩,by rw[YlO,Yrp];omega,i+1,by omega,by omega,?_⟩
           simp only[Ya]
           repeat' apply YHd
           all_goals first|exact trivial|decide|rfl|omega|exact(YHs (by omega)).symm|exact Yp _ (Y6 _ _ _ _) |simp
         . obtain rfl:i=6:=by omega
           simp only[Yyy]
           dsimp only[Yg8,chkRC,Rt.num,go_sem,reduceIte,YGU]
           simp only[Yc,YGU,YGW,reduceCtorEq,YGV]
           refine⟨fun hc=>?_,fun hc=>?_⟩
           . rw[if_neg (show¬chkR (divR r g)=0 from hc)]at h;exact Yci (r:=YaQ) (e:=7) h
           . rw[if_pos (show chkR (divR r g)=0 from hc)]at h;exact Yci (r:=divR r g) (e:=0) h
 . exact h.1.elim
def orF:List Int->Int
 | []=>0
 |x::l=>if x≠0 then x else orF l
theorem YEn{l:List Int}{i:Nat}(hi:i<l.length)(h:∀j,j<i->l.getD j 0=0)(hx:l.getD i 0≠0):orF l=l.getD i 0:=by
 induction l generalizing i with
 |nil=>simp at hi
 |cons x l ih=>
   cases i with
   |zero=>exact if_pos hx
   |succ i=>
     rw[orF,if_neg (by have:=h 0 (by omega);simpa using this)]
     exact ih (by simpa using hi) (fun j hj=>h (j+1) (by omega)) hx
theorem YvY{l:List Int}(h:∀j,j<l.length->l.getD j 0=0):orF l=0:=by
 induction l with
 |nil=>rfl
 |cons x l ih=>
   rw[orF,if_neg (by have:=h 0 (by simp);simpa using this)]
   exact ih fun j hj=>h (j+1) (by simpa using hj)
def orC:Ctr:={ alias:=false,of:=fun l=>match l with
 | [.vs _ _ n sz get]=> .ex (List Int) fun l=> .pre (lsP 1 enc1 n sz get l/\n<=1000000) (.fin (.int .i64 (orF l)) [])
 |_=>noC}
def TB3:Env:={ ct:=fun _=>none,fn:=fun _=>none,meth:=fun _ _=>none}
theorem YB9:Yl YGY TB3:=by
 refine⟨fun f c h=>?_,fun f vf h=>?_,(fun _ _ _ h=>by cases h),by kernel_rfl,(fun _ h=>by cases h)⟩
 . cases h
 . cases h
theorem or_c:orC.ok YGY 133:=by
 refine Yb Tryz.func133 YBd YB9 300 orC fun args k h=>?_
 simp only[orC]at h
 split at h
 . rename_i tt z n sz get
   obtain⟨l,⟨⟨rfl,rfl,hg⟩,hn⟩,h⟩:=h
   refine⟨[.vs tt z l.length 1 (fun k=>enc1 (l.getD k default))],⟨⟨id,rfl,rfl,rfl,hg⟩,trivial⟩,?_⟩
   have h:k (.int .i64 (orF l)) []:=h
   dsimp only[v133,enc1,go_sem,reduceIte,YGU]
   simp only[Yc,YGU,YGW,reduceCtorEq,YGV]
   refine Loop.keep [3,2,0] Nat (fun i=>[(8,.int .i64 i)]) (fun _=>[]) [] (fun i=>i<=l.length/\∀j,j<i->l.getD j 0=0) (fun i=>l.length-i) ?_ ?_
   . refine⟨0,⟨by omega,fun j hj=>by omega⟩,?_⟩
     dsimp only[go_sem,reduceIte,YGU]
     simp only[Ya]
     repeat' apply YHd
     all_goals first|exact trivial|decide|rfl|omega|exact(YHs (by omega)).symm|exact Yp _ (Y6 _ _ _ _) |simp
   . rintro i ⟨hi,hall⟩
     dsimp only[enc1,YG0,go_sem,reduceIte,YGU]
     simp only[Yc,YGU,YGW,reduceCtorEq,YGV]
     refine⟨fun hlt=>⟨⟨by omega,by omega⟩,fun hc=>?_,fun hc=>⟨i+1,⟨by omega,fun j hj=>?_⟩,by omega,?_⟩⟩,fun hge=>?_⟩
     . rw[YEn (by omega) hall hc]at h;exact Yi h
     . rcases YHE j i with h1|h1
       . exact hall j h1
       . obtain rfl:j=i:=by omega
         exact hc
     . rw[YGZ ((i:Int)+1) (by omega)]
       simp only[Ya]
       repeat' apply YHd
       all_goals first|exact trivial|decide|rfl|omega|exact(YHs (by omega)).symm|exact Yp _ (Y6 _ _ _ _) |simp
     . obtain rfl:i=l.length:=by omega
       rw[YvY hall]at h;exact Yi h
 . exact h.1.elim
def TB5:Env:={ ct:=fun n=>match n with|133=>some orC|_=>none,fn:=fun _=>none,meth:=fun _ _=>none}
theorem Yqq:TB5.ct 133=some orC:=rfl
theorem YCb:Yl YGY TB5:=by
 refine⟨fun f c h=>?_,fun f vf h=>?_,(fun _ _ _ h=>by cases h),by kernel_rfl,(fun _ h=>by cases h)⟩
 . simp only[TB5]at h
   split at h
   . cases h;exact⟨or_c,Tryz.f133,Tryz.func133,by kernel_rfl,by kernel_rfl⟩
   . cases h
 . cases h
theorem YyU:orC.ok YGY 112:=by
 refine Yb Tryz.func112 YAT YCb 300 orC fun args k h=>?_
 simp only[orC]at h
 split at h
 . rename_i tt z n sz get
   obtain⟨l,⟨⟨rfl,rfl,hg⟩,hn⟩,h⟩:=h
   refine⟨[.vs tt z l.length 1 (fun k=>enc1 (l.getD k default))],⟨⟨id,rfl,rfl,rfl,hg⟩,trivial⟩,?_⟩
   have h:k (.int .i64 (orF l)) []:=h
   dsimp only[v112,Yqq,orC,enc1,go_sem,reduceIte,YGU]
   simp only[Yc,YGU,YGW,reduceCtorEq,YGV]
   exact⟨l,⟨⟨rfl,rfl,fun k _=>Yd _⟩,hn⟩,Yi h⟩
 . exact h.1.elim
def Yim(q:Nat->Int)(i k:Nat):Int:=if k<i then q k else 0
theorem YEr(q:Nat->Int):Yim q 6 0=q 0:=rfl
theorem YEs(q:Nat->Int):Yim q 6 1=q 1:=rfl
theorem YEt(q:Nat->Int):Yim q 6 2=q 2:=rfl
theorem YEu(q:Nat->Int):Yim q 6 3=q 3:=rfl
theorem YEv(q:Nat->Int):Yim q 6 4=q 4:=rfl
theorem YEw(q:Nat->Int):Yim q 6 5=q 5:=rfl
theorem YpE(q:Nat->Int)(i k:Nat):(if k=i then q i else Yim q i k)=Yim q (i+1) k:=by
 unfold Yim
 by_cases h:k=i
 . subst h;rw[if_pos rfl,if_pos (by omega)]
 . rw[if_neg h]
   by_cases h2:k<i
   . rw[if_pos h2,if_pos (by omega)]
   . rw[if_neg h2,if_neg (by omega)]
theorem YGT{i:Nat}(h:i<6):YaW 1 [.int .i64 0,.int .i64 0,.int .i64 0,.int .i64 0,.int .i64 0,.int .i64 0] i=[.int .i64 0]:=by
 rcases six h with rfl|rfl|rfl|rfl|rfl|rfl <;> rfl
def YdT(x y:Rt)(s:Int)(i:Nat):Int:=x.num i*y.n+s*y.num i*x.n
theorem Yoz(x y:Rt)(s:Int):Ybq x y s=if chkR x≠0 then(YaQ,chkR x)else if chkR y≠0 then(YaQ,chkR y)else Ydy ⟨YdT x y s 0,YdT x y s 1,YdT x y s 2,YdT x y s 3,YdT x y s 4,YdT x y s 5,x.n*y.n⟩:=rfl
theorem Yee{r:Rt}(h:chkR r=0){i:Nat}(hi:i<6): -100000<=r.num i/\r.num i<=100000:=by
 obtain⟨_,h1,h2,h3,h4,h5,h6,_⟩:=Yhr h
 rcases six hi with rfl|rfl|rfl|rfl|rfl|rfl
 . exact YdG h1
 . exact YdG h2
 . exact YdG h3
 . exact YdG h4
 . exact YdG h5
 . exact YdG h6
theorem Ygk{r:Rt}(h:chkR r=0):1<=r.n/\r.n<=1000:=(Yhr h).1
theorem Ysg{x y:Rt}{s:Int}(hx:chkR x=0)(hy:chkR y=0)(hs:s=1\/s= -1){i:Nat}(hi:i<6):
   IntKind.i64.wrap (x.num i*y.n)=x.num i*y.n/\IntKind.i64.wrap (s*y.num i)=s*y.num i/\IntKind.i64.wrap (s*y.num i*x.n)=s*y.num i*x.n/\IntKind.i64.wrap (x.num i*y.n+s*y.num i*x.n)=YdT x y s i/\ -1000000000<=YdT x y s i/\YdT x y s i<=1000000000:=by
 have a1:=Yee hx hi
 have a2:=Yee hy hi
 have a3:=Ygk hx
 have a4:=Ygk hy
 have b1:=YaS (x:=x.num i) (y:=y.n) (X:=100000) (Y:=1000) a1 (by omega)
 have a5: -100000<=s*y.num i/\s*y.num i<=100000:=by rcases hs with rfl|rfl <;> omega
 have b2:=YaS (x:=s*y.num i) (y:=x.n) (X:=100000) (Y:=1000) a5 (by omega)
 unfold YdT
 refine⟨YGZ _ (by omega),YGZ _ (by omega),YGZ _ (by omega),YGZ _ (by omega),by omega,by omega⟩
def joinC:Ctr:={ alias:=false,of:=fun l=>match l with
 | [.agg [.int .i64 a,.int .i64 b,.int .i64 c,.int .i64 d,.int .i64 e,.int .i64 f,.int .i64 n],.agg [.int .i64 a',.int .i64 b',.int .i64 c',.int .i64 d',.int .i64 e',.int .i64 f',.int .i64 n'],.int .i64 s]=>
   .pre (s=1\/s= -1) (.fin (.tup [.agg (encR (Ybq ⟨a,b,c,d,e,f,n⟩ ⟨a',b',c',d',e',f',n'⟩ s).1),.int .i64 (Ybq ⟨a,b,c,d,e,f,n⟩ ⟨a',b',c',d',e',f',n'⟩ s).2]) [])
 |_=>noC}
def TB4:Env:={ ct:=fun n=>match n with|102=>some chkRC|113=>some madeC|112=>some orC|_=>none,fn:=fun _=>none,meth:=fun _ _=>none}
theorem Yqo:TB4.ct 102=some chkRC:=rfl
theorem Yfc:TB4.ct 113=some madeC:=rfl
theorem Yqp:TB4.ct 112=some orC:=rfl
theorem YCa:Yl YGY TB4:=by
 refine⟨fun f c h=>?_,fun f vf h=>?_,(fun _ _ _ h=>by cases h),by kernel_rfl,(fun _ h=>by cases h)⟩
 . simp only[TB4]at h
   split at h
   . cases h;exact⟨Yn5,Tryz.f102,Tryz.func102,by kernel_rfl,by kernel_rfl⟩
   . cases h;exact⟨YsK,Tryz.f113,Tryz.func113,by kernel_rfl,by kernel_rfl⟩
   . cases h;exact⟨YyU,Tryz.f112,Tryz.func112,by kernel_rfl,by kernel_rfl⟩
   . cases h
 . cases h
theorem YDH:joinC.ok YGY 101:=by
 refine Yb Tryz.func101 YAI YCa 300 joinC fun args k h=>?_
 simp only[joinC]at h
 split at h
 . rename_i a b c d e f n a' b' c' d' e' f' n' s
   refine⟨[.agg [.int .i64 a,.int .i64 b,.int .i64 c,.int .i64 d,.int .i64 e,.int .i64 f,.int .i64 n],.agg [.int .i64 a',.int .i64 b',.int .i64 c',.int .i64 d',.int .i64 e',.int .i64 f',.int .i64 n'],.int .i64 s],by simp [leL,le],?_⟩
   obtain⟨x,hx⟩:∃r:Rt,r=⟨a,b,c,d,e,f,n⟩:=⟨_,rfl⟩
   obtain⟨y,hy⟩:∃r:Rt,r=⟨a',b',c',d',e',f',n'⟩:=⟨_,rfl⟩
   rw[<-hx,<-hy]at h
   rw[show a=x.a by rw[hx],show b=x.b by rw[hx],show c=x.c by rw[hx],show d=x.d by rw[hx],show e=x.e by rw[hx],show f=x.f by rw[hx],show n=x.n by rw[hx]]
   rw[show a'=y.a by rw[hy],show b'=y.b by rw[hy],show c'=y.c by rw[hy],show d'=y.d by rw[hy],show e'=y.e by rw[hy],show f'=y.f by rw[hy],show n'=y.n by rw[hy]]
   clear hx hy
   obtain⟨hs,h⟩:=h
   have h:k (.tup [.agg (encR (Ybq x y s).1),.int .i64 (Ybq x y s).2]) []:=h
   dsimp only[v101,Yqo,chkRC,Yqp,orC,go_sem,reduceIte,YGU]
   simp only[Yc,YGU,YGW,reduceCtorEq,YGV]
   refine⟨by decide,[chkR x,chkR y],⟨rfl,rfl,fun k hk=>?_⟩,fun hc=>?_,fun hc=>?_⟩
   . match k,hk with
     |0,_=>exact Yd _
     |1,_=>exact Yd _
   . rw[Yoz]at h
     by_cases h0:chkR x=0
     . rw[if_neg (by rw[h0];decide)]at h
       have e:orF [chkR x,chkR y]=chkR y:=by
         rw[orF,if_neg (by rw[h0];decide),orF]
         split
         . rfl
         . rename_i h1;rw[orF];omega
       rw[e]at hc⊢
       rw[if_pos hc]at h
       exact Yci (r:=YaQ) h
     . have e:orF [chkR x,chkR y]=chkR x:=by rw[orF,if_pos h0]
       rw[e]
       rw[if_pos h0]at h
       exact Yci (r:=YaQ) h
   have hcx:chkR x=0:=by
     by_cases h0:chkR x=0
     . exact h0
     . rw[orF,if_pos h0]at hc;exact absurd hc h0
   have hcy:chkR y=0:=by
     rw[orF,if_neg (by rw[hcx];decide),orF]at hc
     by_cases h0:chkR y=0
     . exact h0
     . rw[if_pos h0]at hc;exact absurd hc h0
   rw[Yoz,if_neg (by rw[hcx];decide),if_neg (by rw[hcy];decide)]at h
   refine Loop.keep [2,0,0,1,0,1] Nat (fun i=>[(21,.int .i64 i)]) (fun i=>[(4,.own false 1 6 (fun k=>[.int .i64 (Yim (YdT x y s) i k)]))]) [] (fun i=>i<=6) (fun i=>6-i) ?_ ?_
   . refine⟨0,by omega,?_⟩
     dsimp only[go_sem,reduceIte,YGU]
     simp only[Ya]
     refine⟨⟨by decide,by decide,by decide,by decide,rfl⟩,fun k hk=>?_⟩
     rw[YGT hk]
     exact⟨⟨rfl,rfl⟩,trivial⟩
   . rintro i hi
     dsimp only[Yfc,madeC,YG0,go_sem,reduceIte,YGU]
     simp only[Yc,YGU,YGW,reduceCtorEq,YGV]
     refine⟨fun hlt=>?_,fun hge=>?_⟩
     . have hi6:i<6:=by omega
       have d1:=Yog x hi6
       have d2:=Yog y hi6
       rw[Yoh x hi6]
       dsimp only[Yfc,madeC,YG0,go_sem,reduceIte,YGU]
       simp only[Yc,YGU,YGW,reduceCtorEq,YGV]
       rw[Yoh y hi6]
       dsimp only[Yfc,madeC,YG0,go_sem,reduceIte,YGU]
       simp only[Yc,YGU,YGW,reduceCtorEq,YGV]
       obtain⟨j1,j2,j3,j4,_⟩:=Ysg hcx hcy hs hi6
       rw[j1,j2,j3,j4]
       refine⟨⟨by omega,by omega⟩,d1,⟨by omega,by omega⟩,d2,⟨by omega,by omega⟩,hi6,i+1,by omega,by omega,?_⟩
       rw[YGZ ((i:Int)+1) (by omega)]
       simp only[Ya]
       refine⟨⟨by decide,by decide,by decide,by decide,by simp⟩,?_⟩
       intro k hk
       rw[<-YpE]
       split
       . exact⟨⟨rfl,rfl⟩,trivial⟩
       . exact⟨⟨rfl,rfl⟩,trivial⟩
     . obtain rfl:i=6:=by omega
       have a3:=Ygk hcx
       have a4:=Ygk hcy
       have hm:=YaS (x:=x.n) (y:=y.n) (X:=1000) (Y:=1000) (by omega) (by omega)
       have hm1:1<=x.n*y.n:=Int.mul_pos (by omega) (by omega)
       rw[YGZ (x.n*y.n) (by omega)]
       simp only[YEr,YEs,YEt,YEu,YEv,YEw]
       dsimp only[Yfc,madeC,encR,go_sem,reduceIte,YGU]
       simp only[Yc,YGU,YGW,reduceCtorEq,YGV]
       refine⟨⟨hm1,by omega,fun i hi=>?_⟩,?_⟩
       . have:=(Ysg hcx hcy hs hi).2.2.2.2
         rcases six hi with rfl|rfl|rfl|rfl|rfl|rfl <;> (simp only[Rt.num];omega)
       . exact⟨by decide,by decide,Yci (r:=(Ydy ⟨YdT x y s 0,YdT x y s 1,YdT x y s 2,YdT x y s 3,YdT x y s 4,YdT x y s 5,x.n*y.n⟩).1) h⟩
 . exact h.1.elim
def YdY(s:Int):Ctr:={ alias:=false,of:=fun l=>match l with
 | [.agg [.int .i64 a,.int .i64 b,.int .i64 c,.int .i64 d,.int .i64 e,.int .i64 f,.int .i64 n],.agg [.int .i64 a',.int .i64 b',.int .i64 c',.int .i64 d',.int .i64 e',.int .i64 f',.int .i64 n']]=>
   .fin (.tup [.agg (encR (Ybq ⟨a,b,c,d,e,f,n⟩ ⟨a',b',c',d',e',f',n'⟩ s).1),.int .i64 (Ybq ⟨a,b,c,d,e,f,n⟩ ⟨a',b',c',d',e',f',n'⟩ s).2]) []
 |_=>noC}
def TB6:Env:={ ct:=fun n=>match n with|101=>some joinC|_=>none,fn:=fun _=>none,meth:=fun _ _=>none}
theorem Yk6:TB6.ct 101=some joinC:=rfl
theorem YwD:Yl YGY TB6:=by
 refine⟨fun f c h=>?_,fun f vf h=>?_,(fun _ _ _ h=>by cases h),by kernel_rfl,(fun _ h=>by cases h)⟩
 . simp only[TB6]at h
   split at h
   . cases h;exact⟨YDH,Tryz.f101,Tryz.func101,by kernel_rfl,by kernel_rfl⟩
   . cases h
 . cases h
theorem YEa:(YdY 1).ok YGY 147:=by
 refine Yb Tryz.func147 YBq YwD 300 (YdY 1) fun args k h=>?_
 simp only[YdY]at h
 split at h
 . rename_i a b c d e f n a' b' c' d' e' f' n'
   refine⟨[.agg [.int .i64 a,.int .i64 b,.int .i64 c,.int .i64 d,.int .i64 e,.int .i64 f,.int .i64 n],.agg [.int .i64 a',.int .i64 b',.int .i64 c',.int .i64 d',.int .i64 e',.int .i64 f',.int .i64 n']],by simp [leL,le],?_⟩
   dsimp only[v147,Yk6,joinC,encR,go_sem,reduceIte,YGU]
   simp only[Yc,YGU,YGW,reduceCtorEq,YGV]
   exact⟨by decide,by decide,by decide,Yci (r:=(Ybq ⟨a,b,c,d,e,f,n⟩ ⟨a',b',c',d',e',f',n'⟩ 1).1) h⟩
 . exact h.1.elim
theorem YwL:(YdY (-1)).ok YGY 79:=by
 refine Yb Tryz.func79 YGu YwD 300 (YdY (-1)) fun args k h=>?_
 simp only[YdY]at h
 split at h
 . rename_i a b c d e f n a' b' c' d' e' f' n'
   refine⟨[.agg [.int .i64 a,.int .i64 b,.int .i64 c,.int .i64 d,.int .i64 e,.int .i64 f,.int .i64 n],.agg [.int .i64 a',.int .i64 b',.int .i64 c',.int .i64 d',.int .i64 e',.int .i64 f',.int .i64 n']],by simp [leL,le],?_⟩
   dsimp only[v79,Yk6,joinC,encR,go_sem,reduceIte,YGU]
   simp only[Yc,YGU,YGW,reduceCtorEq,YGV]
   exact⟨by decide,by decide,by decide,Yci (r:=(Ybq ⟨a,b,c,d,e,f,n⟩ ⟨a',b',c',d',e',f',n'⟩ (-1)).1) h⟩
 . exact h.1.elim
def v80:VF:=⟨34,[.tmp 2,.tmp 3,.tmp 4],(ZR [u1 1 .box [.tm 0],u1 2 .mov [.cn .nil],Zi 3 0,Zi 4 0] (.seq (ZR [Zt 9 7 1,Zc 10 102 9,Zm 5 10] (ZR [Zm 11 5,Zq 12 .neq 11 0] (ZC 12 (ZR [Zm 13 5,u1 2 .mov [.cn .nil],Zi 3 0,Zm 4 13] .ret) .skip))) (ZR [u1 6 .mov [.cn .nil]] (.seq (ZR [Za 14 0 1,Zt 15 6 14,Zi 16 0] (.block 0 (.loop (ZR [Zq 17 .lss 16 6] (.seq (ZC 17 .skip (.exit 0)) (.seq (.block 1 (ZR [Zm 18 16,u1 19 (.index false 6 1) [.tm 15,.tm 16],Zm 7 18,Zm 8 19] (ZR [Zm 20 8,Zq 21 .neq 20 0] (ZC 21 (.region [Zm 22 6,Zm 23 7,u1 24 (.idxArr 6 1) [.cn (.xp false [(.int .i64 2),(.int .i64 3),(.int .i64 5),(.int .i64 7),(.int .i64 11),(.int .i64 13)]),.tm 23],Zf 25 1 24,Zm 26 8,u1 27 (.build [(.int .i64 0),(.int .i64 0)] [(0,1),(1,1)]) [.tm 25,.tm 26],u1 28 (.buildSlice 2 1 [(.int .i64 0),(.int .i64 0)] [(0,2)]) [.tm 27],u1 29 (.append 2 16 [(.int .i64 0),(.int .i64 0)]) [.tm 22,.tm 28],Zm 6 29]) .skip)))) (.region [Zp 30 16 1,Zm 16 30]))))))) (.seq (.draw [] [Zu 31 6,Zy 32 6 1,Zv 33 1 32,Zu 2 31,Zu 3 33,w1 4 .mov [.cn (.int .i64 0)]]) .ret)))))⟩
theorem YGv:Yf YGY Tryz.f80=some v80:=by kernel_rfl
def v144:VF:=⟨62,[.cell 6 true 7,.tmp 7],(ZR [u1 3 .box [.tm 0],u1 6 (.alloc [(.int .i64 0),(.int .i64 0),(.int .i64 0),(.int .i64 0),(.int .i64 0),(.int .i64 0),(.int .i64 0)]) [],Zi 7 0] (.seq (ZR [Zt 10 7 3,Zc 11 102 10,Zm 8 11] (ZR [Zm 12 8,Zq 13 .neq 12 0] (ZC 13 (ZR [u1 14 (.build [(.int .i64 0),(.int .i64 0),(.int .i64 0),(.int .i64 0),(.int .i64 0),(.int .i64 0),(.int .i64 0)] []) [],Zm 15 8,Zs 7 6 14,Zm 7 15] .ret) .skip))) (.seq (ZR [Zm 16 1,Zq 17 .lss 16 (-1000),Zm 18 17,Zg 19 18 false 1,u2 20 18 false (.cmp .gtr) [.tm 19,.cn (.int .i64 1000)],u1 21 .or [.tm 18,.tm 20],Zm 22 21,Zg 23 22 false 2,u2 24 22 false (.cmp .lss) [.tm 23,.cn (.int .i64 (-1000))],u1 25 .or [.tm 22,.tm 24],Zm 26 25,Zg 27 26 false 2,u2 28 26 false (.cmp .gtr) [.tm 27,.cn (.int .i64 1000)],u1 29 .or [.tm 26,.tm 28],Zm 30 29,Zg 31 30 false 2,u2 32 30 false (.cmp .eql) [.tm 31,.cn (.int .i64 0)],u1 33 .or [.tm 30,.tm 32]] (ZC 33 (ZR [u1 34 (.build [(.int .i64 0),(.int .i64 0),(.int .i64 0),(.int .i64 0),(.int .i64 0),(.int .i64 0),(.int .i64 0)] []) [],Zs 7 6 34,Zi 7 2] .ret) .skip)) (.seq (ZR [Zm 35 2,Zq 36 .lss 35 0] (ZC 36 (.region [Zm 37 1,u1 38 .neg [.tm 37],Zm 39 2,u1 40 .neg [.tm 39],Zm 1 38,Zm 2 40]) .skip)) (.seq (ZR [Zi 41 0] (.block 0 (.loop (ZR [Zq 42 .lss 41 6] (.seq (ZC 42 .skip (.exit 0)) (.seq (.block 1 (ZR [Zm 43 41,Zm 9 43] (.region [Zm 44 9,Za 45 0 3,u1 46 (.idxArr 6 1) [.tm 45,.tm 44],Zf 47 1 46,Zm 48 1,Zo 49 .mul 47 48,Za 50 0 3,u1 51 (.idxArr 6 1) [.tm 50,.tm 44],Zs 1 51 49]))) (.region [Zp 52 41 1,Zm 41 52]))))))) (ZR [Za 53 0 3,Zt 54 6 53,Za 55 6 3,Zf 56 1 55,Zm 57 2,Zo 58 .mul 56 57,Zd 59 113 54 58,Ze 60 0 59,Ze 61 1 59,Zs 7 6 60,Zm 7 61] .ret))))))⟩
theorem YBn:Yf YGY Tryz.f144=some v144:=by kernel_rfl
def prm:Nat->Int
 |0=>2
 |1=>3
 |2=>5
 |3=>7
 |4=>11
 |_=>13
def tP(r:Rt):Nat->List (Int×Int)
 |0=>[]
 |i+1=>tP r i++tm1 (prm i) (r.num i)
theorem tP_6(r:Rt):tP r 6=Yg r:=by
 simp only[tP,Yg,prm,Rt.num,List.nil_append,List.append_assoc]
theorem YFG{p n:Int}(h:n=0):tm1 p n=[]:=if_pos h
theorem tm1_n{p n:Int}(h:¬n=0):tm1 p n=[(p,n)]:=if_neg h
theorem YFD(r:Rt):∀i,(tP r i).length<=i
 |0=>YG8 _
 |i+1=>by
   have:=YFD r i
   have h:(tm1 (prm i) (r.num i)).length<=1:=by unfold tm1;split <;> simp
   rw[tP,YHW];omega
theorem Yoi{i:Nat}(h:i<6):YC 1 (Yu (i*1) [.int .i64 2,.int .i64 3,.int .i64 5,.int .i64 7,.int .i64 11,.int .i64 13])=[.int .i64 (prm i)]:=by
 rcases six h with rfl|rfl|rfl|rfl|rfl|rfl <;> rfl
theorem YrK{i:Nat}(h:i<6):1<=lenL (Yu (i*1) [.int .i64 2,.int .i64 3,.int .i64 5,.int .i64 7,.int .i64 11,.int .i64 13]):=by
 rcases six h with rfl|rfl|rfl|rfl|rfl|rfl <;> exact YHJ rfl
theorem Yf3{α:Type}[Inhabited α]{l m:List α}{k:Nat}(h:k<l.length):(l++m).getD k default=l.getD k default:=by
 rw[YG9,YHP h,<-YG9]
theorem Yf4{α:Type}[Inhabited α]{l m:List α}{k:Nat}(h:l.length<=k):(l++m).getD k default=m.getD (k-l.length) default:=by
 rw[YG9,List.getElem?_append_right h,<-YG9]
theorem YdF{l:List (Int×Int)}{p q:Int}{a b j k:Nat}(hk:k<l.length+1):
   leL a b (if k<l.length then [SV.int .i64 (l.getD k default).fst,SV.int .i64 (l.getD k default).snd]else Ym j (YC 2 (Yu ((k-l.length)*2) [SV.int .i64 p,SV.int .i64 q])))
     [SV.int .i64 ((l++[(p,q)]).getD k default).fst,SV.int .i64 ((l++[(p,q)]).getD k default).snd]:=by
 by_cases h:k<l.length
 . rw[if_pos h,Yf3 h];exact⟨⟨rfl,rfl⟩,⟨rfl,rfl⟩,trivial⟩
 . rw[if_neg h,Yf4 (by omega),show k-l.length=0 by omega];exact⟨⟨rfl,rfl⟩,⟨rfl,rfl⟩,trivial⟩
theorem one2{p q:Int}{k:Nat}(hk:k<1):lenL (YC 2 (Yu (k*2) [SV.int .i64 p,SV.int .i64 q]))=2/\ones (YC 2 (Yu (k*2) [SV.int .i64 p,SV.int .i64 q])):=by
 obtain rfl:k=0:=by omega
 exact⟨rfl,trivial,trivial,trivial⟩
def trmC:Ctr:={ alias:=false,of:=fun l=>match l with
 | [.agg [.int .i64 a,.int .i64 b,.int .i64 c,.int .i64 d,.int .i64 e,.int .i64 f,.int .i64 n]]=>
   if chkR ⟨a,b,c,d,e,f,n⟩≠0 then .fin (.tup [.nil,.int .i64 0,.int .i64 (chkR ⟨a,b,c,d,e,f,n⟩)]) [.box [.int .i64 a,.int .i64 b,.int .i64 c,.int .i64 d,.int .i64 e,.int .i64 f,.int .i64 n]]
   else .all Bool fun z=> .fin (.tup [.own 1 0 (Yg ⟨a,b,c,d,e,f,n⟩).length 2,.int .i64 n,.int .i64 0]) [.box [.int .i64 a,.int .i64 b,.int .i64 c,.int .i64 d,.int .i64 e,.int .i64 f,.int .i64 n],.own z 2 (Yg ⟨a,b,c,d,e,f,n⟩).length (fun k=>enc2 ((Yg ⟨a,b,c,d,e,f,n⟩).getD k default))]
 |_=>noC}
def TC0:Env:={ ct:=fun n=>match n with|102=>some chkRC|_=>none,fn:=fun _=>none,meth:=fun _ _=>none}
theorem Yqr:TC0.ct 102=some chkRC:=rfl
theorem YCc:Yl YGY TC0:=by
 refine⟨fun f c h=>?_,fun f vf h=>?_,(fun _ _ _ h=>by cases h),by kernel_rfl,(fun _ h=>by cases h)⟩
 . simp only[TC0]at h
   split at h
   . cases h;exact⟨Yn5,Tryz.f102,Tryz.func102,by kernel_rfl,by kernel_rfl⟩
   . cases h
 . cases h
theorem YFI:trmC.ok YGY 80:=by
 refine YdI Tryz.func80 YGv YCc 300 trmC fun args k h=>?_
 simp only[trmC]at h
 split at h
 . rename_i a b c d e f n
   refine⟨[.agg [.int .i64 a,.int .i64 b,.int .i64 c,.int .i64 d,.int .i64 e,.int .i64 f,.int .i64 n]],by simp [leL,le],?_⟩
   obtain⟨r,hr⟩:∃r:Rt,r=⟨a,b,c,d,e,f,n⟩:=⟨_,rfl⟩
   rw[<-hr]at h
   rw[show a=r.a by rw[hr],show b=r.b by rw[hr],show c=r.c by rw[hr],show d=r.d by rw[hr],show e=r.e by rw[hr],show f=r.f by rw[hr],show n=r.n by rw[hr]]at h⊢
   clear hr
   dsimp only[v80,Yqr,chkRC,go_sem,reduceIte,YGU]
   simp only[Yc,YGU,YGW,reduceCtorEq,YGV]
   refine⟨fun hc=>?_,fun hc=>?_⟩
   . rw[if_pos hc]at h
     exact⟨h,⟨trivial,trivial,trivial,trivial⟩,by simp [YaR,Yk,Yj]⟩
   . rw[if_neg (by rw[show chkR r=0 from hc];decide)]at h
     refine Loop.keep [1,0,0,0,10] (Nat×Bool) (fun s=>[(6,.own 1 0 (tP r s.1).length 2),(16,.int .i64 s.1)]) (fun s=>[(1,.own s.2 2 (tP r s.1).length (fun k=>enc2 ((tP r s.1).getD k default)))]) [.gone] (fun s=>s.1<=6/\(s.2=true->(tP r s.1).length=0)) (fun s=>6-s.1) ?_ ?_
     . refine⟨(0,true),⟨by decide,fun _=>rfl⟩,?_⟩
       dsimp only[tP,List.length_nil,go_sem,reduceIte,YGU]
       simp only[Ya]
       repeat' apply YHd
       all_goals first|exact trivial|decide|rfl|omega|exact(YHs (by omega)).symm|exact Yp _ (Y6 _ _ _ _) |simp
     . rintro⟨i,z⟩ ⟨hi,hz⟩
       dsimp only at hi hz
       dsimp only[YG0,enc2,go_sem,reduceIte,YGU]
       simp only[Yc,YGU,YGW,reduceCtorEq,YGV]
       refine⟨fun hlt=>?_,fun hge=>?_⟩
       . have hi6:i<6:=by omega
         have hl:=YFD r i
         rw[Yfn r hi6]
         dsimp only[YG0,enc2,go_sem,reduceIte,YGU]
         simp only[Yc,YGU,YGW,reduceCtorEq,YGV]
         rw[Yoi hi6]
         dsimp only[YG0,enc2,go_sem,reduceIte,YGU]
         simp only[Yc,YGU,YGW,reduceCtorEq,YGV]
         refine⟨⟨by omega,by omega⟩,fun hn=>⟨⟨by omega,by omega,by decide⟩,YrK hi6,by decide,⟨by unfold Yah;omega,fun k hk=>one2 hk⟩,(i+1,false),⟨by simp only;omega,fun hh=>by cases hh⟩,by simp only;omega,?_⟩,fun hn=>⟨(i+1,z),⟨by simp only;omega,fun hh=>by simp only[tP,YFG hn,List.append_nil];exact hz hh⟩,by simp only;omega,?_⟩⟩
         . simp only[tP,tm1_n hn,YHW,List.length_singleton]
           rw[YGZ ((i:Int)+1) (by omega)]
           simp only[Ya]
           refine⟨?_,by simp,fun k hk=>YdF hk⟩
           repeat' apply YHd
           all_goals first|exact trivial|decide|rfl|omega|exact(YHs (by omega)).symm|exact Yp _ (Y6 _ _ _ _) |simp
         . simp only[tP,YFG hn,List.append_nil]
           rw[YGZ ((i:Int)+1) (by omega)]
           simp only[Ya]
           repeat' apply YHd
           all_goals first|exact trivial|decide|rfl|omega|exact(YHs (by omega)).symm|exact Yp _ (Y6 _ _ _ _) |simp
       . obtain rfl:i=6:=by omega
         simp only[tP_6]
         exact⟨h z,⟨trivial,trivial,trivial,trivial⟩,by simp [YaR,Yk,Yj]⟩
 . exact h.1.elim
def YeL(q p:Nat->Int)(n:Int)(i:Nat):List SV:=
 [.int .i64 (if 0<i then q 0 else p 0),.int .i64 (if 1<i then q 1 else p 1),.int .i64 (if 2<i then q 2 else p 2),.int .i64 (if 3<i then q 3 else p 3),.int .i64 (if 4<i then q 4 else p 4),.int .i64 (if 5<i then q 5 else p 5),.int .i64 n]
theorem Yrq(q p:Nat->Int)(n:Int):YeL q p n 6=[.int .i64 (q 0),.int .i64 (q 1),.int .i64 (q 2),.int .i64 (q 3),.int .i64 (q 4),.int .i64 (q 5),.int .i64 n]:=rfl
theorem Yls(q p:Nat->Int)(n:Int)(i:Nat):lenL (YeL q p n i)=7:=rfl
theorem Ylq(q p:Nat->Int)(n:Int)(i m:Nat):bndL m (YeL q p n i):=by simp [YeL,bndL,bnd]
theorem YiH(q p:Nat->Int)(n:Int){i:Nat}(h:i<6):YZ (YeL q p n i) (idxN (i:Int) 1) [.int .i64 (q i)]=YeL q p n (i+1):=by
 rcases six h with rfl|rfl|rfl|rfl|rfl|rfl <;> rfl
theorem Ylr(q p:Nat->Int)(n:Int){i:Nat}(h:i<6):YC 1 (Yu (idxN (i:Int) 1) (YeL q p n i))=[.int .i64 (p i)]:=by
 rcases six h with rfl|rfl|rfl|rfl|rfl|rfl <;> rfl
theorem YiG(q p:Nat->Int)(n:Int){i:Nat}(h:i<6):1<=lenL (Yu (idxN (i:Int) 1) (YeL q p n i)):=by
 rcases six h with rfl|rfl|rfl|rfl|rfl|rfl <;> exact YHJ rfl
def YmN(n d:Int):Bool:=decide (n< -1000) || decide (1000<n) || decide (d< -1000) || decide (1000<d) || decide (d=0)
theorem Yyj{n d:Int}(h:YmN n d=false):(-1000<=n/\n<=1000)/\(-1000<=d/\d<=1000)/\d≠0:=by
 simp only[YmN,YHq,decide_eq_false_iff_not]at h;omega
def powN(r:Rt)(n d:Int):Rt×Int:=Ydy ⟨r.a*n,r.b*n,r.c*n,r.d*n,r.e*n,r.f*n,r.n*d⟩
def pwrF(r:Rt)(n d:Int):Rt×Int:=
 if chkR r≠0 then(YaQ,chkR r)else if YmN n d=true then(YaQ,2)else if d<0 then powN r (-n) (-d)else powN r n d
def powRC:Ctr:={ alias:=false,of:=fun l=>match l with
 | [.agg [.int .i64 a,.int .i64 b,.int .i64 c,.int .i64 d,.int .i64 e,.int .i64 f,.int .i64 n],.int .i64 p,.int .i64 q]=> .fin (.tup [.agg (encR (pwrF ⟨a,b,c,d,e,f,n⟩ p q).1),.int .i64 (pwrF ⟨a,b,c,d,e,f,n⟩ p q).2]) []
 |_=>noC}
def TC1:Env:={ ct:=fun n=>match n with|102=>some chkRC|113=>some madeC|_=>none,fn:=fun _=>none,meth:=fun _ _=>none}
theorem Yqs:TC1.ct 102=some chkRC:=rfl
theorem Ycs:TC1.ct 113=some madeC:=rfl
theorem YCd:Yl YGY TC1:=by
 refine⟨fun f c h=>?_,fun f vf h=>?_,(fun _ _ _ h=>by cases h),by kernel_rfl,(fun _ h=>by cases h)⟩
 . simp only[TC1]at h
   split at h
   . cases h;exact⟨Yn5,Tryz.f102,Tryz.func102,by kernel_rfl,by kernel_rfl⟩
   . cases h;exact⟨YsK,Tryz.f113,Tryz.func113,by kernel_rfl,by kernel_rfl⟩
   . cases h
 . cases h
theorem pow_c:powRC.ok YGY 144:=by
 refine Yb Tryz.func144 YBn YCd 300 powRC fun args k h=>?_
 simp only[powRC]at h
 split at h
 . rename_i a b c d e f n p q
   refine⟨[.agg [.int .i64 a,.int .i64 b,.int .i64 c,.int .i64 d,.int .i64 e,.int .i64 f,.int .i64 n],.int .i64 p,.int .i64 q],by simp [leL,le],?_⟩
   obtain⟨r,hr⟩:∃r:Rt,r=⟨a,b,c,d,e,f,n⟩:=⟨_,rfl⟩
   rw[<-hr]at h
   rw[show a=r.a by rw[hr],show b=r.b by rw[hr],show c=r.c by rw[hr],show d=r.d by rw[hr],show e=r.e by rw[hr],show f=r.f by rw[hr],show n=r.n by rw[hr]]
   clear hr
   have h:k (.tup [.agg (encR (pwrF r p q).1),.int .i64 (pwrF r p q).2]) []:=h
   dsimp only[v144,Yqs,chkRC,go_sem,reduceIte,YGU]
   simp only[Yc,YGU,YGW,reduceCtorEq,YGV]
   refine⟨fun hc=>?_,fun hc=>⟨fun hb=>?_,fun hb=>?_⟩⟩
   . rw[pwrF,if_pos hc]at h
     exact Yci (r:=YaQ) h
   all_goals
     have hc:chkR r=0:=hc
     rw[pwrF,if_neg (by rw[hc];decide)]at h
   . rw[if_pos (show YmN p q=true from hb)]at h
     exact Yci (r:=YaQ) h
   . have hb:YmN p q=false:=hb
     rw[if_neg (by rw[hb];decide)]at h
     obtain⟨hp,hq,hq0⟩:=Yyj hb
     refine⟨fun hneg=>?_,fun hpos=>?_⟩
     . rw[if_pos hneg]at h
       rw[YGZ (0-p) (by omega),YGZ (0-q) (by omega),Int.zero_sub,Int.zero_sub]
       obtain⟨P,hP⟩:∃P,P= -p:=⟨_,rfl⟩
       obtain⟨Q,hQ⟩:∃Q,Q= -q:=⟨_,rfl⟩
       rw[<-hP,<-hQ]at h⊢
       have hPb: -1000<=P/\P<=1000:=by omega
       have hQb:1<=Q/\Q<=1000:=by omega
       clear hp hq hP hQ
       refine Loop.keep [1,0,0,2,0] Nat (fun i=>[(41,.int .i64 i)]) (fun i=>[(0,.box (YeL (fun j=>r.num j*P) r.num r.n i))]) [] (fun i=>i<=6) (fun i=>6-i) ?_ ?_
       . refine⟨0,by omega,?_⟩
         dsimp only[YeL,go_sem,reduceIte,YGU]
         simp only[Ya]
         repeat' apply YHd
         all_goals first|exact trivial|decide|rfl|omega|exact(YHs (by omega)).symm|exact Yp _ (Y6 _ _ _ _) |simp
       . rintro i hi
         dsimp only[Ycs,madeC,YG0,go_sem,reduceIte,YGU]
         simp only[Yc,YGU,YGW,reduceCtorEq,YGV]
         refine⟨fun hlt=>?_,fun hge=>?_⟩
         . have hi6:i<6:=by omega
           rw[Ylr _ _ _ hi6]
           dsimp only[Ycs,madeC,YG0,go_sem,reduceIte,YGU]
           simp only[Yc,YGU,YGW,reduceCtorEq,YGV]
           have h1:=Yee hc hi6
           have hm:=YaS (x:=r.num i) (y:=P) (X:=100000) (Y:=1000) h1 (by omega)
           have e:YZ (YeL (fun j=>r.num j*P) r.num r.n i) (idxN (i:Int) 1) [.int .i64 (r.num i*P)]=YeL (fun j=>r.num j*P) r.num r.n (i+1):=YiH (fun j=>r.num j*P) r.num r.n hi6
           rw[YGZ (r.num i*P) (by omega),YGZ ((i:Int)+1) (by omega),e]
           refine⟨⟨by omega,by omega⟩,YiG _ _ _ hi6,⟨by omega,by omega⟩,by rw[YlO,Yls];omega,i+1,by omega,by omega,?_⟩
           simp only[Ya]
           refine⟨?_,Yp _ (Ylq _ _ _ _ _)⟩
           repeat' apply YHd
           all_goals first|exact trivial|decide|rfl|omega|exact(YHs (by omega)).symm|exact Yp _ (Y6 _ _ _ _) |simp
         . obtain rfl:i=6:=by omega
           have hn:=Ygk hc
           have hm:=YaS (x:=r.n) (y:=Q) (X:=1000) (Y:=1000) (by omega) (by omega)
           have hm1:1<=r.n*Q:=Int.mul_pos (by omega) (by omega)
           simp only[Yrq]
           dsimp only[Ycs,madeC,encR,go_sem,reduceIte,YGU]
           simp only[Yc,YGU,YGW,reduceCtorEq,YGV]
           rw[YGZ (r.n*Q) (by omega)]
           refine⟨⟨hm1,by omega,fun i hi=>?_⟩,?_⟩
           . have h1:=Yee hc hi
             have hm:=YaS (x:=r.num i) (y:=P) (X:=100000) (Y:=1000) h1 (by omega)
             rcases six hi with rfl|rfl|rfl|rfl|rfl|rfl <;> (simp only[Rt.num]at hm⊢;omega)
           . exact⟨by decide,by decide,Yci (r:=(powN r P Q).1) h⟩
     . rw[if_neg hpos]at h
       obtain⟨P,hP⟩:∃P,P=p:=⟨_,rfl⟩
       obtain⟨Q,hQ⟩:∃Q,Q=q:=⟨_,rfl⟩
       rw[<-hP,<-hQ]at h⊢
       have hPb: -1000<=P/\P<=1000:=by omega
       have hQb:1<=Q/\Q<=1000:=by omega
       refine Loop.keep [1,0,0,2,0] Nat (fun i=>[(41,.int .i64 i)]) (fun i=>[(0,.box (YeL (fun j=>r.num j*P) r.num r.n i))]) [] (fun i=>i<=6) (fun i=>6-i) ?_ ?_
       . refine⟨0,by omega,?_⟩
         dsimp only[YeL,go_sem,reduceIte,YGU]
         simp only[Ya]
         repeat' apply YHd
         all_goals first|exact trivial|decide|rfl|omega|exact(YHs (by omega)).symm|exact Yp _ (Y6 _ _ _ _) |simp
       . rintro i hi
         dsimp only[Ycs,madeC,YG0,go_sem,reduceIte,YGU]
         simp only[Yc,YGU,YGW,reduceCtorEq,YGV]
         refine⟨fun hlt=>?_,fun hge=>?_⟩
         . have hi6:i<6:=by omega
           rw[Ylr _ _ _ hi6]
           dsimp only[Ycs,madeC,YG0,go_sem,reduceIte,YGU]
           simp only[Yc,YGU,YGW,reduceCtorEq,YGV]
           have h1:=Yee hc hi6
           have hm:=YaS (x:=r.num i) (y:=P) (X:=100000) (Y:=1000) h1 (by omega)
           have e:YZ (YeL (fun j=>r.num j*P) r.num r.n i) (idxN (i:Int) 1) [.int .i64 (r.num i*P)]=YeL (fun j=>r.num j*P) r.num r.n (i+1):=YiH (fun j=>r.num j*P) r.num r.n hi6
           rw[YGZ (r.num i*P) (by omega),YGZ ((i:Int)+1) (by omega),e]
           refine⟨⟨by omega,by omega⟩,YiG _ _ _ hi6,⟨by omega,by omega⟩,by rw[YlO,Yls];omega,i+1,by omega,by omega,?_⟩
           simp only[Ya]
           refine⟨?_,Yp _ (Ylq _ _ _ _ _)⟩
           repeat' apply YHd
           all_goals first|exact trivial|decide|rfl|omega|exact(YHs (by omega)).symm|exact Yp _ (Y6 _ _ _ _) |simp
         . obtain rfl:i=6:=by omega
           have hn:=Ygk hc
           have hm:=YaS (x:=r.n) (y:=Q) (X:=1000) (Y:=1000) (by omega) (by omega)
           have hm1:1<=r.n*Q:=Int.mul_pos (by omega) (by omega)
           simp only[Yrq]
           dsimp only[Ycs,madeC,encR,go_sem,reduceIte,YGU]
           simp only[Yc,YGU,YGW,reduceCtorEq,YGV]
           rw[YGZ (r.n*Q) (by omega)]
           refine⟨⟨hm1,by omega,fun i hi=>?_⟩,?_⟩
           . have h1:=Yee hc hi
             have hm:=YaS (x:=r.num i) (y:=P) (X:=100000) (Y:=1000) h1 (by omega)
             rcases six hi with rfl|rfl|rfl|rfl|rfl|rfl <;> (simp only[Rt.num]at hm⊢;omega)
           . exact⟨by decide,by decide,Yci (r:=(powN r P Q).1) h⟩
 . exact h.1.elim
def v143:VF:=⟨64,[.cell 4 true 7,.tmp 5],(ZR [u1 4 (.alloc [(.int .i64 0),(.int .i64 0),(.int .i64 0),(.int .i64 0),(.int .i64 0),(.int .i64 0),(.int .i64 0)]) [],Zi 5 0] (.seq (ZR [Zm 9 0,Zq 10 .lss 9 1,Zm 11 10,Zg 12 11 false 0,u2 13 11 false (.cmp .gtr) [.tm 12,.cn (.int .i64 1000000000000)],u1 14 .or [.tm 11,.tm 13],Zm 15 14,Zg 16 15 false 1,u2 17 15 false (.cmp .lss) [.tm 16,.cn (.int .i64 1)],u1 18 .or [.tm 15,.tm 17],Zm 19 18,Zg 20 19 false 1,u2 21 19 false (.cmp .gtr) [.tm 20,.cn (.int .i64 1000000000000)],u1 22 .or [.tm 19,.tm 21]] (ZC 22 (ZR [u1 23 (.build [(.int .i64 0),(.int .i64 0),(.int .i64 0),(.int .i64 0),(.int .i64 0),(.int .i64 0),(.int .i64 0)] []) [],Zs 7 4 23,Zi 5 2] .ret) .skip)) (ZR [u1 24 (.build [(.int .i64 0),(.int .i64 0),(.int .i64 0),(.int .i64 0),(.int .i64 0),(.int .i64 0),(.int .i64 0)] [(6,1)]) [.cn (.int .i64 1)],u1 6 (.alloc [(.int .i64 0),(.int .i64 0),(.int .i64 0),(.int .i64 0),(.int .i64 0),(.int .i64 0),(.int .i64 0)]) [],Zs 7 6 24] (.seq (ZR [u1 25 (.load true 6) [.cn (.xp false [(.int .i64 2),(.int .i64 3),(.int .i64 5),(.int .i64 7),(.int .i64 11),(.int .i64 13)])],Zi 26 0] (.block 0 (.loop (ZR [Zq 27 .lss 26 6] (.seq (ZC 27 .skip (.exit 0)) (.seq (.block 1 (ZR [Zm 28 26,u1 29 (.index false 6 1) [.tm 25,.tm 26],Zm 7 28,Zm 8 29] (.seq (.block 2 (.loop (.seq (ZR [Zm 30 0,Zm 31 8,u1 32 .rem [.tm 30,.tm 31],Zq 33 .eql 32 0] (ZC 33 .skip (.exit 2))) (.seq (.block 3 (.region [Zm 37 7,Za 38 0 6,u1 39 (.idxArr 6 1) [.tm 38,.tm 37],Zf 40 1 39,Zp 41 40 1,Za 42 0 6,u1 43 (.idxArr 6 1) [.tm 42,.tm 37],Zs 1 43 41])) (.region [Zm 34 0,Zm 35 8,u1 36 .quo [.tm 34,.tm 35],Zm 0 36]))))) (.block 4 (.loop (.seq (ZR [Zm 44 1,Zm 45 8,u1 46 .rem [.tm 44,.tm 45],Zq 47 .eql 46 0] (ZC 47 .skip (.exit 4))) (.seq (.block 5 (.region [Zm 51 7,Za 52 0 6,u1 53 (.idxArr 6 1) [.tm 52,.tm 51],Zf 54 1 53,u1 55 (.ari .sub) [.tm 54,.cn (.int .i64 1)],Za 56 0 6,u1 57 (.idxArr 6 1) [.tm 56,.tm 51],Zs 1 57 55])) (.region [Zm 48 1,Zm 49 8,u1 50 .quo [.tm 48,.tm 49],Zm 1 50])))))))) (.region [Zp 58 26 1,Zm 26 58]))))))) (.seq (ZR [Zm 59 0,Zm 60 1,Zr 61 .neq 59 60] (ZC 61 (ZR [u1 62 (.build [(.int .i64 0),(.int .i64 0),(.int .i64 0),(.int .i64 0),(.int .i64 0),(.int .i64 0),(.int .i64 0)] []) [],Zs 7 4 62,Zi 5 7] .ret) .skip)) (ZR [Zt 63 7 6,Zs 7 4 63,Zi 5 0] .ret))))))⟩
theorem YBm:Yf YGY Tryz.f143=some v143:=by kernel_rfl
def valL:Nat->Int->Int->Int->Int->Int×Int
 |0,_,n,c,_=>(n,c)
 |f+1,p,n,c,s=>if n%p=0 then valL f p (n/p) (c+s) s else(n,c)
def ofL(num den:Int):Nat->Int×Int×(Nat->Int)
 |0=>(num,den,fun _=>0)
 |i+1=>
   ((valL 64 (prm i) (ofL num den i).1 0 1).1,(valL 64 (prm i) (ofL num den i).2.1 (valL 64 (prm i) (ofL num den i).1 0 1).2 (-1)).1,
     fun k=>if k=i then(valL 64 (prm i) (ofL num den i).2.1 (valL 64 (prm i) (ofL num den i).1 0 1).2 (-1)).2 else(ofL num den i).2.2 k)
def YuZ(a b:Int):Bool:=decide (a<1) || decide (1000000000000<a) || decide (b<1) || decide (1000000000000<b)
def ofRF(a b:Int):Rt×Int:=
 if YuZ a b=true then(YaQ,2)else if(ofL a b 6).1≠(ofL a b 6).2.1 then(YaQ,7)
 else(⟨(ofL a b 6).2.2 0,(ofL a b 6).2.2 1,(ofL a b 6).2.2 2,(ofL a b 6).2.2 3,(ofL a b 6).2.2 4,(ofL a b 6).2.2 5,1⟩,0)
def Ygz(g:Nat->Int)(n:Int):List SV:=[.int .i64 (g 0),.int .i64 (g 1),.int .i64 (g 2),.int .i64 (g 3),.int .i64 (g 4),.int .i64 (g 5),.int .i64 n]
def setF(g:Nat->Int)(i:Nat)(v:Int):Nat->Int:=fun k=>if k=i then v else g k
theorem Yln(g:Nat->Int)(n:Int){i:Nat}(h:i<6):YC 1 (Yu (idxN (i:Int) 1) (Ygz g n))=[.int .i64 (g i)]:=by
 rcases six h with rfl|rfl|rfl|rfl|rfl|rfl <;> rfl
theorem YiF(g:Nat->Int)(n:Int){i:Nat}(h:i<6):1<=lenL (Yu (idxN (i:Int) 1) (Ygz g n)):=by
 rcases six h with rfl|rfl|rfl|rfl|rfl|rfl <;> exact YHJ rfl
theorem Ylp(g:Nat->Int)(n:Int){i:Nat}(h:i<6)(v:Int):YZ (Ygz g n) (idxN (i:Int) 1) [.int .i64 v]=Ygz (setF g i v) n:=by
 rcases six h with rfl|rfl|rfl|rfl|rfl|rfl <;> rfl
theorem Ylo(g:Nat->Int)(n:Int):lenL (Ygz g n)=7:=rfl
theorem YdH(g:Nat->Int)(n:Int)(m:Nat):bndL m (Ygz g n):=by simp [Ygz,bndL,bnd]
theorem Yo3(g:Nat->Int)(i:Nat)(v w:Int):setF (setF g i v) i w=setF g i w:=by
 funext k;unfold setF;split <;> rfl
theorem Ymp(g:Nat->Int)(i:Nat)(v:Int):setF g i v i=v:=if_pos rfl
theorem YAz(g:Nat->Int)(i:Nat):setF g i (g i)=g:=by
 funext k;unfold setF;split
 . rename_i h;rw[h]
 . rfl
theorem YzW(i:Nat):2<=prm i/\prm i<=13:=by
 unfold prm;split <;> omega
theorem Yrw{i:Nat}(h:i<6):YC 1 (Yu (i*1) [.int .i64 2,.int .i64 3,.int .i64 5,.int .i64 7,.int .i64 11,.int .i64 13])=[.int .i64 (prm i)]:=Yoi h
theorem Ype{n p:Int}{f:Nat}(hp:2<=p)(h1:1<=n)(h2:n<2^(f+1))(h3:n<=1000000000000)(hd:n%p=0):1<=n/p/\n/p<2^f/\n/p<=1000000000000:=by
 have e:=Int.mul_ediv_add_emod n p
 rw[hd,Int.add_zero]at e
 have hq:1<=n/p:=by
   rcases(show n/p<1\/1<=n/p by omega)with h|h
   . have:p*(n/p)<=p*0:=YHb (by omega) (by omega)
     omega
   . exact h
 have h4:2*(n/p)<=n:=by
   have:2*(n/p)<=p*(n/p):=YHj hp (by omega)
   omega
 rw[Int.pow_succ]at h2
 exact⟨hq,by omega,by omega⟩
def ofRC:Ctr:={ alias:=false,of:=fun l=>match l with
 | [.int .i64 a,.int .i64 b]=> .fin (.tup [.agg (encR (ofRF a b).1),.int .i64 (ofRF a b).2]) []
 |_=>noC}
theorem YEj(a b:Int):∀i j,i<=j->(ofL a b i).2.2 j=0
 |0,_,_=>rfl
 |i+1,j,h=>by
   rw[ofL]
   show(if j=i then _ else _)=(0:Int)
   rw[if_neg (by omega)]
   exact YEj a b i j (by omega)
def TD0:Env:={ ct:=fun _=>none,fn:=fun _=>none,meth:=fun _ _=>none}
theorem YCe:Yl YGY TD0:=by
 refine⟨fun f c h=>?_,fun f vf h=>?_,(fun _ _ _ h=>by cases h),by kernel_rfl,(fun _ h=>by cases h)⟩
 . cases h
 . cases h
theorem of_c:ofRC.ok YGY 143:=by
 refine Yb Tryz.func143 YBm YCe 300 ofRC fun args k h=>?_
 simp only[ofRC]at h
 split at h
 . rename_i a b
   refine⟨[.int .i64 a,.int .i64 b],by simp [leL,le],?_⟩
   have h:k (.tup [.agg (encR (ofRF a b).1),.int .i64 (ofRF a b).2]) []:=h
   dsimp only[v143,go_sem,reduceIte,YGU]
   simp only[Yc,YGU,YGW,reduceCtorEq,YGV]
   refine⟨fun hb=>?_,fun hb=>?_⟩
   . rw[ofRF,if_pos (show YuZ a b=true from hb)]at h
     exact Yci (r:=YaQ) h
   . have hb:YuZ a b=false:=hb
     rw[ofRF,if_neg (by rw[hb];decide)]at h
     simp only[YuZ,YHq,decide_eq_false_iff_not]at hb
     refine Loop.keep [4,0,0,18] Nat (fun i=>[(0,.int .i64 (ofL a b i).1),(1,.int .i64 (ofL a b i).2.1),(26,.int .i64 i)]) (fun i=>[(1,.box (Ygz (ofL a b i).2.2 1))]) [] (fun i=>i<=6/\(1<=(ofL a b i).1/\(ofL a b i).1<=1000000000000)/\1<=(ofL a b i).2.1/\(ofL a b i).2.1<=1000000000000) (fun i=>6-i) ?_ ?_
     . refine⟨0,⟨by omega,⟨by simp only[ofL];omega,by simp only[ofL];omega⟩,by simp only[ofL];omega,by simp only[ofL];omega⟩,?_⟩
       dsimp only[Ygz,ofL,go_sem,reduceIte,YGU]
       simp only[Ya]
       repeat' apply YHd
       all_goals first|exact trivial|decide|rfl|omega|exact(YHs (by omega)).symm|simp
     . rintro i ⟨hi,hx,hy⟩
       obtain⟨X,hX⟩:∃X,X=(ofL a b i).1:=⟨_,rfl⟩
       obtain⟨Y,hY⟩:∃Y,Y=(ofL a b i).2.1:=⟨_,rfl⟩
       obtain⟨g,hg⟩:∃g,g=(ofL a b i).2.2:=⟨_,rfl⟩
       rw[<-hX]at hx
       rw[<-hY]at hy
       rw[<-hX,<-hY,<-hg]
       dsimp only[YG0,go_sem,reduceIte,YGU]
       simp only[Yc,YGU,YGW,reduceCtorEq,YGV]
       refine⟨fun hlt=>?_,fun hge=>?_⟩
       . have hi6:i<6:=by omega
         have hp:=YzW i
         have hg0:g i=0:=by rw[hg];exact YEj a b i i (YG8 _)
         rw[Yrw hi6]
         refine⟨⟨by omega,by omega⟩,?_⟩
         have hS:ofL a b (i+1)=((valL 64 (prm i) X 0 1).1,(valL 64 (prm i) Y (valL 64 (prm i) X 0 1).2 (-1)).1,setF g i (valL 64 (prm i) Y (valL 64 (prm i) X 0 1).2 (-1)).2):=by
           rw[ofL,<-hX,<-hY,<-hg];rfl
         generalize prm i=p at hp hS⊢
         obtain⟨A,hA⟩:∃A,A=valL 64 p X 0 1:=⟨_,rfl⟩
         rw[<-hA]at hS
         refine Loop.keep [1,2,0,0,0,0,16,0] (Nat×Int×Int) (fun s=>[(0,.int .i64 s.2.1)]) (fun s=>[(1,.box (Ygz (setF g i s.2.2) 1))]) [] (fun s=>A=valL s.1 p s.2.1 s.2.2 1/\1<=s.2.1/\s.2.1<2^s.1/\s.2.1<=1000000000000/\ -1000+s.1<=s.2.2/\s.2.2<=1000-s.1) (fun s=>s.1) ?_ ?_
         . refine⟨(64,X,0),⟨hA,hx.1,by simp only;omega,hx.2,by simp,by simp⟩,?_⟩
           rw[show setF g i (64,X,(0:Int)).2.2=g by rw[<-hg0];exact YAz g i]
           dsimp only[go_sem,reduceIte,YGU]
           simp only[Ya]
           refine⟨by decide,Yp _ (YdH _ _ _)⟩
         . rintro⟨f,n,c⟩ ⟨hf,n1,n2,n3,c1,c2⟩
           dsimp only at hf n1 n2 n3 c1 c2
           dsimp only[YG0,go_sem,reduceIte,YGU]
           simp only[Yc,YGU,YGW,reduceCtorEq,YGV]
           have e1:n.tmod p=n%p:=Int.tmod_eq_emod_of_nonneg (by omega)
           have e2:n.tdiv p=n/p:=Int.tdiv_eq_ediv_of_nonneg (by omega)
           rw[e1]
           obtain⟨q,rfl⟩:∃q,f=q+1:=by
             cases f with
             |zero=>simp at n2;omega
             |succ q=>exact⟨q,rfl⟩
           rw[valL]at hf
           refine⟨by omega,fun hd=>?_,fun hd=>?_⟩
           . rw[if_pos hd]at hf
             obtain⟨w1,w2,w3⟩:=Ype (by omega) n1 n2 n3 hd
             rw[Yln _ _ hi6,Ymp]
             dsimp only[YG0,go_sem,reduceIte,YGU]
             simp only[Yc,YGU,YGW,reduceCtorEq,YGV]
             rw[Ylp _ _ hi6,Yo3,e2,YGZ (n/p) (by omega),YGZ (c+1) (by omega)]
             refine⟨⟨by omega,by omega⟩,YiF _ _ hi6,⟨by omega,by omega⟩,by rw[YlO,Ylo];omega,by omega,(q,n/p,c+1),⟨hf,w1,w2,w3,by simp only;omega,by simp only;omega⟩,by simp only;omega,?_⟩
             simp only[Ya]
             refine⟨by decide,Yp _ (YdH _ _ _)⟩
           . rw[if_neg hd]at hf
             have hA1:A.1=n:=by rw[hf]
             have hA2:A.2=c:=by rw[hf]
             rw[hA2]at hS
             obtain⟨B,hB⟩:∃B,B=valL 64 p Y c (-1):=⟨_,rfl⟩
             rw[<-hB,hA1]at hS
             have n1':=n1
             have n3':=n3
             have c1': -2000+(64:Int)<=c/\c<=2000-64:=by omega
             clear hf hA n2 e1 e2 c1 c2 hA1 hA2
             refine Loop.keep [0,3,0,0,0,0,16,0] (Nat×Int×Int) (fun s=>[(1,.int .i64 s.2.1)]) (fun s=>[(1,.box (Ygz (setF g i s.2.2) 1))]) [] (fun s=>B=valL s.1 p s.2.1 s.2.2 (-1)/\1<=s.2.1/\s.2.1<2^s.1/\s.2.1<=1000000000000/\ -2000+s.1<=s.2.2/\s.2.2<=2000-s.1) (fun s=>s.1) ?_ ?_
             . refine⟨(64,Y,c),⟨hB,hy.1,by simp only;omega,hy.2,by simp only;omega,by simp only;omega⟩,?_⟩
               dsimp only[go_sem,reduceIte,YGU]
               simp only[Ya]
               refine⟨by decide,Yp _ (YdH _ _ _)⟩
             . obtain⟨N,hN⟩:∃N,N=n:=⟨_,rfl⟩
               rw[<-hN]at n1' n3' hS⊢
               clear hN n1 n3 hd c1' hB
               rintro⟨f,n,c⟩ ⟨hf,n1,n2,n3,c1,c2⟩
               dsimp only at hf n1 n2 n3 c1 c2
               dsimp only[YG0,go_sem,reduceIte,YGU]
               simp only[Yc,YGU,YGW,reduceCtorEq,YGV]
               have e1:n.tmod p=n%p:=Int.tmod_eq_emod_of_nonneg (by omega)
               have e2:n.tdiv p=n/p:=Int.tdiv_eq_ediv_of_nonneg (by omega)
               rw[e1]
               obtain⟨q,rfl⟩:∃q,f=q+1:=by
                 cases f with
                 |zero=>simp at n2;omega
                 |succ q=>exact⟨q,rfl⟩
               rw[valL]at hf
               refine⟨by omega,fun hd=>?_,fun hd=>?_⟩
               . rw[if_pos hd]at hf
                 obtain⟨w1,w2,w3⟩:=Ype (by omega) n1 n2 n3 hd
                 rw[Yln _ _ hi6,Ymp]
                 dsimp only[YG0,go_sem,reduceIte,YGU]
                 simp only[Yc,YGU,YGW,reduceCtorEq,YGV]
                 rw[Ylp _ _ hi6,Yo3,e2,YGZ (n/p) (by omega),YGZ (c-1) (by omega)]
                 refine⟨⟨by omega,by omega⟩,YiF _ _ hi6,⟨by omega,by omega⟩,by rw[YlO,Ylo];omega,by omega,(q,n/p,c+(-1)),⟨hf,w1,w2,w3,by simp only;omega,by simp only;omega⟩,by simp only;omega,?_⟩
                 simp only[Ya]
                 refine⟨by decide,Yp _ (YdH _ _ _)⟩
               . rw[if_neg hd]at hf
                 have hB1:B.1=n:=by rw[hf]
                 have hB2:B.2=c:=by rw[hf]
                 rw[hB1,hB2]at hS
                 refine⟨i+1,⟨by omega,⟨by rw[hS];exact n1',by rw[hS];exact n3'⟩,by rw[hS];exact n1,by rw[hS];exact n3⟩,by omega,?_⟩
                 rw[hS,YGZ ((i:Int)+1) (by omega)]
                 simp only[Ya]
                 refine⟨?_,Yp _ (YdH _ _ _)⟩
                 repeat' apply YHd
                 all_goals first|exact trivial|decide|rfl|omega|exact(YHs (by omega)).symm|simp
       . obtain rfl:i=6:=by omega
         rw[<-hX,<-hY,<-hg]at h
         refine⟨fun hn=>?_,fun he=>?_⟩
         . rw[if_pos hn]at h
           exact Yci (r:=YaQ) h
         . rw[if_neg (by omega)]at h
           exact⟨YG8 7,⟨rfl,by simp [Ygz,YC,ones,one]⟩,YG8 7,Yci (r:=⟨g 0,g 1,g 2,g 3,g 4,g 5,1⟩) h⟩
 . exact h.1.elim
def v54:VF:=⟨71,[.tmp 6,.tmp 7,.tmp 8],(ZR [u1 3 .box [.tm 0],u1 4 .box [.tm 1],Zi 6 0,u1 7 .mov [.cn (.bool false)],Zi 8 0] (.seq (ZR [Zf 15 1 3,Zc 16 81 15,Zm 9 16] (ZR [Zm 17 9,Zq 18 .neq 17 0] (ZC 18 (ZR [Zm 19 9,Zi 6 0,u1 7 .mov [.cn (.bool false)],Zm 8 19] .ret) .skip))) (.seq (ZR [Zf 20 1 4,Zq 21 .lss 20 1,Zm 22 21,Zh 23 22 false 1 4,u2 24 22 false (.cmp .gtr) [.tm 23,.cn (.int .i64 1000000)],u1 25 .or [.tm 22,.tm 24],Zm 26 25,Zg 27 26 false 2,u2 28 26 false (.cmp .lss) [.tm 27,.cn (.int .i64 1)],u1 29 .or [.tm 26,.tm 28],Zm 30 29,Zg 31 30 false 2,u2 32 30 false (.cmp .gtr) [.tm 31,.cn (.int .i64 10000000)],u1 33 .or [.tm 30,.tm 32]] (ZC 33 (ZR [Zi 6 0,u1 7 .mov [.cn (.bool false)],Zi 8 2] .ret) .skip)) (ZR [Zf 34 1 3,Zl 35 34,Zp 36 35 1,u1 37 (.make 2 16 [(.int .i64 0),(.int .i64 0)]) [.cn (.int .i64 0),.tm 36],u1 10 (.alloc [.nil]) [],Zs 1 10 37] (.seq (ZR [Zf 38 1 3,Zl 39 38,Zi 40 0] (.block 0 (.loop (ZR [Zr 41 .lss 40 39] (.seq (ZC 41 .skip (.exit 0)) (.seq (.block 1 (ZR [Zx 42 2 38 40,Zt 43 2 42,Zn 12,Zs 2 12 43] (.region [Zf 44 1 10,Za 45 0 12,Zf 46 1 45,Za 47 1 12,Zf 48 1 47,Zm 49 2,Zo 50 .mul 48 49,u1 51 (.build [(.int .i64 0),(.int .i64 0)] [(0,1),(1,1)]) [.tm 46,.tm 50],u1 52 (.buildSlice 2 1 [(.int .i64 0),(.int .i64 0)] [(0,2)]) [.tm 51],u1 53 (.append 2 16 [(.int .i64 0),(.int .i64 0)]) [.tm 44,.tm 52],Zs 1 10 53]))) (.region [Zp 54 40 1,Zm 40 54]))))))) (ZR [u1 55 (.mkfn (.func 82) 0) [.tm 10,.tm 3,.tm 4],u1 13 (.alloc [(.val .nilFunc)]) [],Zs 1 13 55] (ZR [u1 56 (.mkfn (.func 83) 0) [.tm 13],Zm 14 56] (.seq (ZR [Zm 57 14,u1 58 .callv [.tm 57,.cn (.int .i64 1000000000001)],Zm 59 58,Zg 60 59 false 14,u2 61 59 false .callv [.tm 60,.cn (.int .i64 (-1000000000000))],u2 62 59 false .not [.tm 61],u1 63 .or [.tm 59,.tm 62]] (ZC 63 (ZR [Zi 6 0,u1 7 .mov [.cn (.bool false)],Zi 8 7] .ret) .skip)) (ZR [Zm 64 14,u1 65 (.call 85) [.cn (.int .i64 (-1000000000000)),.cn (.int .i64 1000000000001),.tm 64],Zm 6 65] (ZR [Zm 66 6,Zf 67 1 13,Zm 68 6,u1 69 .callv [.tm 67,.tm 68],Zc 70 86 69,Zm 6 66,Zm 7 70,Zi 8 0] .ret))))))))))⟩
theorem YGg:Yf YGY Tryz.f54=some v54:=by kernel_rfl
def v82:VF:=⟨19,[.tmp 5],(ZR [u1 5 .mov [.cn .nil]] (.seq (.draw [] [Zv 6 1 1,Zv 7 1 2,w1 8 .len [.tm 7],Zv 9 1 2,w1 10 .len [.tm 9],w1 11 (.slice3 2) [.tm 6,.tm 8,.tm 10],Zu 12 0,w1 13 .neg [.tm 12],Zv 14 1 3,w1 15 (.ari .mul) [.tm 13,.tm 14],w1 16 (.build [(.int .i64 0),(.int .i64 0)] [(0,1),(1,1)]) [.cn (.int .i64 2),.tm 15],w1 17 (.buildSlice 2 1 [(.int .i64 0),(.int .i64 0)] [(0,2)]) [.tm 16],w1 18 (.append 2 16 [(.int .i64 0),(.int .i64 0)]) [.tm 11,.tm 17],Zu 5 18]) .ret))⟩
theorem YGx:Yf YGY Tryz.f82=some v82:=by kernel_rfl
def v83:VF:=⟨9,[.tmp 3],(ZR [u1 3 .mov [.cn (.bool false)]] (ZR [Zf 4 1 1,Zm 5 0,u1 6 .callv [.tm 4,.tm 5],Zc 7 84 6,Zq 8 .geq 7 0,Zm 3 8] .ret))⟩
theorem YGy:Yf YGY Tryz.f83=some v83:=by kernel_rfl
def sclT(s:Int)(x:Int×Int):Int×Int:=(x.1,x.2*s)
def atG(all:List (Int×Int))(den m:Int):List (Int×Int):=all++[(2, -m*den)]
def isG(all:List (Int×Int))(den m:Int):Bool:=decide (0<=YdA (atG all den m))
def Yq9(den s:Int):Bool:=decide (den<1) || decide (1000000<den) || decide (s<1) || decide (10000000<s)
def flrG(all:List (Int×Int))(den:Int):Int×Bool×Int:=
 if(isG all den 1000000000001|| !isG all den (-1000000000000))=true then(0,false,7)
 else(bisL 64 (isG all den) (-1000000000000) 1000000000001,oneF (atG all den (bisL 64 (isG all den) (-1000000000000) 1000000000001)),0)
def flrF(l:List (Int×Int))(den s:Int):Int×Bool×Int:=
 if YeM l≠0 then(0,false,YeM l)else if Yq9 den s=true then(0,false,2)else flrG (l.map (sclT s)) den
theorem YsN{α β:Type}[Inhabited α][Inhabited β]{l:List α}{f:α->β}{k:Nat}(h:k<l.length):(l.map f).getD k default=f (l.getD k default):=by
 rw[YG9,List.getElem?_map,List.getElem?_eq_getElem h,YG9,List.getElem?_eq_getElem h];rfl
theorem YnV{A:List (Int×Int)}{L:Nat}(hL:A.length=L){q:Int}{hp:List HO}{r:List SV->List SV}:
   lsP 2 enc2 (L+1) 2 (fun k=>Ydv false hp r (if k<L then [SV.int .i64 (A.getD k default).fst,SV.int .i64 (A.getD k default).snd]else YC 2 (Yu ((k-L)*2) [SV.int .i64 2,SV.int .i64 q]))) (A++[(2,q)]):=by
 subst hL
 refine⟨rfl,by simp,fun k hk=>?_⟩
 by_cases h:k<A.length
 . simp only[if_pos h]
   rw[Yf3 h]
   exact Yd _
 . simp only[if_neg h]
   rw[Yf4 (by omega),show k-A.length=0 by omega]
   exact Yd _
theorem YCO{l:List (Int×Int)}{s den m:Int}(hl:∀x,x∈l->okT0 x=false)(hs:1<=s/\s<=10000000)(hd:1<=den/\den<=1000000)(hm: -1000000000001<=m/\m<=1000000000001):∀x,x∈atG (l.map (sclT s)) den m->okT x:=by
 intro x hx
 rw[atG,YHz,YHF,YIa]at hx
 rcases hx with⟨y,hy,rfl⟩ |rfl
 . have:=hl y hy
   simp only[okT0,YHq,decide_eq_false_iff_not]at this
   have hb:=YaS (x:=y.2) (y:=s) (X:=1000000000) (Y:=10000000) (by omega) (by omega)
   simp only[okT,sclT]
   omega
 . have hb:=YaS (x:= -m) (y:=den) (X:=1000000000001) (Y:=1000000) (by omega) (by omega)
   simp only[okT]
   omega
theorem Ykq{m den:Int}(hd:1<=den/\den<=1000000)(hm: -1000000000001<=m/\m<=1000000000001):IntKind.i64.wrap (IntKind.i64.wrap (0-m)*den)= -m*den:=by
 have hb:=YaS (x:= -m) (y:=den) (X:=1000000000001) (Y:=1000000) (by omega) (by omega)
 rw[YGZ (0-m) (by omega),Int.zero_sub,YGZ _ (by omega)]
theorem YAy{A:List (Int×Int)}{L:Nat}{x y:Int}{k a b:Nat}(hk:k<L+1):leL a b (if k<L then [SV.int .i64 (A.getD k default).fst,SV.int .i64 (A.getD k default).snd]else YC 2 (Yu ((k-L)*2) [SV.int .i64 x,SV.int .i64 y])) (if k<L then [SV.int .i64 (A.getD k default).fst,SV.int .i64 (A.getD k default).snd]else YC 2 (Yu ((k-L)*2) [SV.int .i64 x,SV.int .i64 y])):=by
 by_cases h:k<L
 . rw[if_pos h];exact⟨⟨rfl,rfl⟩,⟨rfl,rfl⟩,trivial⟩
 . rw[if_neg h,show k-L=0 by omega];exact⟨⟨rfl,rfl⟩,⟨rfl,rfl⟩,trivial⟩
def flrC:Ctr:={ alias:=false,of:=fun l=>match l with
 | [.vs _ _ n sz get,.int .i64 den,.int .i64 s]=> .ex (List (Int×Int)) fun l=> .pre (lsP 2 enc2 n sz get l/\n<=1000000000000) (.fin (.tup [.int .i64 (flrF l den s).1,.bool (flrF l den s).2.1,.int .i64 (flrF l den s).2.2]) [])
 |_=>noC}
def TE0:Env:={ ct:=fun n=>match n with|81=>some chkTC|84=>some signC|86=>some oneC|_=>none,fn:=fun n=>match n with|82=>some v82|83=>some v83|85=>some v85|_=>none,meth:=fun _ _=>none}
theorem Yur:TE0.ct 81=some chkTC:=rfl
theorem Yjj:TE0.ct 84=some signC:=rfl
theorem Yjk:TE0.ct 86=some oneC:=rfl
theorem Yjh:TE0.ct 82=none:=rfl
theorem Yjl:TE0.fn 82=some v82:=rfl
theorem Yji:TE0.ct 83=none:=rfl
theorem Yjm:TE0.fn 83=some v83:=rfl
theorem Yus:TE0.ct 85=none:=rfl
theorem Yut:TE0.fn 85=some v85:=rfl
theorem YCf:Yl YGY TE0:=by
 refine⟨fun f c h=>?_,fun f vf h=>?_,(fun _ _ _ h=>by cases h),by kernel_rfl,(fun _ h=>by cases h)⟩
 . simp only[TE0]at h
   split at h
   . cases h;exact⟨YwK,Tryz.f81,Tryz.func81,by kernel_rfl,by kernel_rfl⟩
   . cases h;exact⟨Yxo,Tryz.f84,Tryz.func84,by kernel_rfl,by kernel_rfl⟩
   . cases h;exact⟨YzN,Tryz.f86,Tryz.func86,by kernel_rfl,by kernel_rfl⟩
   . cases h
 . simp only[TE0]at h
   split at h
   . cases h;exact⟨Tryz.f82,Tryz.func82,YGx,Tryz.f82,Tryz.func82,by kernel_rfl,by kernel_rfl⟩
   . cases h;exact⟨Tryz.f83,Tryz.func83,YGy,Tryz.f83,Tryz.func83,by kernel_rfl,by kernel_rfl⟩
   . cases h;exact⟨Tryz.f85,Tryz.func85,Yxz,Tryz.f85,Tryz.func85,by kernel_rfl,by kernel_rfl⟩
   . cases h
theorem flr_c:flrC.ok YGY 54:=by
 refine Yb Tryz.func54 YGg YCf 800 flrC fun args k h=>?_
 simp only[flrC]at h
 split at h
 . rename_i tt z n sz get den s
   obtain⟨l,⟨⟨rfl,rfl,hg⟩,hnb⟩,h⟩:=h
   refine⟨[.vs tt z l.length 2 (fun k=>enc2 (l.getD k default)),.int .i64 den,.int .i64 s],⟨⟨id,rfl,rfl,rfl,hg⟩,⟨rfl,rfl⟩,⟨rfl,rfl⟩,trivial⟩,?_⟩
   dsimp only[v54,Yur,chkTC,enc2,go_sem,reduceIte,YGU]
   simp only[Yc,YGU,YGW,reduceCtorEq,YGV]
   refine⟨l,⟨⟨rfl,rfl,fun k _=>Yd _⟩,by omega⟩,fun hh=>by rw[flrF,if_pos hh]at h;exact YeP h,fun hchk=>?_⟩
   obtain⟨hl,hn⟩:=YmT hchk
   rw[flrF,if_neg (by rw[hchk];decide)]at h
   refine⟨fun hh=>?_,fun hb=>?_⟩
   . rw[if_pos (show Yq9 den s=true from hh)]at h
     exact YeP h
   have hb:Yq9 den s=false:=hb
   rw[if_neg (by rw[hb];decide)]at h
   simp only[Yq9,YHq,decide_eq_false_iff_not]at hb
   have hb:(1<=den/\den<=1000000)/\1<=s/\s<=10000000:=by omega
   have hlw:IntKind.i64.wrap ((l.length:Int)+1)=(l.length:Int)+1:=YGZ _ (by omega)
   rw[hlw]
   refine⟨⟨by decide,by decide,by omega,by unfold Yah;omega⟩,?_⟩
   obtain⟨A,hA⟩:∃A,A=l.map (sclT s):=⟨_,rfl⟩
   have hAl:A.length=l.length:=by rw[hA,List.length_map]
   have hAk:∀k,k<l.length->A.getD k default=sclT s (l.getD k default):=fun k hk=>by rw[hA,YsN hk]
   rw[<-hA]at h
   refine Loop.keep [2,0,0,1,0,0,1,27,0] Nat (fun i=>[(40,.int .i64 i)]) (fun i=>[(2,.own false 2 i (fun k=>enc2 (A.getD k default))),(3,.box [.own 2 0 i 2])]) [] (fun i=>i<=l.length) (fun i=>l.length-i) ?_ ?_
   . refine⟨0,Nat.zero_le _,?_⟩
     dsimp only[go_sem,reduceIte,YGU]
     simp only[Ya]
     refine⟨⟨by decide,by decide,by decide,rfl⟩,⟨rfl,fun k hk=>absurd hk (Nat.not_lt_zero _)⟩,rfl,by decide⟩
   . rintro i hi
     dsimp only[YG0,enc2,go_sem,reduceIte,YGU]
     simp only[Yc,YGU,YGW,reduceCtorEq,YGV]
     refine⟨fun hlt=>?_,fun hge=>?_⟩
     . have hil:i<l.length:=by omega
       have hx:=hl _ (YI hil)
       simp only[okT0,YHq,decide_eq_false_iff_not]at hx
       have hm:=YaS (x:=(l.getD i default).2) (y:=s) (X:=1000000000) (Y:=10000000) (by omega) (by omega)
       rw[YGZ ((l.getD i default).2*s) (by omega),Yif (i:=i) (n:=l.length) hil (by omega)]
       refine⟨⟨by omega,by omega⟩,by decide,⟨by unfold Yah;omega,fun k hk=>one2 hk⟩,i+1,by omega,by omega,?_⟩
       simp only[Ya]
       refine⟨?_,⟨rfl,fun q hq=>?_⟩,?_⟩
       . repeat' apply YHd
         all_goals first|exact trivial|decide|rfl|omega|exact(YHs (by omega)).symm|simp
       . by_cases hqi:q<i
         . rw[if_pos hqi];exact⟨⟨rfl,rfl⟩,⟨rfl,rfl⟩,trivial⟩
         . obtain rfl:q=i:=by omega
           rw[if_neg hqi,hAk _ hil,Nat.sub_self]
           exact⟨⟨rfl,rfl⟩,⟨rfl,rfl⟩,trivial⟩
       . repeat' apply YHd
         all_goals first|exact trivial|decide|rfl|omega|exact(YHs (by omega)).symm|simp
     . obtain rfl:i=l.length:=by omega
       clear hi hge
       dsimp only[Yji,Yjm,v83,Yjh,Yjl,v82,Yjj,Yjk,signC,go_sem,reduceIte,YGU]
       simp only[Yc,YGU,YGW,reduceCtorEq,YGV]
       rw[Ykq hb.1 (by decide),Ykq hb.1 (by decide)]
       simp only[YG0]
       have hok:∀m:Int,(-1000000000001<=m/\m<=1000000000001)->∀x,x∈atG A den m->okT x:=fun m hm=>by rw[hA];exact YCO hl hb.2 hb.1 hm
       refine⟨⟨by omega,by omega⟩,by decide,⟨by decide,by unfold Yah;omega,fun k hk=>one2 hk⟩,atG A den 1000000000001,⟨YnV hAl,hok _ (by decide),by omega⟩,?_⟩
       refine⟨fun hs1=>?_,fun hs1=>?_⟩
       . refine⟨⟨by omega,by omega⟩,by decide,⟨by decide,by unfold Yah;omega,fun k hk=>one2 hk⟩,atG A den (-1000000000000),⟨YnV hAl,hok _ (by decide),by omega⟩,fun hc=>?_,fun hc=>?_⟩
         . rw[flrG,if_pos (show(isG A den 1000000000001|| !isG A den (-1000000000000))=true from hc)]at h
           exact YeP h
         . rw[flrG,if_neg (by rw[show(isG A den 1000000000001|| !isG A den (-1000000000000))=false from hc];decide)]at h
           dsimp only[Yus,Yut,v85,go_sem,reduceIte,YGU]
           simp only[Yc,YGU,YGW,reduceCtorEq,YGV]
           obtain⟨t,ht⟩:∃t,t=isG A den:=⟨_,rfl⟩
           obtain⟨R,hR⟩:∃R,R=bisL 64 t (-1000000000000) 1000000000001:=⟨_,rfl⟩
           rw[<-ht,<-hR]at h
           refine Loop.keep [2] (Nat×Int×Int) (fun s=>[(0,.int .i64 s.2.1),(1,.int .i64 s.2.2)]) (fun _=>[]) [] (fun s=>R=bisL s.1 t s.2.1 s.2.2/\ -1000000000000<=s.2.1/\s.2.1<s.2.2/\s.2.2<=1000000000001/\s.2.2-s.2.1<=2^s.1) (fun s=>s.1) ?_ ?_
           . refine⟨(64, -1000000000000,1000000000001),⟨hR,by decide,by decide,by decide,by decide⟩,?_⟩
             dsimp only[go_sem,reduceIte,YGU]
             simp only[Ya]
             repeat' apply YHd
             all_goals first|decide|rfl| (intro k hk;exact YAy hk)
           . rintro⟨f,lo,hi⟩ ⟨hf,b0,b1,b2,b3⟩
             dsimp only at hf b0 b1 b2 b3
             dsimp only[Yji,Yjm,v83,Yjh,Yjl,v82,Yjj,Yjk,signC,oneC,go_sem,reduceIte,YGU]
             simp only[Yc,YGU,YGW,reduceCtorEq,YGV]
             simp only[YG0]
             have ed:IntKind.i64.wrap (hi-lo)=hi-lo:=YGZ _ (by omega)
             have e2:IntKind.i64.wrap ((hi-lo).tdiv 2)=(hi-lo)/2:=by
               rw[Int.tdiv_eq_ediv_of_nonneg (by omega),YGZ _ (by omega)]
             have e3:IntKind.i64.wrap (lo+(hi-lo)/2)=lo+(hi-lo)/2:=YGZ _ (by omega)
             rw[ed,e2,e3]
             refine⟨fun hc1=>?_,fun hc1=>?_⟩
             . obtain⟨m,hm⟩:∃m,m=lo+(hi-lo)/2:=⟨_,rfl⟩
               rw[<-hm,Ykq hb.1 (by omega)]
               obtain⟨g,rfl⟩:∃g,f=g+1:=by
                 cases f with
                 |zero=>simp at b3;omega
                 |succ g=>exact⟨g,rfl⟩
               rw[bisL,if_pos hc1,<-hm]at hf
               have b4:hi-lo<=2^g*2:=by rw[<-Int.pow_succ];exact b3
               refine⟨by decide,⟨by omega,by omega⟩,by decide,⟨by decide,by unfold Yah;omega,fun k hk=>one2 hk⟩,atG A den m,⟨YnV hAl,hok _ (by omega),by omega⟩,fun hd1=>?_,fun hd1=>?_⟩
               . have hd1:t m=true:=by rw[ht];exact decide_eq_true hd1
                 rw[if_pos hd1]at hf
                 refine⟨(g,m,hi),⟨hf,by simp only;omega,by simp only;omega,b2,by simp only;omega⟩,by simp only;omega,?_⟩
                 simp only[Ya]
                 repeat' apply YHd
                 all_goals first|decide|rfl| (intro k hk;exact YAy hk)
               . have hd1:t m=false:=by rw[ht];exact decide_eq_false hd1
                 rw[if_neg (by rw[hd1];decide)]at hf
                 refine⟨(g,lo,m),⟨hf,by simp only;omega,by simp only;omega,by simp only;omega,by simp only;omega⟩,by simp only;omega,?_⟩
                 simp only[Ya]
                 repeat' apply YHd
                 all_goals first|decide|rfl| (intro k hk;exact YAy hk)
             . have hRlo:R=lo:=by
                 cases f with
                 |zero=>exact hf
                 |succ g=>rw[hf,bisL,if_neg hc1]
               subst hRlo
               rw[Ykq hb.1 (by omega)]
               exact⟨⟨by omega,by omega⟩,by decide,⟨by decide,by unfold Yah;omega,fun k hk=>one2 hk⟩,atG A den R,⟨YnV hAl,hok _ (by omega),by omega⟩,YeP h⟩
       . refine⟨hs1,.bool false,?_⟩
         dsimp only[Yji,Yjm,v83,Yjh,Yjl,v82,Yjj,Yjk,signC,go_sem,reduceIte,YGU]
         simp only[Yc,YGU,YGW,reduceCtorEq,YGV]
         have hw:isG A den 1000000000001=true:=decide_eq_true hs1
         rw[flrG,if_pos (by rw[hw];rfl)]at h
         refine⟨fun _=>YeP h,fun hc=>?_⟩
         rw[decide_eq_true hs1]at hc
         cases hc
 . exact h.1.elim
def v146:VF:=⟨51,[.cell 2 true 7,.tmp 3,.tmp 4],(ZR [u1 1 .box [.tm 0],u1 2 (.alloc [(.int .i64 0),(.int .i64 0),(.int .i64 0),(.int .i64 0),(.int .i64 0),(.int .i64 0),(.int .i64 0)]) [],Zi 3 0,Zi 4 0] (ZR [Zt 11 7 1,Zc 12 80 11,Zm 10 12,Ze 13 0 10,Ze 14 1 10,Ze 15 2 10,Zm 5 13,Zm 6 14,Zm 4 15] (.seq (ZR [Zm 16 4,Zq 17 .neq 16 0] (ZC 17 (ZR [u1 18 (.build [(.int .i64 0),(.int .i64 0),(.int .i64 0),(.int .i64 0),(.int .i64 0),(.int .i64 0),(.int .i64 0)] []) [],Zm 19 4,Zs 7 2 18,Zi 3 0,Zm 4 19] .ret) .skip)) (ZR [Zm 21 5,Zm 22 6,u1 23 (.call 54) [.tm 21,.tm 22,.cn (.int .i64 1)],Zm 20 23,Ze 24 0 20,Ze 25 1 20,Ze 26 2 20,Zm 7 24,Zm 8 25,Zm 9 26] (ZR [Za 27 0 1,u1 28 (.idxArr 6 1) [.tm 27,.cn (.int .i64 0)],Zf 29 1 28,Zm 30 7,Za 31 6 1,Zf 32 1 31,Zo 33 .mul 30 32,Zo 34 .sub 29 33,Za 35 0 1,u1 36 (.idxArr 6 1) [.tm 35,.cn (.int .i64 0)],Zs 1 36 34] (.seq (ZR [Za 38 0 1,Zt 39 6 38,Za 40 6 1,Zf 41 1 40,Zd 42 113 39 41,Zm 37 42,Ze 43 0 37,Ze 44 1 37,Zs 7 2 43,Zm 4 44] (ZR [Zm 45 4,Zq 46 .neq 45 0] (ZC 46 (ZR [u1 47 (.build [(.int .i64 0),(.int .i64 0),(.int .i64 0),(.int .i64 0),(.int .i64 0),(.int .i64 0),(.int .i64 0)] []) [],Zm 48 4,Zs 7 2 47,Zi 3 0,Zm 4 48] .ret) .skip))) (ZR [Zt 49 7 2,Zm 50 7,Zs 7 2 49,Zm 3 50,Zi 4 0] .ret)))))))⟩
theorem YBp:Yf YGY Tryz.f146=some v146:=by kernel_rfl
def v126:VF:=⟨14,[.cell 4 true 7],(ZR [u1 4 (.alloc [(.int .i64 0),(.int .i64 0),(.int .i64 0),(.int .i64 0),(.int .i64 0),(.int .i64 0),(.int .i64 0)]) []] (ZR [Zm 8 0,Zm 9 1,Zd 10 143 8 9,Zm 7 10,Ze 11 0 7,Ze 12 1 7,u1 5 (.alloc [(.int .i64 0),(.int .i64 0),(.int .i64 0),(.int .i64 0),(.int .i64 0),(.int .i64 0),(.int .i64 0)]) [],Zs 7 5 11,Zm 6 12] (ZR [Zt 13 7 5,Zs 7 4 13] .ret)))⟩
theorem YA7:Yf YGY Tryz.f126=some v126:=by kernel_rfl
def v129:VF:=⟨14,[.cell 4 true 7],(ZR [u1 2 .box [.tm 0],u1 3 .box [.tm 1],u1 4 (.alloc [(.int .i64 0),(.int .i64 0),(.int .i64 0),(.int .i64 0),(.int .i64 0),(.int .i64 0),(.int .i64 0)]) []] (ZR [Zt 8 7 2,Zt 9 7 3,Zd 10 147 8 9,Zm 7 10,Ze 11 0 7,Ze 12 1 7,u1 5 (.alloc [(.int .i64 0),(.int .i64 0),(.int .i64 0),(.int .i64 0),(.int .i64 0),(.int .i64 0),(.int .i64 0)]) [],Zs 7 5 11,Zm 6 12] (ZR [Zt 13 7 5,Zs 7 4 13] .ret)))⟩
theorem YBa:Yf YGY Tryz.f129=some v129:=by kernel_rfl
def v145:VF:=⟨14,[.cell 4 true 7],(ZR [u1 2 .box [.tm 0],u1 3 .box [.tm 1],u1 4 (.alloc [(.int .i64 0),(.int .i64 0),(.int .i64 0),(.int .i64 0),(.int .i64 0),(.int .i64 0),(.int .i64 0)]) []] (ZR [Zt 8 7 2,Zt 9 7 3,Zd 10 79 8 9,Zm 7 10,Ze 11 0 7,Ze 12 1 7,u1 5 (.alloc [(.int .i64 0),(.int .i64 0),(.int .i64 0),(.int .i64 0),(.int .i64 0),(.int .i64 0),(.int .i64 0)]) [],Zs 7 5 11,Zm 6 12] (ZR [Zt 13 7 5,Zs 7 4 13] .ret)))⟩
theorem YBo:Yf YGY Tryz.f145=some v145:=by kernel_rfl
def v128:VF:=⟨13,[.cell 2 true 7],(ZR [u1 1 .box [.tm 0],u1 2 (.alloc [(.int .i64 0),(.int .i64 0),(.int .i64 0),(.int .i64 0),(.int .i64 0),(.int .i64 0),(.int .i64 0)]) []] (ZR [Zt 7 7 1,Zc 8 146 7,Zm 6 8,Ze 9 0 6,Ze 10 1 6,Ze 11 2 6,u1 3 (.alloc [(.int .i64 0),(.int .i64 0),(.int .i64 0),(.int .i64 0),(.int .i64 0),(.int .i64 0),(.int .i64 0)]) [],Zs 7 3 9,Zm 4 10,Zm 5 11] (ZR [Zt 12 7 3,Zs 7 2 12] .ret)))⟩
theorem YA9:Yf YGY Tryz.f128=some v128:=by kernel_rfl
theorem YjH{t:Int->Bool}:∀(f:Nat)(a b:Int),a<b->a<=bisL f t a b/\bisL f t a b<b
 |0,a,b,h=>⟨YHS _,h⟩
 |f+1,a,b,h=>by
   rw[bisL]
   split
   . split
     . have:=YjH (t:=t) f (a+(b-a)/2) b (by omega);omega
     . have:=YjH (t:=t) f a (a+(b-a)/2) (by omega);omega
   . omega
theorem Yvp(l:List (Int×Int))(den s:Int): -1000000000000<=(flrF l den s).1/\(flrF l den s).1<=1000000000000:=by
 unfold flrF
 split
 . simp only;omega
 . split
   . simp only;omega
   . unfold flrG
     split
     . simp only;omega
     . have:=YjH (t:=isG (l.map (sclT s)) den) 64 (-1000000000000) 1000000000001 (by decide)
       simp only
       omega
def offR(r:Rt)(k:Int):Rt:=⟨r.a-k*r.n,r.b,r.c,r.d,r.e,r.f,r.n⟩
def YdP(r:Rt):Rt×Int×Int:=
 if chkR r≠0 then(YaQ,0,chkR r)
 else if(Ydy (offR r (flrF (Yg r) r.n 1).1)).2≠0 then(YaQ,0,(Ydy (offR r (flrF (Yg r) r.n 1).1)).2)
 else((Ydy (offR r (flrF (Yg r) r.n 1).1)).1,(flrF (Yg r) r.n 1).1,0)
def foldC:Ctr:={ alias:=false,of:=fun l=>match l with
 | [.agg [.int .i64 a,.int .i64 b,.int .i64 c,.int .i64 d,.int .i64 e,.int .i64 f,.int .i64 n]]=> .fin (.tup [.agg (encR (YdP ⟨a,b,c,d,e,f,n⟩).1),.int .i64 (YdP ⟨a,b,c,d,e,f,n⟩).2.1,.int .i64 (YdP ⟨a,b,c,d,e,f,n⟩).2.2]) []
 |_=>noC}
theorem YmK{k:SV->List HO->Prop}{al:Bool}{hp:List HO}{r:Rt}{o e:Int}(h:k (.tup [.agg (encR r),.int .i64 o,.int .i64 e]) []):Yy al k (.tup [.agg (encR r),.int .i64 o,.int .i64 e]) hp:=
 YD (show k _ []from h) (Yw (.tup [.agg (encR r),.int .i64 o,.int .i64 e]) ⟨⟨trivial,trivial,trivial,trivial,trivial,trivial,trivial,trivial⟩,trivial,trivial,trivial⟩) (fun _=>by simp [Yj,Yk,encR])
def TF0:Env:={ ct:=fun n=>match n with|80=>some trmC|54=>some flrC|113=>some madeC|_=>none,fn:=fun _=>none,meth:=fun _ _=>none}
theorem Yjo:TF0.ct 80=some trmC:=rfl
theorem Yjn:TF0.ct 54=some flrC:=rfl
theorem Yg9:TF0.ct 113=some madeC:=rfl
theorem YCg:Yl YGY TF0:=by
 refine⟨fun f c h=>?_,fun f vf h=>?_,(fun _ _ _ h=>by cases h),by kernel_rfl,(fun _ h=>by cases h)⟩
 . simp only[TF0]at h
   split at h
   . cases h;exact⟨YFI,Tryz.f80,Tryz.func80,by kernel_rfl,by kernel_rfl⟩
   . cases h;exact⟨flr_c,Tryz.f54,Tryz.func54,by kernel_rfl,by kernel_rfl⟩
   . cases h;exact⟨YsK,Tryz.f113,Tryz.func113,by kernel_rfl,by kernel_rfl⟩
   . cases h
 . cases h
theorem YDu:foldC.ok YGY 146:=by
 refine Yb Tryz.func146 YBp YCg 300 foldC fun args k h=>?_
 simp only[foldC]at h
 split at h
 . rename_i a b c d e f n
   refine⟨[.agg [.int .i64 a,.int .i64 b,.int .i64 c,.int .i64 d,.int .i64 e,.int .i64 f,.int .i64 n]],by simp [leL,le],?_⟩
   obtain⟨r,hr⟩:∃r:Rt,r=⟨a,b,c,d,e,f,n⟩:=⟨_,rfl⟩
   rw[<-hr]at h
   rw[show a=r.a by rw[hr],show b=r.b by rw[hr],show c=r.c by rw[hr],show d=r.d by rw[hr],show e=r.e by rw[hr],show f=r.f by rw[hr],show n=r.n by rw[hr]]
   clear hr
   have h:k (.tup [.agg (encR (YdP r).1),.int .i64 (YdP r).2.1,.int .i64 (YdP r).2.2]) []:=h
   dsimp only[v146,Yjo,Yjn,Yg9,trmC,flrC,madeC,encR,go_sem,reduceIte,YGU]
   simp only[Yc,YGU,YGW,reduceCtorEq,YGV]
   rw[show Rt.mk r.a r.b r.c r.d r.e r.f r.n=r from rfl]
   by_cases hc:chkR r=0
   . rw[if_neg (by rw[hc];decide)]
     rw[YdP,if_neg (by rw[hc];decide)]at h
     dsimp only[Yjo,Yjn,Yg9,trmC,flrC,madeC,encR,go_sem,reduceIte,YGU]
     simp only[Yc,YGU,YGW,reduceCtorEq,YGV]
     have hk:=Yvp (Yg r) r.n 1
     have hn:=Ygk hc
     have ha:=Yee hc (i:=0) (by decide)
     simp only[Rt.num]at ha
     have hm:=YaS (x:=(flrF (Yg r) r.n 1).1) (y:=r.n) (X:=1000000000000) (Y:=1000) hk (by omega)
     refine fun y=>⟨by decide,by decide,by decide,fun hh=>absurd trivial hh,Yg r,⟨⟨rfl,rfl,fun q _=>Yd _⟩,by have:=YbV r;omega⟩,?_⟩
     rw[YGZ ((flrF (Yg r) r.n 1).1*r.n) (by omega),YGZ (r.a-(flrF (Yg r) r.n 1).1*r.n) (by omega)]
     refine⟨by decide,by decide,by decide,by decide,by decide,⟨by omega,by omega,fun i hi=>?_⟩,by decide,by decide,fun he=>?_,fun he=>?_⟩
     . have:=Yee hc hi
       rcases six hi with rfl|rfl|rfl|rfl|rfl|rfl <;> (simp only[Rt.num]at this⊢;omega)
     . rw[if_pos (show(Ydy (offR r (flrF (Yg r) r.n 1).1)).2≠0 from he)]at h
       exact YmK (r:=YaQ) h
     . rw[if_neg (show¬(Ydy (offR r (flrF (Yg r) r.n 1).1)).2≠0 from fun hh=>hh he)]at h
       exact(YmK (r:=(Ydy (offR r (flrF (Yg r) r.n 1).1)).1) h)
   . rw[if_pos hc]
     rw[YdP,if_pos hc]at h
     dsimp only[Yjo,Yjn,Yg9,trmC,flrC,madeC,encR,go_sem,reduceIte,YGU]
     simp only[Yc,YGU,YGW,reduceCtorEq,YGV]
     exact⟨by decide,by decide,by decide,fun _=>YmK (r:=YaQ) h,fun hh=>absurd hh hc⟩
 . exact h.1.elim
def Yf7:Ctr:=YdY 1
def YaZ:Ctr:=YdY (-1)
def wholeC:Ctr:={ alias:=false,of:=fun l=>match l with
 | [.int .i64 a,.int .i64 b]=> .fin (.agg (encR (ofRF a b).1)) []
 |_=>noC}
def m2C(s:Int):Ctr:={ alias:=false,of:=fun l=>match l with
 | [.agg [.int .i64 a,.int .i64 b,.int .i64 c,.int .i64 d,.int .i64 e,.int .i64 f,.int .i64 n],.agg [.int .i64 a',.int .i64 b',.int .i64 c',.int .i64 d',.int .i64 e',.int .i64 f',.int .i64 n']]=>
   .fin (.agg (encR (Ybq ⟨a,b,c,d,e,f,n⟩ ⟨a',b',c',d',e',f',n'⟩ s).1)) []
 |_=>noC}
def folC:Ctr:={ alias:=false,of:=fun l=>match l with
 | [.agg [.int .i64 a,.int .i64 b,.int .i64 c,.int .i64 d,.int .i64 e,.int .i64 f,.int .i64 n]]=> .fin (.agg (encR (YdP ⟨a,b,c,d,e,f,n⟩).1)) []
 |_=>noC}
def TF1:Env:={ ct:=fun n=>match n with|143=>some ofRC|147=>some Yf7|79=>some YaZ|146=>some foldC|_=>none,fn:=fun _=>none,meth:=fun _ _=>none}
theorem Yfd:TF1.ct 143=some ofRC:=rfl
theorem Yff:TF1.ct 147=some Yf7:=rfl
theorem YgI:TF1.ct 79=some YaZ:=rfl
theorem Yfe:TF1.ct 146=some foldC:=rfl
theorem YnG:Yl YGY TF1:=by
 refine⟨fun f c h=>?_,fun f vf h=>?_,(fun _ _ _ h=>by cases h),by kernel_rfl,(fun _ h=>by cases h)⟩
 . simp only[TF1]at h
   split at h
   . cases h;exact⟨of_c,Tryz.f143,Tryz.func143,by kernel_rfl,by kernel_rfl⟩
   . cases h;exact⟨YEa,Tryz.f147,Tryz.func147,by kernel_rfl,by kernel_rfl⟩
   . cases h;exact⟨YwL,Tryz.f79,Tryz.func79,by kernel_rfl,by kernel_rfl⟩
   . cases h;exact⟨YDu,Tryz.f146,Tryz.func146,by kernel_rfl,by kernel_rfl⟩
   . cases h
 . cases h
theorem Yt3:wholeC.ok YGY 126:=by
 refine Yb Tryz.func126 YA7 YnG 300 wholeC fun args k h=>?_
 simp only[wholeC]at h
 split at h
 . rename_i a b
   refine⟨[.int .i64 a,.int .i64 b],by simp [leL,le],?_⟩
   dsimp only[v126,Yfd,Yff,YgI,Yfe,ofRC,Yf7,YaZ,YdY,foldC,encR,go_sem,reduceIte,YGU]
   simp only[Yc,YGU,YGW,reduceCtorEq,YGV]
   exact⟨by decide,by decide,YuU (r:=(ofRF a b).1) h⟩
 . exact h.1.elim
theorem YDt:folC.ok YGY 128:=by
 refine Yb Tryz.func128 YA9 YnG 300 folC fun args k h=>?_
 simp only[folC]at h
 split at h
 . rename_i a b c d e f n
   refine⟨[.agg [.int .i64 a,.int .i64 b,.int .i64 c,.int .i64 d,.int .i64 e,.int .i64 f,.int .i64 n]],by simp [leL,le],?_⟩
   dsimp only[v128,Yfd,Yff,YgI,Yfe,ofRC,Yf7,YaZ,YdY,foldC,encR,go_sem,reduceIte,YGU]
   simp only[Yc,YGU,YGW,reduceCtorEq,YGV]
   exact⟨by decide,by decide,by decide,YuU (r:=(YdP ⟨a,b,c,d,e,f,n⟩).1) h⟩
 . exact h.1.elim
theorem YFH:(m2C 1).ok YGY 129:=by
 refine Yb Tryz.func129 YBa YnG 300 (m2C 1) fun args k h=>?_
 simp only[m2C]at h
 split at h
 . rename_i a b c d e f n a' b' c' d' e' f' n'
   refine⟨[.agg [.int .i64 a,.int .i64 b,.int .i64 c,.int .i64 d,.int .i64 e,.int .i64 f,.int .i64 n],.agg [.int .i64 a',.int .i64 b',.int .i64 c',.int .i64 d',.int .i64 e',.int .i64 f',.int .i64 n']],by simp [leL,le],?_⟩
   dsimp only[v129,Yfd,Yff,YgI,Yfe,ofRC,Yf7,YaZ,YdY,foldC,encR,go_sem,reduceIte,YGU]
   simp only[Yc,YGU,YGW,reduceCtorEq,YGV]
   exact⟨by decide,by decide,YuU (r:=(Ybq ⟨a,b,c,d,e,f,n⟩ ⟨a',b',c',d',e',f',n'⟩ 1).1) h⟩
 . exact h.1.elim
theorem ovr_c:(m2C (-1)).ok YGY 145:=by
 refine Yb Tryz.func145 YBo YnG 300 (m2C (-1)) fun args k h=>?_
 simp only[m2C]at h
 split at h
 . rename_i a b c d e f n a' b' c' d' e' f' n'
   refine⟨[.agg [.int .i64 a,.int .i64 b,.int .i64 c,.int .i64 d,.int .i64 e,.int .i64 f,.int .i64 n],.agg [.int .i64 a',.int .i64 b',.int .i64 c',.int .i64 d',.int .i64 e',.int .i64 f',.int .i64 n']],by simp [leL,le],?_⟩
   dsimp only[v145,Yfd,Yff,YgI,Yfe,ofRC,Yf7,YaZ,YdY,foldC,encR,go_sem,reduceIte,YGU]
   simp only[Yc,YGU,YGW,reduceCtorEq,YGV]
   exact⟨by decide,by decide,YuU (r:=(Ybq ⟨a,b,c,d,e,f,n⟩ ⟨a',b',c',d',e',f',n'⟩ (-1)).1) h⟩
 . exact h.1.elim
def letF(c:Int):Bool:=(decide (97<=c)&&decide (c<=122)) || (decide (65<=c)&&decide (c<=90))
def digF(c:Int):Bool:=decide (48<=c)&&decide (c<=57)
def okB(b:ByteArray)(i:Nat):Bool:=letF (YbD b i) || (decide (i≠0)&&(decide (YbD b i=95) || digF (YbD b i)))
def Ykp(b:ByteArray):Bool:=decide (1<=b.size)&&decide (b.size<=16)&&(List.range b.size).all (okB b)
theorem Ys4(b:ByteArray)(i:Nat):(!letF (YbD b i)&&(decide ((i:Int)=0) || !decide (YbD b i=95)&& !digF (YbD b i)))= !okB b i:=by
 unfold okB
 have e:decide ((i:Int)=0)=decide (i=0):=decide_eq_decide.2 (by omega)
 rw[e,decide_not]
 cases letF (YbD b i) <;> cases decide (i=0) <;> cases decide (YbD b i=95) <;> cases digF (YbD b i) <;> rfl
theorem YzK{b:ByteArray}(h:∀j,j<b.size->okB b j=true):(List.range b.size).all (okB b)=true:=by
 rw[List.all_eq_true];intro j hj;exact h j (List.mem_range.1 hj)
theorem YEl{b:ByteArray}{i:Nat}(hi:i<b.size)(h:okB b i=false):(List.range b.size).all (okB b)=false:=by
 rw[List.all_eq_false];exact⟨i,List.mem_range.2 hi,by simp [h]⟩
theorem YzD{b:ByteArray}{i:Nat}(hi:i<b.size)(h:okB b i=false):Ykp b=false:=by
 unfold Ykp;rw[YEl hi h,Bool.and_false]
theorem YvU{b:ByteArray}(h:∀j,j<b.size->okB b j=true):Ykp b=(decide (1<=(b.size:Int))&&decide ((b.size:Int)<=16)):=by
 unfold Ykp
 rw[YzK h,Bool.and_true,show decide (1<=(b.size:Int))=decide (1<=b.size)from decide_eq_decide.2 (by omega),show decide ((b.size:Int)<=16)=decide (b.size<=16)from decide_eq_decide.2 (by omega)]
theorem Ypn(b:ByteArray)(i:Nat):0<=YbD b i/\YbD b i<=255:=by
 unfold YbD
 have h:=UInt8.toNat_lt (b.data.toList.getD i 0)
 omega
set_option maxRecDepth 100000 in
theorem YD4{c:Int}(h0:0<=c)(h1:c<=255):(decide (97<=bitI .or .u8 c 32)&&decide (bitI .or .u8 c 32<=122))=letF c:=by
 have key:∀n:Fin 256,(decide (97<=bitI .or .u8 ((n.val:Nat):Int) 32)&&decide (bitI .or .u8 ((n.val:Nat):Int) 32<=122))=letF ((n.val:Nat):Int):=by decide
 have:=key ⟨c.toNat,by omega⟩
 have e:((c.toNat:Nat):Int)=c:=by omega
 simp only[e]at this
 exact this
def v141:VF:=⟨11,[.tmp 2],(ZR [u1 2 .mov [.cn (.bool false)]] (ZR [Zm 3 0,u1 4 (.bit .or) [.tm 3,.cn (.int .u8 32)],u1 5 (.cmp .geq) [.tm 4,.cn (.int .u8 97)],Zm 6 5,Zg 7 6 true 0,u2 8 6 true (.bit .or) [.tm 7,.cn (.int .u8 32)],u2 9 6 true (.cmp .leq) [.tm 8,.cn (.int .u8 122)],u1 10 .and [.tm 6,.tm 9],Zm 2 10] .ret))⟩
theorem YBk:Yf YGY Tryz.f141=some v141:=by kernel_rfl
def v142:VF:=⟨9,[.tmp 2],(ZR [u1 2 .mov [.cn (.bool false)]] (ZR [Zm 3 0,u1 4 (.cmp .geq) [.tm 3,.cn (.int .u8 48)],Zm 5 4,Zg 6 5 true 0,u2 7 5 true (.cmp .leq) [.tm 6,.cn (.int .u8 57)],u1 8 .and [.tm 5,.tm 7],Zm 2 8] .ret))⟩
theorem YBl:Yf YGY Tryz.f142=some v142:=by kernel_rfl
def v125:VF:=⟨38,[.tmp 2],(ZR [u1 2 .mov [.cn (.bool false)]] (.seq (ZR [Zm 5 0,u1 6 .lenStr [.tm 5],Zi 7 0] (.block 0 (.loop (ZR [Zr 8 .lss 7 6] (.seq (ZC 8 .skip (.exit 0)) (.seq (.block 1 (ZR [Zm 9 7,Zm 3 9] (ZR [Zm 10 0,Zm 11 3,u1 12 .idxStr [.tm 10,.tm 11],Zm 4 12] (ZR [Zm 13 4,Zc 14 141 13,u1 15 .not [.tm 14],Zm 16 15,Zg 17 16 true 3,u2 18 16 true (.cmp .eql) [.tm 17,.cn (.int .i64 0)],Zg 19 16 true 18,Zg 20 19 false 4,u2 21 19 false (.cmp .neq) [.tm 20,.cn (.int .u8 95)],Zg 22 19 false 21,Zg 23 22 true 4,u2 24 22 true (.call 142) [.tm 23],u2 25 22 true .not [.tm 24],u2 26 19 false .and [.tm 22,.tm 25],u2 27 16 true .or [.tm 19,.tm 26],u1 28 .and [.tm 16,.tm 27]] (ZC 28 (ZR [u1 2 .mov [.cn (.bool false)]] .ret) .skip))))) (.region [Zp 29 7 1,Zm 7 29]))))))) (ZR [Zm 30 0,u1 31 .lenStr [.tm 30],Zq 32 .geq 31 1,Zm 33 32,Zg 34 33 true 0,u2 35 33 true .lenStr [.tm 34],u2 36 33 true (.cmp .leq) [.tm 35,.cn (.int .i64 16)],u1 37 .and [.tm 33,.tm 36],Zm 2 37] .ret)))⟩
theorem YA6:Yf YGY Tryz.f125=some v125:=by kernel_rfl
def letC:Ctr:={ alias:=false,of:=fun l=>match l with
 | [.int .u8 c]=> .pre (0<=c/\c<=255) (.fin (.bool (letF c)) [])
 |_=>noC}
def digC:Ctr:={ alias:=false,of:=fun l=>match l with
 | [.int .u8 c]=> .fin (.bool (digF c)) []
 |_=>noC}
def NM0:Env:={ ct:=fun _=>none,fn:=fun _=>none,meth:=fun _ _=>none}
theorem Ywz:Yl YGY NM0:=by
 refine⟨fun f c h=>?_,fun f vf h=>?_,(fun _ _ _ h=>by cases h),by kernel_rfl,(fun _ h=>by cases h)⟩
 . cases h
 . cases h
theorem YD3:letC.ok YGY 141:=by
 refine Yb Tryz.func141 YBk Ywz 100 letC fun args k h=>⟨args,?_⟩
 simp only[letC]at h
 split at h
 . refine⟨by simp [leL,le],?_⟩
   dsimp only[v141,go_sem,reduceIte,YGU]
   simp only[Yc,YGU,YGW,reduceCtorEq,YGV]
   obtain⟨⟨h0,h1⟩,h⟩:=h
   have h:k _ []:=h
   rw[<-YD4 h0 h1]at h
   exact Yx h
 . exact h.1.elim
theorem YDi:digC.ok YGY 142:=by
 refine Yb Tryz.func142 YBl Ywz 100 digC fun args k h=>⟨args,?_⟩
 simp only[digC]at h
 split at h
 . refine⟨by simp [leL,le],?_⟩
   dsimp only[v142,go_sem,reduceIte,YGU]
   simp only[Yc,YGU,YGW,reduceCtorEq,YGV]
   have h:k _ []:=h
   unfold digF at h
   exact Yx h
 . exact h.1.elim
def nameC:Ctr:={ alias:=false,of:=fun l=>match l with
 | [.val (.string b)]=> .pre (b.size<=9223372036854775807) (.fin (.bool (Ykp b)) [])
 |_=>noC}
def NM1:Env:={ ct:=fun n=>match n with|141=>some letC|142=>some digC|_=>none,fn:=fun _=>none,meth:=fun _ _=>none}
theorem Yp0:NM1.ct 141=some letC:=rfl
theorem Yp1:NM1.ct 142=some digC:=rfl
theorem YBO:Yl YGY NM1:=by
 refine⟨fun f c h=>?_,fun f vf h=>?_,(fun _ _ _ h=>by cases h),by kernel_rfl,(fun _ h=>by cases h)⟩
 . simp only[NM1]at h
   split at h
   . cases h;exact⟨YD3,Tryz.f141,Tryz.func141,by kernel_rfl,by kernel_rfl⟩
   . cases h;exact⟨YDi,Tryz.f142,Tryz.func142,by kernel_rfl,by kernel_rfl⟩
   . cases h
 . cases h
theorem YzE:nameC.ok YGY 125:=by
 refine Yb Tryz.func125 YA6 YBO 200 nameC fun args k h=>⟨args,?_⟩
 simp only[nameC]at h
 split at h
 . rename_i b
   refine⟨by simp [leL,le,bnd],?_⟩
   obtain⟨hb,h⟩:=h
   have h:k _ []:=h
   dsimp only[v125,go_sem,reduceIte,YGU]
   simp only[Yc,YGU,YGW,reduceCtorEq,YGV]
   refine Loop.keep [0,4,0,0] Nat (fun i=>[(7,.int .i64 i)]) (fun _=>[]) [] (fun i=>i<=b.size/\∀j,j<i->okB b j=true) (fun i=>b.size-i) ?_ ?_
   . refine⟨0,⟨Nat.zero_le _,fun j h=>by omega⟩,?_⟩
     dsimp only[go_sem,reduceIte,YGU]
     simp only[Ya]
     simp
   . rintro i ⟨hi,ha⟩
     dsimp only[Yp0,Yp1,letC,digC,go_sem,reduceIte,YGU]
     simp only[Yc,YGU,YGW,reduceCtorEq,YGV,YG0]
     refine⟨fun hlt=>⟨⟨by omega,hlt⟩,Ypn b i,fun a c=>by rw[a,decide_eq_false c];rfl,fun a c=>by rw[a,decide_eq_false c];rfl,fun hc=>?_,fun hc=>?_⟩,fun hge=>?_⟩
     . rw[Ys4]at hc
       rw[YzD (by omega:i<b.size) (by simpa using hc)]at h
       exact Yx h
     . rw[Ys4]at hc
       refine⟨i+1,⟨by omega,fun j hj=>?_⟩,by omega,?_⟩
       . rcases YHE j i with h'|h'
         . exact ha j h'
         . obtain rfl:j=i:=by omega
           simpa using hc
       . simp only[Ya]
         exact Yif (by omega:i<b.size) (by omega)
     . obtain rfl:i=b.size:=by omega
       rw[YvU ha]at h
       exact Yx h
 . exact h.1.elim
def v124:VF:=⟨12,[.tmp 4],(ZR [Zi 4 0] (.seq (.block 0 (.loop (.seq (ZR [Zm 5 1,Zq 6 .neq 5 0] (ZC 6 .skip (.exit 0))) (.block 1 (.draw [] [Zu 7 1,Zu 8 0,Zu 9 1,w1 10 .rem [.tm 8,.tm 9],Zu 0 7,Zu 1 10]))))) (ZR [Zm 11 0,Zm 4 11] .ret)))⟩
theorem YA5:Yf YGY Tryz.f124=some v124:=by kernel_rfl
def v107:VF:=⟨90,[.tmp 2],(ZR [u1 1 .box [.tm 0],Zi 2 0] (.seq (ZR [Za 7 2 1,Zf 8 1 7,Zq 9 .lss 8 0,Zm 10 9,Zj 11 10 false 2 1,Zh 12 10 false 1 11,u2 13 10 false (.cmp .gtr) [.tm 12,.cn (.int .i64 11)],u1 14 .or [.tm 10,.tm 13]] (ZC 14 (ZR [Zi 2 2] .ret) .skip)) (ZR [u1 3 .mov [.cn (.bool true)],Zi 4 1] (.seq (ZR [Za 15 3 1,Zt 16 24 15,Zi 17 0] (.block 0 (.loop (ZR [Zq 18 .lss 17 12] (.seq (ZC 18 .skip (.exit 0)) (.seq (.block 1 (ZR [u1 19 (.index true 12 2) [.tm 16,.tm 17],Zn 6,Zs 2 6 19] (.seq (ZR [Za 20 1 6,Zf 21 1 20,Zq 22 .lss 21 1,Zm 23 22,Zj 24 23 false 1 6,Zh 25 23 false 1 24,u2 26 23 false (.cmp .gtr) [.tm 25,.cn (.int .i64 24)],u1 27 .or [.tm 23,.tm 26],Zm 28 27,Zj 29 28 false 0 6,Zh 30 28 false 1 29,Zj 31 28 false 1 6,Zh 32 28 false 1 31,u2 33 28 false (.ari .mul) [.cn (.int .i64 (-2)),.tm 32],u2 34 28 false (.cmp .lss) [.tm 30,.tm 33],u1 35 .or [.tm 28,.tm 34],Zm 36 35,Zj 37 36 false 0 6,Zh 38 36 false 1 37,Zj 39 36 false 1 6,Zh 40 36 false 1 39,u2 41 36 false (.ari .mul) [.cn (.int .i64 2),.tm 40],u2 42 36 false (.cmp .gtr) [.tm 38,.tm 41],u1 43 .or [.tm 36,.tm 42]] (ZC 43 (ZR [Zi 2 2] .ret) .skip)) (ZR [Zm 44 3,Zm 45 44,Zj 46 45 true 0 6,Zh 47 45 true 1 46,Zj 48 45 true 0 6,Zh 49 45 true 1 48,u2 50 45 true .neg [.tm 49],u2 51 45 true .max [.tm 47,.tm 50],Zj 52 45 true 1 6,Zh 53 45 true 1 52,u2 54 45 true (.call 124) [.tm 51,.tm 53],u2 55 45 true (.cmp .eql) [.tm 54,.cn (.int .i64 1)],u1 56 .and [.tm 45,.tm 55],Zm 3 56] (ZR [Zm 57 4,Zq 58 .leq 57 120] (ZC 58 (.draw [] [Zu 59 4,Zu 60 4,Zy 61 1 6,Zv 62 1 61,Zy 65 1 6,Zv 66 1 65,Zz 63 124 60 62,w1 64 .quo [.tm 59,.tm 63],w1 67 (.ari .mul) [.tm 64,.tm 66],Zu 4 67]) .skip)))))) (.region [Zp 68 17 1,Zm 17 68]))))))) (.seq (.block 2 (ZR [Za 70 0 1,Zf 71 1 70,Zc 72 125 71,u1 73 .not [.tm 72],Zm 74 73,Zg 75 74 false 3,u2 76 74 false .not [.tm 75],u1 77 .or [.tm 74,.tm 76],Zm 78 77,Zj 79 78 false 2 1,Zh 80 78 false 1 79,Zj 81 78 false 3 1,u2 82 78 false (.idxArr 12 2) [.tm 81,.tm 80],Zj 83 78 false 0 82,Zh 84 78 false 1 83,u2 85 78 false (.cmp .neq) [.tm 84,.cn (.int .i64 0)],u1 86 .or [.tm 78,.tm 85],Zm 69 86] (ZC 69 (ZR [Zi 2 6] .ret) (ZR [Zm 88 4,Zq 89 .gtr 88 120,Zm 87 89] (ZC 87 (ZR [Zi 2 7] .ret) .skip))))) (ZR [Zi 2 0] .ret))))))⟩
theorem YAO:Yf YGY Tryz.f107=some v107:=by kernel_rfl
structure Tm where
 nm:ByteArray
 syn:Bool
 wolf:Int
 p:Nat->Int×Int
def encP(p:Nat->Int×Int):List SV:=[.int .i64 (p 0).1,.int .i64 (p 0).2,.int .i64 (p 1).1,.int .i64 (p 1).2,.int .i64 (p 2).1,.int .i64 (p 2).2,.int .i64 (p 3).1,.int .i64 (p 3).2,.int .i64 (p 4).1,.int .i64 (p 4).2,.int .i64 (p 5).1,.int .i64 (p 5).2,.int .i64 (p 6).1,.int .i64 (p 6).2,.int .i64 (p 7).1,.int .i64 (p 7).2,.int .i64 (p 8).1,.int .i64 (p 8).2,.int .i64 (p 9).1,.int .i64 (p 9).2,.int .i64 (p 10).1,.int .i64 (p 10).2,.int .i64 (p 11).1,.int .i64 (p 11).2]
def encT(T:Tm):List SV:= .val (.string T.nm):: .bool T.syn:: .int .i64 T.wolf::encP T.p
theorem Yh9{i:Nat}(h:i<12):i=0\/i=1\/i=2\/i=3\/i=4\/i=5\/i=6\/i=7\/i=8\/i=9\/i=10\/i=11:=by omega
theorem Yj1(p:Nat->Int×Int){i:Nat}(h:i<12):YC 2 (Yu (i*2) (encP p))=[.int .i64 (p i).1,.int .i64 (p i).2]:=by
 rcases Yh9 h with rfl|rfl|rfl|rfl|rfl|rfl|rfl|rfl|rfl|rfl|rfl|rfl <;> rfl
theorem Yve(T:Tm){i:Nat}(h:i<12):YC 1 (Yu (3+idxN (i:Int) 2) (encT T))=[.int .i64 (T.p i).1]:=by
 rcases Yh9 h with rfl|rfl|rfl|rfl|rfl|rfl|rfl|rfl|rfl|rfl|rfl|rfl <;> rfl
theorem Yvf(T:Tm){i:Nat}(h:i<12):1<=lenL (Yu (3+idxN (i:Int) 2) (encT T)):=by
 rcases Yh9 h with rfl|rfl|rfl|rfl|rfl|rfl|rfl|rfl|rfl|rfl|rfl|rfl <;> exact YHJ rfl
theorem Ydb(T:Tm)(m:Nat):bndL m (encT T):=by simp [encT,encP,bndL,bnd]
def badT(x:Int×Int):Bool:=decide (x.2<1) || decide (24<x.2) || decide (x.1< -2*x.2) || decide (2*x.2<x.1)
def gcdT(x:Int×Int):Nat:=YH6 x.1.natAbs x.2.toNat
def lowT(T:Tm)(i:Nat):Bool:=(List.range i).all fun j=>decide (gcdT (T.p j)=1)
def allT(T:Tm):Nat->Nat
 |0=>1
 |i+1=>if allT T i<=120 then allT T i/YH6 (allT T i) (T.p i).2.toNat*(T.p i).2.toNat else allT T i
def badA(T:Tm):Bool:=(List.range 12).any fun i=>badT (T.p i)
def Yat(T:Tm):Int:=
 if T.wolf<0\/11<T.wolf then 2 else if badA T=true then 2
 else if Ykp T.nm=false\/lowT T 12=false\/(T.p T.wolf.toNat).1≠0 then 6 else if 120<allT T 12 then 7 else 0
theorem YnX{x:Int×Int}(h:badT x=false):(1<=x.2/\x.2<=24)/\ -2*x.2<=x.1/\x.1<=2*x.2:=by
 simp only[badT,YHq,decide_eq_false_iff_not]at h;omega
theorem YgK{T:Tm}:∀{i:Nat},(∀j,j<i->badT (T.p j)=false)->1<=allT T i/\allT T i<=2880
 |0,_=>⟨YG8 _,by simp [allT]⟩
 |i+1,h=>by
   have ih:=YgK (i:=i) fun j hj=>h j (by omega)
   have hb:=YnX (h i (by omega))
   rw[allT]
   split
   . rename_i hle
     have hg:1<=YH6 (allT T i) (T.p i).2.toNat:=Nat.gcd_pos_of_pos_left _ (by omega)
     have h1:allT T i/YH6 (allT T i) (T.p i).2.toNat<=120:=YHc (Nat.div_le_self _ _) hle
     have h2:1<=allT T i/YH6 (allT T i) (T.p i).2.toNat:=Nat.div_pos (Nat.gcd_le_left _ (by omega)) hg
     have h3:(T.p i).2.toNat<=24:=by omega
     have h4:1<=(T.p i).2.toNat:=by omega
     have:=YHi h1 h3
     have:=YHi h2 h4
     omega
   . exact ih
theorem YCV(x:Int×Int):(decide (x.2<1) || decide (24<x.2) || decide (x.1<IntKind.i64.wrap (-2*x.2)) || decide (IntKind.i64.wrap (2*x.2)<x.1))=badT x:=by
 unfold badT
 by_cases h1:x.2<1
 . rw[decide_eq_true h1];simp
 . by_cases h2:24<x.2
   . rw[decide_eq_true h2];simp
   . rw[YGZ (-2*x.2) (by omega),YGZ (2*x.2) (by omega)]
theorem YsI(T:Tm)(i:Nat):lowT T (i+1)=(lowT T i&&decide (gcdT (T.p i)=1)):=by
 unfold lowT;rw[List.range_succ,List.all_append];simp
theorem Yq8{T:Tm}{i:Nat}(hi:i<12)(h:badT (T.p i)=true):badA T=true:=List.any_eq_true.2 ⟨i,List.mem_range.2 hi,h⟩
theorem YCU{T:Tm}(h:∀i,i<12->badT (T.p i)=false):badA T=false:=List.any_eq_false.2 fun i hi=>by rw[h i (List.mem_range.1 hi)];decide
def tgcdC:Ctr:={ alias:=false,of:=fun l=>match l with
 | [.int .i64 a,.int .i64 b]=> .ex Nat fun x=> .ex Nat fun y=> .pre (a=x/\b=y/\x<=9223372036854775807/\y<=9223372036854775807) (.fin (.int .i64 (YH6 x y)) [])
 |_=>noC}
def TG0:Env:={ ct:=fun _=>none,fn:=fun _=>none,meth:=fun _ _=>none}
theorem YCh:Yl YGY TG0:=by
 refine⟨fun f c h=>?_,fun f vf h=>?_,(fun _ _ _ h=>by cases h),by kernel_rfl,(fun _ h=>by cases h)⟩
 . cases h
 . cases h
theorem YFF:tgcdC.ok YGY 124:=by
 refine Yb Tryz.func124 YA5 YCh 100 tgcdC fun args k h=>?_
 simp only[tgcdC]at h
 split at h
 . rename_i a b
   obtain⟨x,y,⟨rfl,rfl,hx,hy⟩,h⟩:=h
   refine⟨[.int .i64 x,.int .i64 y],by simp [leL,le],?_⟩
   dsimp only[v124,go_sem,reduceIte,YGU]
   simp only[Yc,YGU,YGW,reduceCtorEq,YGV]
   refine Loop.keep [4] (Nat×Nat) (fun s=>[(0,.int .i64 s.1),(1,.int .i64 s.2)]) (fun _=>[]) [] (fun s=>YH6 s.1 s.2=YH6 x y/\s.1<=9223372036854775807/\s.2<=9223372036854775807) (fun s=>s.2) ?_ ?_
   . refine⟨(x,y),⟨rfl,hx,hy⟩,?_⟩
     dsimp only[go_sem,reduceIte,YGU]
     simp only[Ya]
   . rintro⟨p,q⟩ ⟨he,hp,hq⟩
     dsimp only at he hp hq
     dsimp only[go_sem,reduceIte,YGU]
     simp only[Yc,YGU,YGW,reduceCtorEq,YGV]
     refine⟨fun hc=>⟨hc,(q,p%q),⟨?_,by simp only;omega,?_⟩,?_,?_⟩,fun hc=>Yi ?_⟩
     . rw[<-he,Nat.gcd_comm p q]
       show YH6 q (p%q)=YH6 q p
       rw[Nat.gcd_comm q (p%q),<-Nat.gcd_rec]
     . have:=YHT p (by omega:0<q)
       simp only;omega
     . exact YHT p (by omega:0<q)
     . have e:(p:Int).tmod q=((p%q:Nat):Int):=IntWalk.up_tmod rfl rfl
       rw[e]
       simp only[Ya]
     . obtain rfl:q=0:=by omega
       rw[Nat.gcd_zero_right]at he
       rw[he];exact h
 . exact h.1.elim
def chkTmC:Ctr:={ alias:=false,of:=fun l=>match l with
 | [.agg cs]=> .ex Tm fun T=> .pre (cs=encT T/\T.nm.size<=9223372036854775807) (.fin (.int .i64 (Yat T)) [])
 |_=>noC}
def TG1:Env:={ ct:=fun n=>match n with|124=>some tgcdC|125=>some nameC|_=>none,fn:=fun _=>none,meth:=fun _ _=>none}
theorem Yfg:TG1.ct 124=some tgcdC:=rfl
theorem Yfh:TG1.ct 125=some nameC:=rfl
theorem YCi:Yl YGY TG1:=by
 refine⟨fun f c h=>?_,fun f vf h=>?_,(fun _ _ _ h=>by cases h),by kernel_rfl,(fun _ h=>by cases h)⟩
 . simp only[TG1]at h
   split at h
   . cases h;exact⟨YFF,Tryz.f124,Tryz.func124,by kernel_rfl,by kernel_rfl⟩
   . cases h;exact⟨YzE,Tryz.f125,Tryz.func125,by kernel_rfl,by kernel_rfl⟩
   . cases h
 . cases h
theorem YyB:chkTmC.ok YGY 107:=by
 refine Yb Tryz.func107 YAO YCi 300 chkTmC fun args k h=>?_
 simp only[chkTmC]at h
 split at h
 . rename_i cs
   obtain⟨T,⟨rfl,hnm⟩,h⟩:=h
   refine⟨[.agg (encT T)],⟨Yp _ (Ydb T _),trivial⟩,?_⟩
   have h:k (.int .i64 (Yat T)) []:=h
   dsimp only[v107,encT,encP,Yfg,Yfh,tgcdC,nameC,go_sem,reduceIte,YGU]
   simp only[Yc,YGU,YGW,reduceCtorEq,YGV]
   refine⟨rfl,fun hb=>?_,fun hb=>?_⟩
   . rw[Yat,if_pos (by simpa using hb)]at h;exact Yi h
   have hw:0<=T.wolf/\T.wolf<=11:=by simp only[YHq,decide_eq_false_iff_not]at hb;omega
   rw[Yat,if_neg (by omega)]at h
   refine Loop.keep [1,0,13] Nat (fun i=>[(3,.bool (lowT T i)),(4,.int .i64 (allT T i:Nat)),(17,.int .i64 i)]) (fun _=>[]) [] (fun i=>i<=12/\∀j,j<i->badT (T.p j)=false) (fun i=>12-i) ?_ ?_
   . refine⟨0,⟨by omega,fun j hj=>by omega⟩,?_⟩
     dsimp only[go_sem,reduceIte,YGU]
     simp only[Ya]
     exact⟨by decide,rfl,rfl,rfl⟩
   . rintro i ⟨hi,hall⟩
     obtain⟨r1,r2⟩:=YgK hall
     dsimp only[Yfg,Yfh,tgcdC,nameC,YG0,go_sem,reduceIte,YGU]
     simp only[Yc,YGU,YGW,reduceCtorEq,YGV]
     refine⟨fun hlt=>?_,fun hge=>?_⟩
     . have hi12:i<12:=by omega
       have e:=Yj1 T.p hi12
       simp only[encP]at e
       rw[e]
       dsimp only[Yfg,Yfh,tgcdC,nameC,YG0,go_sem,reduceIte,YGU]
       simp only[Yc,YGU,YGW,reduceCtorEq,YGV]
       simp only[YCV (T.p i)]
       refine⟨⟨by omega,by omega⟩,fun hb=>?_,fun hb=>?_⟩
       . rw[if_pos (Yq8 hi12 hb)]at h;exact Yi h
       . obtain⟨⟨x1,x2⟩,x3,x4⟩:=YnX hb
         have hsn:(T.p i).2=((T.p i).2.toNat:Int):=by omega
         have hall':∀j,j<i+1->badT (T.p j)=false:=fun j hj=>by
           rcases YHE j i with h1|h1
           . exact hall j h1
           . obtain rfl:j=i:=by omega
             exact hb
         have hlow:(lowT T i&&decide ((((T.p i).1.natAbs).gcd (T.p i).2.toNat:Int)=1))=lowT T (i+1):=by
           rw[YsI];congr 1
           exact decide_eq_decide.2 (by unfold gcdT;omega)
         refine⟨(T.p i).1.natAbs,(T.p i).2.toNat,fun _=>⟨YiY _ (by omega),hsn,by omega,by omega⟩,fun hle=>⟨allT T i,(T.p i).2.toNat,⟨rfl,hsn,by omega,by omega⟩,?_,i+1,⟨by omega,hall'⟩,by omega,?_⟩,fun hgt=>⟨i+1,⟨by omega,hall'⟩,by omega,?_⟩⟩
         . have:=Nat.gcd_pos_of_pos_left (T.p i).2.toNat (by omega:0<allT T i)
           omega
         . have r3:=YgK hall'
           have ha:allT T (i+1)=allT T i/YH6 (allT T i) (T.p i).2.toNat*(T.p i).2.toNat:=by rw[allT,if_pos (by omega)]
           have e1:((allT T i:Nat):Int).tdiv ((YH6 (allT T i) (T.p i).2.toNat:Nat):Int)=((allT T i/YH6 (allT T i) (T.p i).2.toNat:Nat):Int):=IntWalk.up_tdiv rfl rfl
           have hd:=Nat.div_le_self (allT T i) (YH6 (allT T i) (T.p i).2.toNat)
           have e2:IntKind.i64.wrap ((allT T i/YH6 (allT T i) (T.p i).2.toNat:Nat):Int)=((allT T i/YH6 (allT T i) (T.p i).2.toNat:Nat):Int):=by
             generalize allT T i/YH6 (allT T i) (T.p i).2.toNat=q at hd
             exact YGZ _ (by omega)
           have e3:((allT T i/YH6 (allT T i) (T.p i).2.toNat:Nat):Int)*(T.p i).2=(allT T (i+1):Nat):=by rw[ha,YHZ,<-hsn]
           rw[e1,e2,e3,YGZ (allT T (i+1):Int) (by omega),YGZ ((i:Int)+1) (by omega)]
           simp only[Ya]
           exact⟨by decide,hlow,by simp⟩
         . have ha:allT T (i+1)=allT T i:=by rw[allT,if_neg (by omega)]
           rw[ha,YGZ ((i:Int)+1) (by omega)]
           simp only[Ya]
           exact⟨by decide,hlow,by simp⟩
     . obtain rfl:i=12:=by omega
       rw[if_neg (by rw[YCU hall];decide)]at h
       obtain⟨w,hwe⟩:∃w:Nat,T.wolf=(w:Int):=⟨T.wolf.toNat,by omega⟩
       have hw12:w<12:=by omega
       have e:=Yve T hw12
       have el:=Yvf T hw12
       simp only[encT,encP,hwe]at e el
       rw[hwe,YG0]at h
       simp only[Nat.add_zero,hwe]
       rw[e]
       dsimp only[Yfg,Yfh,tgcdC,nameC,YG0,go_sem,reduceIte,YGU]
       simp only[Yc,YGU,YGW,reduceCtorEq,YGV]
       refine⟨hnm,fun _=>⟨by omega,by omega⟩,fun _=>el,fun hc=>?_,fun hc=>?_⟩
       . rw[if_pos (by simpa [or_assoc]using hc)]at h;exact Yi h
       . rw[if_neg (by simpa [or_assoc,and_assoc]using hc)]at h
         refine⟨fun ha=>?_,fun ha=>?_⟩
         . rw[if_pos (by omega)]at h;exact Yi h
         . rw[if_neg (by omega)]at h;exact Yi h
 . exact h.1.elim
def v127:VF:=⟨58,[.cell 2 true 84],(ZR [u1 2 (.allocArr 12 7 [(.int .i64 0),(.int .i64 0),(.int .i64 0),(.int .i64 0),(.int .i64 0),(.int .i64 0),(.int .i64 0),(.int .i64 0),(.int .i64 0),(.int .i64 0),(.int .i64 0),(.int .i64 0),(.int .i64 0),(.int .i64 0),(.int .i64 0),(.int .i64 0),(.int .i64 0),(.int .i64 0),(.int .i64 0),(.int .i64 0),(.int .i64 0),(.int .i64 0),(.int .i64 0),(.int .i64 0),(.int .i64 0),(.int .i64 0),(.int .i64 0),(.int .i64 0),(.int .i64 0),(.int .i64 0),(.int .i64 0),(.int .i64 0),(.int .i64 0),(.int .i64 0),(.int .i64 0),(.int .i64 0),(.int .i64 0),(.int .i64 0),(.int .i64 0),(.int .i64 0),(.int .i64 0),(.int .i64 0),(.int .i64 0),(.int .i64 0),(.int .i64 0),(.int .i64 0),(.int .i64 0),(.int .i64 0),(.int .i64 0),(.int .i64 0),(.int .i64 0),(.int .i64 0),(.int .i64 0),(.int .i64 0),(.int .i64 0),(.int .i64 0),(.int .i64 0),(.int .i64 0),(.int .i64 0),(.int .i64 0),(.int .i64 0),(.int .i64 0),(.int .i64 0),(.int .i64 0),(.int .i64 0),(.int .i64 0),(.int .i64 0),(.int .i64 0),(.int .i64 0),(.int .i64 0),(.int .i64 0),(.int .i64 0),(.int .i64 0),(.int .i64 0),(.int .i64 0),(.int .i64 0),(.int .i64 0),(.int .i64 0),(.int .i64 0),(.int .i64 0),(.int .i64 0),(.int .i64 0),(.int .i64 0),(.int .i64 0)]) []] (ZR [u1 10 (.call 126) [.cn (.int .i64 531441),.cn (.int .i64 524288)],u1 3 (.alloc [(.int .i64 0),(.int .i64 0),(.int .i64 0),(.int .i64 0),(.int .i64 0),(.int .i64 0),(.int .i64 0)]) [],Zs 7 3 10] (.seq (ZR [Zm 11 0,u1 12 .nilCheck [.tm 11],Za 13 1 12,Zf 14 1 13] (ZC 14 (.region [u1 15 (.call 126) [.cn (.int .i64 81),.cn (.int .i64 80)],Zs 7 3 15]) .skip)) (ZR [u1 4 (.allocArr 12 7 [(.int .i64 0),(.int .i64 0),(.int .i64 0),(.int .i64 0),(.int .i64 0),(.int .i64 0),(.int .i64 0),(.int .i64 0),(.int .i64 0),(.int .i64 0),(.int .i64 0),(.int .i64 0),(.int .i64 0),(.int .i64 0),(.int .i64 0),(.int .i64 0),(.int .i64 0),(.int .i64 0),(.int .i64 0),(.int .i64 0),(.int .i64 0),(.int .i64 0),(.int .i64 0),(.int .i64 0),(.int .i64 0),(.int .i64 0),(.int .i64 0),(.int .i64 0),(.int .i64 0),(.int .i64 0),(.int .i64 0),(.int .i64 0),(.int .i64 0),(.int .i64 0),(.int .i64 0),(.int .i64 0),(.int .i64 0),(.int .i64 0),(.int .i64 0),(.int .i64 0),(.int .i64 0),(.int .i64 0),(.int .i64 0),(.int .i64 0),(.int .i64 0),(.int .i64 0),(.int .i64 0),(.int .i64 0),(.int .i64 0),(.int .i64 0),(.int .i64 0),(.int .i64 0),(.int .i64 0),(.int .i64 0),(.int .i64 0),(.int .i64 0),(.int .i64 0),(.int .i64 0),(.int .i64 0),(.int .i64 0),(.int .i64 0),(.int .i64 0),(.int .i64 0),(.int .i64 0),(.int .i64 0),(.int .i64 0),(.int .i64 0),(.int .i64 0),(.int .i64 0),(.int .i64 0),(.int .i64 0),(.int .i64 0),(.int .i64 0),(.int .i64 0),(.int .i64 0),(.int .i64 0),(.int .i64 0),(.int .i64 0),(.int .i64 0),(.int .i64 0),(.int .i64 0),(.int .i64 0),(.int .i64 0),(.int .i64 0)]) []] (ZR [u1 16 (.call 126) [.cn (.int .i64 128),.cn (.int .i64 1)],u1 5 (.alloc [(.int .i64 0),(.int .i64 0),(.int .i64 0),(.int .i64 0),(.int .i64 0),(.int .i64 0),(.int .i64 0)]) [],Zs 7 5 16] (.seq (ZR [Zm 17 0,u1 18 .nilCheck [.tm 17],Za 19 3 18,Zt 20 24 19,Zi 21 0] (.block 0 (.loop (ZR [Zq 22 .lss 21 12] (.seq (ZC 22 .skip (.exit 0)) (.seq (.block 1 (ZR [Zm 23 21,u1 24 (.index true 12 2) [.tm 20,.tm 21],Zn 7,Zm 6 23,Zs 2 7 24] (ZR [Zm 25 6,Zm 26 0,u1 27 .nilCheck [.tm 26],Za 28 2 27,Zf 29 1 28,Zr 30 .neq 25 29] (ZC 30 (ZR [Zt 32 7 3,Za 33 0 7,Zf 34 1 33,Za 35 1 7,Zf 36 1 35,u1 37 (.call 144) [.tm 32,.tm 34,.tm 36],Zm 31 37,Ze 38 0 31,Ze 39 1 31,u1 8 (.alloc [(.int .i64 0),(.int .i64 0),(.int .i64 0),(.int .i64 0),(.int .i64 0),(.int .i64 0),(.int .i64 0)]) [],Zs 7 8 38,Zm 9 39] (.seq (.draw [] [Zu 40 6,Zw 42 7 8,w1 41 (.call 126) [.cn (.int .i64 3),.cn (.int .i64 2)],Zz 43 145 41 42,w1 44 (.idxArr 12 7) [.tm 4,.tm 40],ZS 7 44 43]) (.draw [] [Zw 45 7 5,Zu 46 6,w1 47 (.idxArr 12 7) [.tm 4,.tm 46],Zw 48 7 47,Zz 49 145 45 48,ZS 7 5 49]))) .skip)))) (.region [Zp 50 21 1,Zm 21 50]))))))) (.seq (.draw [] [Zu 51 0,w1 52 .nilCheck [.tm 51],Zy 53 2 52,Zv 54 1 53,Zw 55 7 5,w1 56 (.idxArr 12 7) [.tm 4,.tm 54],ZS 7 56 55]) (ZR [Zt 57 84 4,Zs 84 2 57] .ret))))))))⟩
theorem YA8:Yf YGY Tryz.f127=some v127:=by kernel_rfl
def v108:VF:=⟨25,[.cell 2 true 84],(ZR [u1 2 (.allocArr 12 7 [(.int .i64 0),(.int .i64 0),(.int .i64 0),(.int .i64 0),(.int .i64 0),(.int .i64 0),(.int .i64 0),(.int .i64 0),(.int .i64 0),(.int .i64 0),(.int .i64 0),(.int .i64 0),(.int .i64 0),(.int .i64 0),(.int .i64 0),(.int .i64 0),(.int .i64 0),(.int .i64 0),(.int .i64 0),(.int .i64 0),(.int .i64 0),(.int .i64 0),(.int .i64 0),(.int .i64 0),(.int .i64 0),(.int .i64 0),(.int .i64 0),(.int .i64 0),(.int .i64 0),(.int .i64 0),(.int .i64 0),(.int .i64 0),(.int .i64 0),(.int .i64 0),(.int .i64 0),(.int .i64 0),(.int .i64 0),(.int .i64 0),(.int .i64 0),(.int .i64 0),(.int .i64 0),(.int .i64 0),(.int .i64 0),(.int .i64 0),(.int .i64 0),(.int .i64 0),(.int .i64 0),(.int .i64 0),(.int .i64 0),(.int .i64 0),(.int .i64 0),(.int .i64 0),(.int .i64 0),(.int .i64 0),(.int .i64 0),(.int .i64 0),(.int .i64 0),(.int .i64 0),(.int .i64 0),(.int .i64 0),(.int .i64 0),(.int .i64 0),(.int .i64 0),(.int .i64 0),(.int .i64 0),(.int .i64 0),(.int .i64 0),(.int .i64 0),(.int .i64 0),(.int .i64 0),(.int .i64 0),(.int .i64 0),(.int .i64 0),(.int .i64 0),(.int .i64 0),(.int .i64 0),(.int .i64 0),(.int .i64 0),(.int .i64 0),(.int .i64 0),(.int .i64 0),(.int .i64 0),(.int .i64 0),(.int .i64 0)]) []] (ZR [u1 3 (.allocArr 12 7 [(.int .i64 0),(.int .i64 0),(.int .i64 0),(.int .i64 0),(.int .i64 0),(.int .i64 0),(.int .i64 0),(.int .i64 0),(.int .i64 0),(.int .i64 0),(.int .i64 0),(.int .i64 0),(.int .i64 0),(.int .i64 0),(.int .i64 0),(.int .i64 0),(.int .i64 0),(.int .i64 0),(.int .i64 0),(.int .i64 0),(.int .i64 0),(.int .i64 0),(.int .i64 0),(.int .i64 0),(.int .i64 0),(.int .i64 0),(.int .i64 0),(.int .i64 0),(.int .i64 0),(.int .i64 0),(.int .i64 0),(.int .i64 0),(.int .i64 0),(.int .i64 0),(.int .i64 0),(.int .i64 0),(.int .i64 0),(.int .i64 0),(.int .i64 0),(.int .i64 0),(.int .i64 0),(.int .i64 0),(.int .i64 0),(.int .i64 0),(.int .i64 0),(.int .i64 0),(.int .i64 0),(.int .i64 0),(.int .i64 0),(.int .i64 0),(.int .i64 0),(.int .i64 0),(.int .i64 0),(.int .i64 0),(.int .i64 0),(.int .i64 0),(.int .i64 0),(.int .i64 0),(.int .i64 0),(.int .i64 0),(.int .i64 0),(.int .i64 0),(.int .i64 0),(.int .i64 0),(.int .i64 0),(.int .i64 0),(.int .i64 0),(.int .i64 0),(.int .i64 0),(.int .i64 0),(.int .i64 0),(.int .i64 0),(.int .i64 0),(.int .i64 0),(.int .i64 0),(.int .i64 0),(.int .i64 0),(.int .i64 0),(.int .i64 0),(.int .i64 0),(.int .i64 0),(.int .i64 0),(.int .i64 0),(.int .i64 0)]) []] (ZR [u1 7 (.call 126) [.cn (.int .i64 1),.cn (.int .i64 1)],u1 4 (.alloc [(.int .i64 0),(.int .i64 0),(.int .i64 0),(.int .i64 0),(.int .i64 0),(.int .i64 0),(.int .i64 0)]) [],Zs 7 4 7] (.seq (ZR [Zm 8 0,Zc 9 127 8,Zi 10 0] (.block 0 (.loop (ZR [Zq 11 .lss 10 12] (.seq (ZC 11 .skip (.exit 0)) (.seq (.block 1 (ZR [Zm 12 10,u1 13 (.index true 12 7) [.tm 9,.tm 10],u1 6 (.alloc [(.int .i64 0),(.int .i64 0),(.int .i64 0),(.int .i64 0),(.int .i64 0),(.int .i64 0),(.int .i64 0)]) [],Zm 5 12,Zs 7 6 13] (ZR [Zm 14 5,u1 15 (.ari .mul) [.cn (.int .i64 7),.tm 14],u1 16 .rem [.tm 15,.cn (.int .i64 12)],Zt 17 7 4,Zc 18 128 17,u1 19 (.idxArr 12 7) [.tm 3,.tm 16],Zs 7 19 18] (.region [Zt 20 7 4,Zt 21 7 6,Zd 22 129 20 21,Zs 7 4 22])))) (.region [Zp 23 10 1,Zm 10 23]))))))) (ZR [Zt 24 84 3,Zs 84 2 24] .ret)))))⟩
theorem YAP:Yf YGY Tryz.f108=some v108:=by kernel_rfl
def v87:VF:=⟨13,[.tmp 2,.tmp 3],(ZR [u1 1 .box [.tm 0],u1 2 .mov [.cn .nil],Zi 3 0] (.seq (ZR [Zt 6 27 1,Zc 7 107 6,Zm 4 7] (ZR [Zm 8 4,Zq 9 .neq 8 0] (ZC 9 (ZR [Zm 10 4,u1 2 .mov [.cn .nil],Zm 3 10] .ret) .skip))) (ZR [Zc 11 108 1,u1 5 (.allocArr 12 7 [(.int .i64 0),(.int .i64 0),(.int .i64 0),(.int .i64 0),(.int .i64 0),(.int .i64 0),(.int .i64 0),(.int .i64 0),(.int .i64 0),(.int .i64 0),(.int .i64 0),(.int .i64 0),(.int .i64 0),(.int .i64 0),(.int .i64 0),(.int .i64 0),(.int .i64 0),(.int .i64 0),(.int .i64 0),(.int .i64 0),(.int .i64 0),(.int .i64 0),(.int .i64 0),(.int .i64 0),(.int .i64 0),(.int .i64 0),(.int .i64 0),(.int .i64 0),(.int .i64 0),(.int .i64 0),(.int .i64 0),(.int .i64 0),(.int .i64 0),(.int .i64 0),(.int .i64 0),(.int .i64 0),(.int .i64 0),(.int .i64 0),(.int .i64 0),(.int .i64 0),(.int .i64 0),(.int .i64 0),(.int .i64 0),(.int .i64 0),(.int .i64 0),(.int .i64 0),(.int .i64 0),(.int .i64 0),(.int .i64 0),(.int .i64 0),(.int .i64 0),(.int .i64 0),(.int .i64 0),(.int .i64 0),(.int .i64 0),(.int .i64 0),(.int .i64 0),(.int .i64 0),(.int .i64 0),(.int .i64 0),(.int .i64 0),(.int .i64 0),(.int .i64 0),(.int .i64 0),(.int .i64 0),(.int .i64 0),(.int .i64 0),(.int .i64 0),(.int .i64 0),(.int .i64 0),(.int .i64 0),(.int .i64 0),(.int .i64 0),(.int .i64 0),(.int .i64 0),(.int .i64 0),(.int .i64 0),(.int .i64 0),(.int .i64 0),(.int .i64 0),(.int .i64 0),(.int .i64 0),(.int .i64 0),(.int .i64 0)]) [],Zs 84 5 11] (ZR [u1 12 (.sliceArr 12 7 false false) [.tm 5],Zm 2 12,Zi 3 0] .ret))))⟩
theorem YGB:Yf YGY Tryz.f87=some v87:=by kernel_rfl
def YdM(L:Nat->Rt):List SV:=encR (L 0)++(encR (L 1)++(encR (L 2)++(encR (L 3)++(encR (L 4)++(encR (L 5)++(encR (L 6)++(encR (L 7)++(encR (L 8)++(encR (L 9)++(encR (L 10)++(encR (L 11)++[])))))))))))
theorem YEH{get:Nat->List SV}:Yf0 12 0 get=get 0++(get 1++(get 2++(get 3++(get 4++(get 5++(get 6++(get 7++(get 8++(get 9++(get 10++(get 11++[]))))))))))):=rfl
attribute [go_sem] YEH
theorem YlD(L:Nat->Rt){i:Nat}(h:i<12):YC 7 (Yu (i*7) (YdM L))=encR (L i):=by
 rcases Yh9 h with rfl|rfl|rfl|rfl|rfl|rfl|rfl|rfl|rfl|rfl|rfl|rfl <;> rfl
theorem Yt8{k:Nat}(h:k<12):YaW 7 [SV.int .i64 0,SV.int .i64 0,SV.int .i64 0,SV.int .i64 0,SV.int .i64 0,SV.int .i64 0,SV.int .i64 0,SV.int .i64 0,SV.int .i64 0,SV.int .i64 0,SV.int .i64 0,SV.int .i64 0,SV.int .i64 0,SV.int .i64 0,SV.int .i64 0,SV.int .i64 0,SV.int .i64 0,SV.int .i64 0,SV.int .i64 0,SV.int .i64 0,SV.int .i64 0,SV.int .i64 0,SV.int .i64 0,SV.int .i64 0,SV.int .i64 0,SV.int .i64 0,SV.int .i64 0,SV.int .i64 0,SV.int .i64 0,SV.int .i64 0,SV.int .i64 0,SV.int .i64 0,SV.int .i64 0,SV.int .i64 0,SV.int .i64 0,SV.int .i64 0,SV.int .i64 0,SV.int .i64 0,SV.int .i64 0,SV.int .i64 0,SV.int .i64 0,SV.int .i64 0,SV.int .i64 0,SV.int .i64 0,SV.int .i64 0,SV.int .i64 0,SV.int .i64 0,SV.int .i64 0,SV.int .i64 0,SV.int .i64 0,SV.int .i64 0,SV.int .i64 0,SV.int .i64 0,SV.int .i64 0,SV.int .i64 0,SV.int .i64 0,SV.int .i64 0,SV.int .i64 0,SV.int .i64 0,SV.int .i64 0,SV.int .i64 0,SV.int .i64 0,SV.int .i64 0,SV.int .i64 0,SV.int .i64 0,SV.int .i64 0,SV.int .i64 0,SV.int .i64 0,SV.int .i64 0,SV.int .i64 0,SV.int .i64 0,SV.int .i64 0,SV.int .i64 0,SV.int .i64 0,SV.int .i64 0,SV.int .i64 0,SV.int .i64 0,SV.int .i64 0,SV.int .i64 0,SV.int .i64 0,SV.int .i64 0,SV.int .i64 0,SV.int .i64 0,SV.int .i64 0] k=encR YaQ:=by
 rcases Yh9 h with rfl|rfl|rfl|rfl|rfl|rfl|rfl|rfl|rfl|rfl|rfl|rfl <;> rfl
theorem YbM{a b:Nat}(r:Rt):leL a b (encR r) (encR r):=Yp _ ⟨trivial,trivial,trivial,trivial,trivial,trivial,trivial,trivial⟩
theorem Ybw(x:Rt):Rt.mk x.a x.b x.c x.d x.e x.f x.n=x:=rfl
def Yfo(T:Tm):Rt:=if T.syn=true then(ofRF 81 80).1 else(ofRF 531441 524288).1
def fifR(T:Tm)(i:Nat):Rt:=(Ybq (ofRF 3 2).1 (pwrF (Yfo T) (T.p i).1 (T.p i).2).1 (-1)).1
def Ya3(T:Tm):Nat->Rt
 |0=>(ofRF 128 1).1
 |i+1=>if(i:Int)=T.wolf then Ya3 T i else(Ybq (Ya3 T i) (fifR T i) (-1)).1
def fifL(T:Tm)(i k:Nat):Rt:=if k<i then(if(k:Int)=T.wolf then YaQ else fifR T k)else YaQ
def Yb6(T:Tm)(k:Nat):Rt:=if k=T.wolf.toNat then Ya3 T 12 else fifL T 12 k
theorem YrS(T:Tm)(j:Nat):(if j=T.wolf.toNat then [SV.int .i64 (Ya3 T 12).a,SV.int .i64 (Ya3 T 12).b,SV.int .i64 (Ya3 T 12).c,SV.int .i64 (Ya3 T 12).d,SV.int .i64 (Ya3 T 12).e,SV.int .i64 (Ya3 T 12).f,SV.int .i64 (Ya3 T 12).n]else [SV.int .i64 (fifL T 12 j).a,SV.int .i64 (fifL T 12 j).b,SV.int .i64 (fifL T 12 j).c,SV.int .i64 (fifL T 12 j).d,SV.int .i64 (fifL T 12 j).e,SV.int .i64 (fifL T 12 j).f,SV.int .i64 (fifL T 12 j).n])=encR (Yb6 T j):=by
 unfold Yb6;split <;> rfl
theorem YwR(T:Tm)(k:Nat):fifL T 0 k=YaQ:=if_neg (Nat.not_lt_zero _)
theorem YlC(L:Nat->Rt)(m:Nat):bndL m (YdM L):=by simp [YdM,encR,bndL,bnd]
theorem YqX{k:SV->List HO->Prop}{al:Bool}{hp:List HO}{L:Nat->Rt}(h:k (.agg (YdM L)) []):Yy al k (.agg (YdM L)) hp:=
 YD (show k _ []from h) (Yw (.agg (YdM L)) (YlC L _)) (fun _=>by simp [Yj,Yk,YdM,encR])
theorem YrR{T:Tm}{i:Nat}(h:¬(i:Int)=T.wolf):fifL T (i+1) i=fifR T i:=by
 unfold fifL;rw[if_pos (by omega),if_neg h]
theorem YmZ{T:Tm}{i k:Nat}(h:¬k=i):fifL T (i+1) k=fifL T i k:=by
 unfold fifL
 by_cases h1:k<i
 . rw[if_pos h1,if_pos (by omega)]
 . rw[if_neg h1,if_neg (by omega)]
theorem YwQ{T:Tm}{i k:Nat}(h:(i:Int)=T.wolf):fifL T (i+1) k=fifL T i k:=by
 by_cases hk:k=i
 . subst hk;unfold fifL;rw[if_pos (by omega),if_pos h,if_neg (by omega)]
 . exact YmZ hk
def fifC:Ctr:={ alias:=false,of:=fun l=>match l with
 | [.xp _ cs]=> .ex Tm fun T=> .pre (cs=encT T/\Yat T=0) (.fin (.agg (YdM (Yb6 T))) [])
 |_=>noC}
theorem YyA{T:Tm}(h:Yat T=0):(0<=T.wolf/\T.wolf<=11)/\(∀i,i<12->badT (T.p i)=false):=by
 unfold Yat at h
 split at h
 . cases h
 . split at h
   . cases h
   . rename_i h1 h2
     refine⟨by omega,fun i hi=>?_⟩
     cases hb:badT (T.p i)with
     |false=>rfl
     |true=>exact absurd (Yq8 hi hb) h2
def mc1:Ctr:=m2C 1
def mcm:Ctr:=m2C (-1)
def TH0:Env:={ ct:=fun n=>match n with|126=>some wholeC|145=>some mcm|129=>some mc1|144=>some powRC|128=>some folC|_=>none,fn:=fun _=>none,meth:=fun _ _=>none}
theorem YbW:TH0.ct 126=some wholeC:=rfl
theorem Yb0:TH0.ct 145=some mcm:=rfl
theorem YbY:TH0.ct 129=some mc1:=rfl
theorem YbZ:TH0.ct 144=some powRC:=rfl
theorem YbX:TH0.ct 128=some folC:=rfl
theorem YCj:Yl YGY TH0:=by
 refine⟨fun f c h=>?_,fun f vf h=>?_,(fun _ _ _ h=>by cases h),by kernel_rfl,(fun _ h=>by cases h)⟩
 . simp only[TH0]at h
   split at h
   . cases h;exact⟨Yt3,Tryz.f126,Tryz.func126,by kernel_rfl,by kernel_rfl⟩
   . cases h;exact⟨ovr_c,Tryz.f145,Tryz.func145,by kernel_rfl,by kernel_rfl⟩
   . cases h;exact⟨YFH,Tryz.f129,Tryz.func129,by kernel_rfl,by kernel_rfl⟩
   . cases h;exact⟨pow_c,Tryz.f144,Tryz.func144,by kernel_rfl,by kernel_rfl⟩
   . cases h;exact⟨YDt,Tryz.f128,Tryz.func128,by kernel_rfl,by kernel_rfl⟩
   . cases h
 . cases h
theorem fif_c:fifC.ok YGY 127:=by
 refine Yb Tryz.func127 YA8 YCj 300 fifC fun args k h=>?_
 simp only[fifC]at h
 split at h
 . rename_i tt cs
   obtain⟨T,⟨rfl,hT⟩,h⟩:=h
   refine⟨[.xp tt (encT T)],by simp only[Ya],?_⟩
   obtain⟨hw,hp⟩:=YyA hT
   dsimp only[v127,encT,encP,encR,Ybw,YbW,Yb0,YbY,YbZ,YbX,wholeC,mc1,mcm,m2C,powRC,folC,go_sem,reduceIte,YGU]
   simp only[Yc,YGU,YGW,reduceCtorEq,YGV]
   refine⟨fun hs=>?_,fun hs=>?_⟩
   . have hC:Yfo T=(ofRF 81 80).1:=if_pos hs
     obtain⟨C,hCe⟩:∃C,C=(ofRF 81 80).1:=⟨_,rfl⟩
     rw[<-hCe]at hC⊢
     clear hCe hs
     refine Loop.keep [0,1,0,0,0,14] Nat (fun i=>[(21,.int .i64 i)]) (fun i=>[(2,.own false 7 12 (fun k=>encR (fifL T i k))),(3,.box (encR (Ya3 T i)))]) [] (fun i=>i<=12) (fun i=>12-i) ?_ ?_
     . refine⟨0,by omega,?_⟩
       dsimp only[encR,go_sem,reduceIte,YGU]
       simp only[Ya]
       refine⟨⟨by decide,by decide,by decide,by decide,rfl⟩,fun k hk=>?_,rfl,rfl,rfl,rfl,rfl,rfl,rfl⟩
       rw[Yt8 hk,YwR]
       exact YbM YaQ
     . rintro i hi
       dsimp only[Ybw,YbW,Yb0,YbY,YbZ,YbX,wholeC,mc1,mcm,m2C,powRC,folC,encR,YG0,go_sem,reduceIte,YGU]
       simp only[Yc,YGU,YGW,reduceCtorEq,YGV]
       refine⟨fun hlt=>?_,fun hge=>?_⟩
       . have hi12:i<12:=by omega
         have e:=Yj1 T.p hi12
         simp only[encP]at e
         rw[e]
         dsimp only[Ybw,YbW,Yb0,YbY,YbZ,YbX,wholeC,mc1,mcm,m2C,powRC,folC,encR,YG0,go_sem,reduceIte,YGU]
         simp only[Yc,YGU,YGW,reduceCtorEq,YGV]
         have hF:(Ybq (ofRF 3 2).1 (pwrF C (T.p i).1 (T.p i).2).1 (-1)).1=fifR T i:=by rw[fifR,hC]
         simp only[if_true,Ybw,hF]
         dsimp only[Ybw,YbW,Yb0,YbY,YbZ,YbX,wholeC,mc1,mcm,m2C,powRC,folC,encR,YG0,go_sem,reduceIte,YGU]
         simp only[Yc,YGU,YGW,reduceCtorEq,YGV]
         refine⟨⟨by omega,by omega⟩,fun hne=>⟨by decide,by decide,⟨by omega,by omega⟩,hi12,⟨by omega,by omega⟩,hi12,i+1,by omega,by omega,?_⟩,fun heq=>⟨i+1,by omega,by omega,?_⟩⟩
         . have hR:Ya3 T (i+1)=(Ybq (Ya3 T i) (fifR T i) (-1)).1:=by rw[Ya3,if_neg hne]
           rw[hR,YGZ ((i:Int)+1) (by omega)]
           simp only[Ya]
           refine⟨⟨by decide,by decide,by decide,by decide,by simp⟩,fun k hk=>?_⟩
           split
           . rename_i hki
             subst hki
             rw[YrR hne]
             exact YbM _
           . rename_i hki
             rw[YmZ hki]
             exact YbM _
         . have hR:Ya3 T (i+1)=Ya3 T i:=by rw[Ya3,if_pos heq]
           rw[hR,YGZ ((i:Int)+1) (by omega)]
           simp only[Ya]
           refine⟨⟨by decide,by decide,by decide,by decide,by simp⟩,fun k hk=>?_⟩
           rw[YwQ heq]
           exact⟨rfl,rfl,rfl,rfl,rfl,rfl,rfl⟩
       . obtain rfl:i=12:=by omega
         simp only[YrS]
         dsimp only[encR,go_sem,reduceIte,YGU]
         simp only[Yc,YGU,YGW,reduceCtorEq,YGV]
         exact⟨⟨by omega,by omega⟩,by omega,by decide,YqX (L:=Yb6 T) h⟩
   . have hC:Yfo T=(ofRF 531441 524288).1:=if_neg (by rw[hs];decide)
     obtain⟨C,hCe⟩:∃C,C=(ofRF 531441 524288).1:=⟨_,rfl⟩
     rw[<-hCe]at hC⊢
     clear hCe hs
     refine Loop.keep [0,1,0,0,0,14] Nat (fun i=>[(21,.int .i64 i)]) (fun i=>[(2,.own false 7 12 (fun k=>encR (fifL T i k))),(3,.box (encR (Ya3 T i)))]) [] (fun i=>i<=12) (fun i=>12-i) ?_ ?_
     . refine⟨0,by omega,?_⟩
       dsimp only[encR,go_sem,reduceIte,YGU]
       simp only[Ya]
       refine⟨⟨by decide,by decide,by decide,by decide,rfl⟩,fun k hk=>?_,rfl,rfl,rfl,rfl,rfl,rfl,rfl⟩
       rw[Yt8 hk,YwR]
       exact YbM YaQ
     . rintro i hi
       dsimp only[Ybw,YbW,Yb0,YbY,YbZ,YbX,wholeC,mc1,mcm,m2C,powRC,folC,encR,YG0,go_sem,reduceIte,YGU]
       simp only[Yc,YGU,YGW,reduceCtorEq,YGV]
       refine⟨fun hlt=>?_,fun hge=>?_⟩
       . have hi12:i<12:=by omega
         have e:=Yj1 T.p hi12
         simp only[encP]at e
         rw[e]
         dsimp only[Ybw,YbW,Yb0,YbY,YbZ,YbX,wholeC,mc1,mcm,m2C,powRC,folC,encR,YG0,go_sem,reduceIte,YGU]
         simp only[Yc,YGU,YGW,reduceCtorEq,YGV]
         have hF:(Ybq (ofRF 3 2).1 (pwrF C (T.p i).1 (T.p i).2).1 (-1)).1=fifR T i:=by rw[fifR,hC]
         simp only[if_true,Ybw,hF]
         dsimp only[Ybw,YbW,Yb0,YbY,YbZ,YbX,wholeC,mc1,mcm,m2C,powRC,folC,encR,YG0,go_sem,reduceIte,YGU]
         simp only[Yc,YGU,YGW,reduceCtorEq,YGV]
         refine⟨⟨by omega,by omega⟩,fun hne=>⟨by decide,by decide,⟨by omega,by omega⟩,hi12,⟨by omega,by omega⟩,hi12,i+1,by omega,by omega,?_⟩,fun heq=>⟨i+1,by omega,by omega,?_⟩⟩
         . have hR:Ya3 T (i+1)=(Ybq (Ya3 T i) (fifR T i) (-1)).1:=by rw[Ya3,if_neg hne]
           rw[hR,YGZ ((i:Int)+1) (by omega)]
           simp only[Ya]
           refine⟨⟨by decide,by decide,by decide,by decide,by simp⟩,fun k hk=>?_⟩
           split
           . rename_i hki
             subst hki
             rw[YrR hne]
             exact YbM _
           . rename_i hki
             rw[YmZ hki]
             exact YbM _
         . have hR:Ya3 T (i+1)=Ya3 T i:=by rw[Ya3,if_pos heq]
           rw[hR,YGZ ((i:Int)+1) (by omega)]
           simp only[Ya]
           refine⟨⟨by decide,by decide,by decide,by decide,by simp⟩,fun k hk=>?_⟩
           rw[YwQ heq]
           exact⟨rfl,rfl,rfl,rfl,rfl,rfl,rfl⟩
       . obtain rfl:i=12:=by omega
         simp only[YrS]
         dsimp only[encR,go_sem,reduceIte,YGU]
         simp only[Yc,YGU,YGW,reduceCtorEq,YGV]
         exact⟨⟨by omega,by omega⟩,by omega,by decide,YqX (L:=Yb6 T) h⟩
 . exact h.1.elim
theorem Ytz(n:Nat)(L:Nat->Rt):Ycl n (YdM L)=YdM L:=rfl
theorem Ysm{a b:Nat}(L:Nat->Rt):leL a b (YdM L) (YdM L):=Yp _ (YlC L _)
def Yty(L:Nat->Rt)(i:Nat)(r:Rt):Nat->Rt:=fun k=>if k=i then r else L k
def notL(T:Tm):Nat->(Nat->Rt)×Rt
 |0=>(fun _=>YaQ,(ofRF 1 1).1)
 |i+1=>(Yty (notL T i).1 (7*i%12) (YdP (notL T i).2).1,(Ybq (notL T i).2 (Yb6 T i) 1).1)
def YaT(T:Tm):Nat->Rt:=(notL T 12).1
def notC:Ctr:={ alias:=false,of:=fun l=>match l with
 | [.xp _ cs]=> .ex Tm fun T=> .pre (cs=encT T/\Yat T=0) (.fin (.agg (YdM (YaT T))) [])
 |_=>noC}
def TH1:Env:={ ct:=fun n=>match n with|126=>some wholeC|129=>some mc1|128=>some folC|127=>some fifC|_=>none,fn:=fun _=>none,meth:=fun _ _=>none}
theorem Yha:TH1.ct 126=some wholeC:=rfl
theorem Yhd:TH1.ct 129=some mc1:=rfl
theorem Yhc:TH1.ct 128=some folC:=rfl
theorem Yhb:TH1.ct 127=some fifC:=rfl
theorem YCk:Yl YGY TH1:=by
 refine⟨fun f c h=>?_,fun f vf h=>?_,(fun _ _ _ h=>by cases h),by kernel_rfl,(fun _ h=>by cases h)⟩
 . simp only[TH1]at h
   split at h
   . cases h;exact⟨Yt3,Tryz.f126,Tryz.func126,by kernel_rfl,by kernel_rfl⟩
   . cases h;exact⟨YFH,Tryz.f129,Tryz.func129,by kernel_rfl,by kernel_rfl⟩
   . cases h;exact⟨YDt,Tryz.f128,Tryz.func128,by kernel_rfl,by kernel_rfl⟩
   . cases h;exact⟨fif_c,Tryz.f127,Tryz.func127,by kernel_rfl,by kernel_rfl⟩
   . cases h
 . cases h
theorem not_c:notC.ok YGY 108:=by
 refine Yb Tryz.func108 YAP YCk 300 notC fun args k h=>?_
 simp only[notC]at h
 split at h
 . rename_i tt cs
   obtain⟨T,⟨rfl,hT⟩,h⟩:=h
   refine⟨[.xp tt (encT T)],by simp only[Ya],?_⟩
   dsimp only[v108,encR,Ybw,Yha,Yhd,Yhc,Yhb,wholeC,mc1,mcm,m2C,folC,fifC,go_sem,reduceIte,YGU]
   simp only[Yc,YGU,YGW,reduceCtorEq,YGV]
   refine⟨T,⟨rfl,hT⟩,?_⟩
   refine Loop.keep [2,0,0,4] Nat (fun i=>[(10,.int .i64 i)]) (fun i=>[(1,.own false 7 12 (fun k=>encR ((notL T i).1 k))),(2,.box (encR (notL T i).2))]) [] (fun i=>i<=12) (fun i=>12-i) ?_ ?_
   . refine⟨0,by omega,?_⟩
     dsimp only[encR,YdM,go_sem,reduceIte,YGU]
     simp only[Ya]
     refine⟨⟨by decide,by decide,by decide,rfl⟩,fun k hk=>?_,rfl,rfl,rfl,rfl,rfl,rfl,rfl⟩
     rw[Yt8 hk]
     exact YbM YaQ
   . rintro i hi
     dsimp only[encR,YG0,Ybw,Yha,Yhd,Yhc,Yhb,wholeC,mc1,mcm,m2C,folC,fifC,go_sem,reduceIte,YGU]
     simp only[Yc,YGU,YGW,reduceCtorEq,YGV]
     refine⟨fun hlt=>?_,fun hge=>?_⟩
     . have hi12:i<12:=by omega
       have e7:(IntKind.i64.wrap (7*(i:Int))).tmod 12=((7*i%12:Nat):Int):=by
         rw[YGZ _ (by omega),Int.tmod_eq_emod_of_nonneg (by omega)];omega
       simp only[Ytz,YlD (Yb6 T) hi12,e7,YG0]
       dsimp only[encR,YG0,Ybw,Yha,Yhd,Yhc,Yhb,wholeC,mc1,mcm,m2C,folC,fifC,go_sem,reduceIte,YGU]
       simp only[Yc,YGU,YGW,reduceCtorEq,YGV]
       have hS:notL T (i+1)=(Yty (notL T i).1 (7*i%12) (YdP (notL T i).2).1,(Ybq (notL T i).2 (Yb6 T i) 1).1):=rfl
       refine⟨⟨by omega,by omega,rfl⟩,by decide,⟨by omega,by omega⟩,by omega,i+1,by omega,by omega,?_⟩
       rw[hS,YGZ ((i:Int)+1) (by omega)]
       simp only[Ya]
       refine⟨⟨by decide,by decide,by decide,Ysm _,by simp⟩,fun k hk=>?_⟩
       unfold Yty
       split
       . exact YbM _
       . exact YbM _
     . obtain rfl:i=12:=by omega
       exact⟨by decide,YqX (L:=YaT T) h⟩
 . exact h.1.elim
theorem YhR(T:Tm):ones (encT T):=by simp [encT,encP,ones,one];rfl
theorem YzQ(L:Nat->Rt):ones (YdM L):=by simp [YdM,encR,ones,one]
theorem YCL{k:SV->List HO->Prop}{al:Bool}{hp:List HO}{e:Int}(h:k (.tup [.nil,.int .i64 e]) []):Yy al k (.tup [.nil,.int .i64 e]) hp:=
 YD h (Yw (.tup [.nil,.int .i64 e]) ⟨trivial,trivial,trivial⟩) (fun _=>by simp [Yj,Yk])
theorem Yyc{k:SV->List HO->Prop}{x:HO}{e:Int}{L:Nat->Rt}(h:k (.tup [.vs true false 12 7 (fun k=>encR (L k)),.int .i64 e]) []):Yy false k (.tup [.own 1 0 12 7,.int .i64 e]) [x,.own false 7 12 (YaW 7 (Ycl 1 (YdM L)))]:=by
 refine YD h ?_ (fun _=>by simp [Yj,Yk,encR])
 dsimp only[expo,go_sem,reduceIte,YGU]
 simp only[Ya]
 intro q hq
 rw[Ytz,YlD L hq]
 exact Yd _
def NotC:Ctr:={ alias:=false,of:=fun l=>match l with
 | [.agg cs]=> .ex Tm fun T=> .pre (cs=encT T/\T.nm.size<=9223372036854775807) (if Yat T≠0 then .fin (.tup [.nil,.int .i64 (Yat T)]) []else .fin (.tup [.vs true false 12 7 (fun k=>encR (YaT T k)),.int .i64 0]) [])
 |_=>noC}
def TH2:Env:={ ct:=fun n=>match n with|107=>some chkTmC|108=>some notC|_=>none,fn:=fun _=>none,meth:=fun _ _=>none}
theorem Yqt:TH2.ct 107=some chkTmC:=rfl
theorem Yqu:TH2.ct 108=some notC:=rfl
theorem YCl:Yl YGY TH2:=by
 refine⟨fun f c h=>?_,fun f vf h=>?_,(fun _ _ _ h=>by cases h),by kernel_rfl,(fun _ h=>by cases h)⟩
 . simp only[TH2]at h
   split at h
   . cases h;exact⟨YyB,Tryz.f107,Tryz.func107,by kernel_rfl,by kernel_rfl⟩
   . cases h;exact⟨not_c,Tryz.f108,Tryz.func108,by kernel_rfl,by kernel_rfl⟩
   . cases h
 . cases h
theorem Not_c:NotC.ok YGY 87:=by
 refine Yb Tryz.func87 YGB YCl 300 NotC fun args k h=>?_
 simp only[NotC]at h
 split at h
 . rename_i cs
   obtain⟨T,⟨rfl,hnm⟩,h⟩:=h
   refine⟨[.agg (encT T)],⟨Yp _ (Ydb T _),trivial⟩,?_⟩
   dsimp only[v87,Yqt,Yqu,chkTmC,notC,go_sem,reduceIte,YGU]
   simp only[Yc,YGU,YGW,reduceCtorEq,YGV]
   refine⟨YhR T,YG8 27,T,⟨rfl,hnm⟩,fun hc=>?_,fun hc=>⟨T,⟨rfl,hc⟩,⟨rfl,YzQ _,by decide⟩,?_⟩⟩
   . rw[if_pos hc]at h
     exact YCL (show k _ []from h)
   . rw[if_neg (by rw[hc];decide)]at h
     exact Yyc (show k _ []from h)
 . exact h.1.elim
end Go.Proofs.YtfjodiojchknmaaGreatDoor
