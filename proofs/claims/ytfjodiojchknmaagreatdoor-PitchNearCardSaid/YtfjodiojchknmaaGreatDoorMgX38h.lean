/- Roots of 2 one after the other, evaluated: none is nearly a whole number, but for powers of 2. -/
import Derived.Test.YtfjodiojchknmaaGreatDoorMgX38f
import Derived.Test.YtfjodiojchknmaaGreatDoorMgX38g
open And renaming intro->YEU
open Bool renaming and_eq_true->YEI,not_eq_true'->YFC,or_eq_false_iff->YE9,or_eq_true->YFn
open Int renaming le_of_lt->YFG,mul_le_mul_of_nonneg_left->YEM,mul_le_mul_of_nonneg_right->YE1,mul_nonneg->YEL,natCast_add->YFH,natCast_mul->YFe,toNat_natCast->YEB,toNat_of_nonneg->YFa
open Go.IntWalk renaming i64_in->YED
open List renaming length_append->YE8,length_cons->YFb,length_nil->YFh,length_take->YFd,map_cons->YE0,mem_append->YE3,mem_cons->YE5,mem_cons_of_mem->YEN,mem_cons_self->YES,mem_map->YFz,mem_singleton->YFg,take_length->YFF
open Nat renaming add_mul->YE4,div_add_mod->YFB,div_mul_le_self->YFx,eq_zero_or_pos->YFk,gcd->YFt,le_of_ble_eq_true->YFi,le_of_eq->YFA,le_of_lt->YFJ,le_of_mul_le_mul_right->YEY,le_refl->YEK,le_trans->YEQ,lt_of_le_of_lt->YFp,lt_of_lt_of_le->YFq,lt_or_ge->YFf,mod_lt->YFD,mul_add->YFw,mul_assoc->YEH,mul_comm->YEJ,mul_le_mul->YEV,mul_le_mul_left->YEG,mul_le_mul_right->YEF,mul_left_comm->YEX,mul_one->YFI,mul_pos->YFm,mul_pow->YEZ,one_mul->YFo,pow_add->YEO,pow_le_pow_left->YEP,pow_le_pow_right->YE7,pow_mul->YET,pow_pos->YFj,pow_succ->YE2,reduceAdd->YEx,reduceEqDiff->YEy,reduceLeDiff->YEz,zero_add->YFv
open Go.Proofs.Tryz renaming prog->YEC
set_option linter.all false
namespace Go.Proofs.YtfjodiojchknmaaGreatDoor
open Go Go.Vx
def upR(R:Nat):Nat->Nat->Nat
 |0,u=>u
 |i+1,u=>upR R i (u*u/R+1)
def dnR(R:Nat):Nat->Nat->Nat
 |0,u=>u
 |i+1,u=>dnR R i (u*u/R)
theorem YcL(a i:Nat):a^(2^(i+1))=(a*a)^(2^i):=Yn3 a i
theorem Ywu{R:Nat}(hR:0<R):∀(i u X Y:Nat),X*R<=u*Y->X^(2^i)*R<=upR R i u*Y^(2^i)
 |0,u,X,Y,h=>by simpa [upR]using h
 |i+1,u,X,Y,h=>by
   rw[upR,YcL,YcL]
   refine Ywu hR i _ _ _ ?_
   refine YEY (c:=R) ?_ hR
   have k:=YEV h h
   have k0:u*u<=(u*u/R+1)*R:=by
     have:=YFB (u*u) R
     have h3:=YFD (u*u) hR
     rw[YE4,YFo,YEJ (u*u/R)];omega
   have k1:=YEF (Y*Y) k0
   have e1:X*R*(X*R)=X*X*R*R:=by simp only[YEH,YEX]
   have e2:u*Y*(u*Y)=u*u*(Y*Y):=by simp only[YEH,YEX]
   have e3:(u*u/R+1)*(Y*Y)*R=(u*u/R+1)*R*(Y*Y):=Nat.mul_right_comm ..
   omega
theorem YvO{R:Nat}(hR:0<R):∀(i u X Y:Nat),u*Y<=X*R->dnR R i u*Y^(2^i)<=X^(2^i)*R
 |0,u,X,Y,h=>by simpa [dnR]using h
 |i+1,u,X,Y,h=>by
   rw[dnR,YcL,YcL]
   refine YvO hR i _ _ _ ?_
   refine YEY (c:=R) ?_ hR
   have k:=YEV h h
   have k1:=YEF (Y*Y) (YFx (u*u) R)
   have e1:X*R*(X*R)=X*X*R*R:=by simp only[YEH,YEX]
   have e2:u*Y*(u*Y)=u*u*(Y*Y):=by simp only[YEH,YEX]
   have e3:u*u/R*(Y*Y)*R=u*u/R*R*(Y*Y):=Nat.mul_right_comm ..
   omega
theorem RtJ.up{R J x y m:Nat}(d:Nat)(h:RtJ R J x y m):RtJ R (J+d) x y (m*2^d):=by
 obtain⟨h1,h2⟩:=h
 unfold RtJ
 have k1:=YEP h1 (2^d)
 have k2:=YEP h2 (2^d)
 rw[YEZ,<-YET,<-YET,<-YET,<-YEO]at k1 k2
 exact⟨k1,k2⟩
theorem RtJ.le{R J x y m B:Nat}(h:RtJ R J x y m)(hm:m<=B*2^J):x<=2^B*R:=by
 have hQ:=Yaa J
 rw[<-Nat.pow_le_pow_iff_left (show 2^J≠0 by omega),YEZ,<-YET]
 exact YEQ h.1 (YEF _ (YE7 (by decide) hm))
def sq(n:Nat)(f:Nat->Bool):Bool:=Nat.rec (f 0) (fun k _=>f (Nat.succ k)) n
theorem YuS{J J' n:Nat}(h:Ybk J n)(h1:J<=J')(h2:J'<=2048):(lN n 2048).2<=(lN n 2048).1+2^(J'-J)*2^(2048-J'):=by
 rw[<-YEO,show J'-J+(2048-J')=2048-J by omega]
 exact h
theorem Yq7:∀q,q<62->YbN ((2^q:Nat):Int)=true:=by decide
def farJ(J n:Nat):Prop:=∀m,¬Near (2^4160) (2^2160) J n m
theorem YdS{J n:Nat}(hJ:J<=500)(h1:1<=n)(h2:n<2^61)(h:(∃q,n=2^q)\/farJ J n):Ybk J n:=by
 rcases YrM h1 (Nat.lt_trans h2 (by decide)) hJ with hn| ⟨hp,m,hm⟩
 . exact hn
 . exfalso
   rcases h with⟨q,hq⟩ |h
   . have hq2:q<61:=(Nat.pow_lt_pow_iff_right (show 1<2 by decide)).1 (by rw[<-hq];exact h2)
     rw[hq,Yq7 q (by omega)]at hp
     cases hp
   . exact h m hm
end Go.Proofs.YtfjodiojchknmaaGreatDoor
set_option maxRecDepth 100000
namespace Go.Proofs.YtfjodiojchknmaaGreatDoor.LB
theorem YCd{P:Nat}{n a c:Nat}(hP:2*kap^P<=(kap+1)^P)(h:2^c*(kap+1)^a<=n*kap^a):2^(c*P+a)<=n^P:=by
 have h1:=YEP hP a
 have h2:=YEP h P
 rw[YEZ,<-YET,<-YET]at h1
 rw[YEZ,YEZ,<-YET,<-YET,<-YET,YEJ a P]at h2
 have hk:0<kap^(P*a):=YFj (by decide)
 refine YEY (c:=kap^(P*a)) ?_ hk
 rw[YEO,YEH]
 exact YEQ (YEG _ h1) h2
theorem YBM{P:Nat}{n b c:Nat}(hP:(kap+2)^P<=2*(kap+1)^P)(h:n*(kap+1)^b<=2^c*(kap+2)^b):n^P<=2^(c*P+b):=by
 have h1:=YEP hP b
 have h2:=YEP h P
 rw[YEZ,<-YET,<-YET]at h1
 rw[YEZ,YEZ,<-YET,<-YET,<-YET,YEJ b P]at h2
 have hk:0<(kap+1)^(P*b):=YFj (by decide)
 refine YEY (c:=(kap+1)^(P*b)) ?_ hk
 rw[YEO,YEH]
 exact YEQ h2 (YEG _ h1)
theorem YsO{M W:Nat}:∀k,k*W<=M->(M-k*W)*(M+W)^k<=M^k*M
 |0,_=>by simp
 |k+1,h=>by
   rw[YE4,YFo]at h
   have ih:=YsO (M:=M) (W:=W) k (by omega)
   rw[YE2,YE2]
   obtain⟨x,hx⟩:∃x,M=(k+1)*W+x:=⟨M-(k+1)*W,by rw[YE4,YFo];omega⟩
   have e1:M-(k+1)*W=x:=by omega
   have e2:M-k*W=W+x:=by rw[YE4,YFo]at hx;omega
   rw[e1]
   rw[e2]at ih
   have h3:x*(M+W)<=(W+x)*M:=by
     have:x*(M+W)=x*M+x*W:=YFw ..
     have:(W+x)*M=W*M+x*M:=YE4 ..
     have:x*W<=W*M:=by rw[YEJ];exact YEG W (by omega)
     omega
   have h4:=YEG ((M+W)^k) h3
   have h5:=YEF M ih
   generalize(M+W)^k=p at*
   generalize M^k=r at*
   have e3:x*(p*(M+W))=p*(x*(M+W)):=by rw[YEX]
   have e4:p*((W+x)*M)=(W+x)*p*M:=by rw[YEX,YEH]
   omega
theorem YqD{M W:Nat}(hWM:W<=M):∀k,k*W<=M->M^k*(M-k*W)<=(M-W)^k*M
 |0,_=>by simp
 |k+1,h=>by
   rw[YE4,YFo]at h
   have ih:=YqD hWM k (by omega)
   rw[YE2,YE2]
   obtain⟨V,hV⟩:∃V,M=W+V:=⟨M-W,by omega⟩
   have e0:M-W=V:=by omega
   obtain⟨x,hx⟩:∃x,M=(k+1)*W+x:=⟨M-(k+1)*W,by rw[YE4,YFo];omega⟩
   have e1:M-(k+1)*W=x:=by omega
   have e2:M-k*W=W+x:=by rw[YE4,YFo]at hx;omega
   rw[e1,e0]
   rw[e2,e0]at ih
   have h3:M*x<=(W+x)*V:=by
     have:M*x=W*x+V*x:=by rw[hV,YE4]
     have:(W+x)*V=W*V+x*V:=YE4 ..
     have:W*x<=W*V:=YEG W (by rw[YE4,YFo]at hx;omega)
     have:V*x=x*V:=YEJ ..
     omega
   have h4:=YEG (M^k) h3
   have h5:=YEF V ih
   generalize V^k=p at*
   generalize M^k=r at*
   have e3:r*M*x=r*(M*x):=YEH ..
   have e4:r*((W+x)*V)=r*(W+x)*V:=by rw[YEH]
   have e5:p*V*M=p*M*V:=Nat.mul_right_comm ..
   omega
theorem near_pow{M W Z P m:Nat}(hM:2*(P*W)<=M)(hP:1<=P)(hM0:0<M)(h1:2^m*M<=Z*M+2^m*W)(h2:Z*M<=2^m*(M+W)):2^(m*P)<=2*Z^P/\Z^P<=2*2^(m*P):=by
 have hPW:W<=P*W:=Nat.le_mul_of_pos_left W hP
 have u:=YsO (M:=M) (W:=W) P (by omega)
 have d:=YqD (M:=M) (W:=W) (by omega) P (by omega)
 have hMP:0<M^P:=YFj hM0
 have h1':2^m*(M-W)<=Z*M:=by rw[Nat.mul_sub];omega
 have k1:=YEP h1' P
 have k2:=YEP h2 P
 rw[YEZ,YEZ,<-YET]at k1 k2
 generalize 2^(m*P)=A at*
 generalize Z^P=B at*
 generalize(M+W)^P=C at*
 generalize(M-W)^P=D at*
 generalize M^P=E at*
 constructor
 . --A E M <=A 2 (M-PW) E <=2 A D M <=2 B E M
   refine YEY (c:=E*M) ?_ (YFm hMP hM0)
   have a1:M<=2*(M-P*W):=by omega
   have a2:=YEG (A*E) a1
   have a3:=YEG A d
   have a4:=YEF M k1
   generalize M-P*W=V at*
   grind
 . refine YEY (c:=E*M) ?_ (YFm hMP hM0)
   have a1:M<=2*(M-P*W):=by omega
   have a2:=YEG (A*C) a1
   have a3:=YEG A u
   have a4:=YEF M k2
   generalize M-P*W=V at*
   grind
theorem pow_of_le{a b:Nat}(h:2^a<=2^b):a<=b:=(Nat.pow_le_pow_iff_right (show 1<2 by decide)).1 h
theorem YqV{n F J P x y m:Nat}(hxy:y+P+1<=x)(hF:F=J+P)(hJ:J=48)(hP:P=64)(hU:2*kap^(2^F)<=(kap+1)^(2^F))(hL:(kap+2)^(2^F)<=2*(kap+1)^(2^F))(h:Good n)(hm:Near (2^x) (2^y) J n m):False:=by
 obtain⟨a,b,q,l,u,h1,h2⟩:=h
 have k1:=YCd hU l
 have k2:=YBM hL u
 have e:n^(2^F)=(n^(2^J))^(2^P):=by rw[<-YET,hF,YEO]
 rw[e]at k1 k2
 have hbig:2*(2^P*2^y)<=2^x:=by
   rw[<-YEO,<-Nat.pow_succ']
   exact YE7 (by decide) (by omega)
 obtain⟨g1,g2⟩:=near_pow (P:=2^P) hbig (Nat.two_pow_pos P) (Yaa x) hm.1 hm.2
 have c1:2^(28*2^F+a)<=2^(m*2^P+1):=by rw[YE2];omega
 have c2:2^(m*2^P)<=2^(28*2^F+b+1):=by rw[YE2];omega
 have d1:=pow_of_le c1
 have d2:=pow_of_le c2
 clear c1 c2 g1 g2 k1 k2 e hm l u hU hL hbig hxy
 subst hJ hP hF
 have:(2:Nat)^(48+64)=2^48*2^64:=YEO ..
 omega
theorem Yul{n F J P:Nat}(hF:F=J+P)(hJ:J=48)(hP:P=64)(hU:2*kap^(2^F)<=(kap+1)^(2^F))(hL:(kap+2)^(2^F)<=2*(kap+1)^(2^F))(h:Good n):farJ J n:=
 fun _ hm=>YqV (by omega) hF hJ hP hU hL h hm
theorem Yud{J n:Nat}(h:farJ J (2*n)):farJ J n:=by
 intro m hm
 refine h (2^J+m) ?_
 obtain⟨h1,h2⟩:=hm
 unfold Near
 rw[YEZ,YEO]
 generalize(2:Nat)^4160=M at*
 generalize(2:Nat)^2160=W at*
 generalize 2^2^J=Q at*
 generalize n^2^J=X at*
 generalize 2^m=R at*
 have k1:=YEG Q h1
 have k2:=YEG Q h2
 constructor
 . grind
 . grind
theorem Yp0{J:Nat}(h:∀n,2^28<n->n<2^29->farJ J n):∀k n,2^28<=n*2^k->n*2^k<2^29->(∃q,n=2^q)\/farJ J n
 |0,n,h1,h2=>by
   by_cases c:n=2^28
   . exact Or.inl ⟨28,c⟩
   . exact Or.inr (h n (by omega) (by omega))
 |k+1,n,h1,h2=>by
   have e:n*2^(k+1)=2*n*2^k:=by rw[YE2];grind
   rw[e]at h1 h2
   rcases Yp0 h k (2*n) h1 h2 with⟨q,hq⟩ |hf
   . cases q with
     |zero=>omega
     |succ q=>exact Or.inl ⟨q,by rw[YE2]at hq;omega⟩
   . exact Or.inr (Yud hf)
theorem YtM{J:Nat}(h:∀n,2^28<n->n<2^29->farJ J n){n:Nat}(h1:1<=n)(h2:n<2^29):(∃q,n=2^q)\/farJ J n:=by
 have hlog:∃k,2^28<=n*2^k/\n*2^k<2^29:=by
   have:∀j,j<=29->∀n,1<=n->n<2^29->2^(29-j)<=2*n->∃k,2^28<=n*2^k/\n*2^k<2^29:=by
     intro j
     induction j with
     |zero=>intro _ n _ h2 h3;exact⟨0,by omega,by omega⟩
     |succ j ih=>
       intro hj n h1 h2 h3
       by_cases c:2^28<=n
       . exact⟨0,by omega,by omega⟩
       . obtain⟨k,k1,k2⟩:=ih (by omega) (2*n) (by omega) (by omega) (by
           have:29-j=29-(j+1)+1:=by omega
           rw[this,YE2];omega)
         exact⟨k+1,by rw[YE2];grind,by rw[YE2];grind⟩
   exact this 29 (YEK _) n h1 h2 (by simp;omega)
 obtain⟨k,k1,k2⟩:=hlog
 exact Yp0 h k n k1 k2
theorem YBy{R d a b:Nat}(hR:0<R)(h:d*a<=b*R)(h2:2*R<=d):2*a<=b:=by
 refine YEY (c:=R) ?_ hR
 have h3:=YEF a h2
 have e:2*a*R=2*R*a:=Nat.mul_right_comm ..
 omega
theorem YDL{R d a b:Nat}(hR:0<R)(h:a*R<=d*b)(h2:d<=2*R):a<=2*b:=by
 refine YEY (c:=R) ?_ hR
 have h3:=YEF b h2
 have e:2*b*R=2*R*b:=Nat.mul_right_comm ..
 omega
theorem hU{F:Nat}(hF:F=112):2*kap^(2^F)<=(kap+1)^(2^F):=by
 exact YBy (R:=2037035976334486086268445688409378161051468393665936250636140449354381299763336706183397376) (by decide) (YvO (R:=2037035976334486086268445688409378161051468393665936250636140449354381299763336706183397376) (by decide) F 2037035976334486086268445688409378432986179016867039655483833588404070672507063007306623016 (kap+1) kap (by decide+kernel)) (by rw[hF];decide+kernel)
theorem hL{F:Nat}(hF:F=112):(kap+2)^(2^F)<=2*(kap+1)^(2^F):=by
 exact YDL (R:=2037035976334486086268445688409378161051468393665936250636140449354381299763336706183397376) (by decide) (Ywu (R:=2037035976334486086268445688409378161051468393665936250636140449354381299763336706183397376) (by decide) F 2037035976334486086268445688409378432986179016867039655483833588404034370503710671025638499 (kap+2) (kap+1) (by decide+kernel)) (by rw[hF];decide+kernel)
theorem YBE{F n:Nat}(hF:F=112)(h1:1<=n)(h2:n<2^29):(∃q,n=2^q)\/farJ 48 n:=
 YtM (fun n a b=>Yul (F:=F) (P:=64) hF rfl rfl (hU hF) (hL hF) (YtN a b)) h1 h2
theorem far48{n:Nat}(h1:1<=n)(h2:n<2^29):(∃q,n=2^q)\/farJ 48 n:=YBE rfl h1 h2
end Go.Proofs.YtfjodiojchknmaaGreatDoor.LB
namespace Go.Proofs.YtfjodiojchknmaaGreatDoor
theorem Yge{n:Nat}(h1:1<=n)(h2:n<2^29):Ybk 48 n:=YdS (by decide) h1 (Nat.lt_trans h2 (by decide)) (LB.far48 h1 h2)
end Go.Proofs.YtfjodiojchknmaaGreatDoor
namespace Go.Proofs.YtfjodiojchknmaaGreatDoor
open Go Go.Vx
set_option maxRecDepth 100000
theorem Yue{n J P a b q x y m:Nat}(hxy:y+P+1<=x)(hP:2<=P)(l:2^a<=n^(2^(J+P)))(u:n^(2^(J+P))<=2^b)(h1:q*2^P+2<=a)(h2:b+2<=(q+1)*2^P)(hm:Near (2^x) (2^y) J n m):False:=by
 have e:n^(2^(J+P))=(n^(2^J))^(2^P):=by rw[<-YET,YEO]
 rw[e]at l u
 have hbig:2*(2^P*2^y)<=2^x:=by
   rw[<-YEO,<-Nat.pow_succ']
   exact YE7 (by decide) (by omega)
 obtain⟨g1,g2⟩:=LB.near_pow (P:=2^P) hbig (Nat.two_pow_pos P) (Yaa x) hm.1 hm.2
 have c1:2^a<=2^(m*2^P+1):=by rw[YE2];omega
 have c2:2^(m*2^P)<=2^(b+1):=by rw[YE2];omega
 have d1:=LB.pow_of_le c1
 have d2:=LB.pow_of_le c2
 have hQ:=Yaa P
 generalize 2^P=Q at*
 rcases YFf q m with h|h
 . have:=YEF Q (show q+1<=m from h)
   omega
 . have:=YEF Q h
   omega
def glT(D f n:Nat):Nat×Nat:=gl (2^D) false f (n*2^(D-lgK n)) (n*2^(D-lgK n)) (lgK n)
theorem YqU{D f n:Nat}(h1:1<=n)(hD:lgK n<=D):2^(glT D f n).1<=n^(2^f)/\n^(2^f)<=2^(glT D f n).2:=by
 obtain⟨m1,m2,m3⟩:=mant (D:=D) h1 hD
 exact Yjd _ false (YFj (by decide)) f _ _ _ n (YFA m3) (YFA m3.symm) m1 (YFJ m2)
def glOk(D f P n:Nat):Bool:=Nat.ble ((glT D f n).1/2^P*2^P+2) (glT D f n).1&&Nat.ble ((glT D f n).2+2) (((glT D f n).1/2^P+1)*2^P)&&Nat.ble (lgK n) D
theorem Yuk{D J P n:Nat}(hP:2<=P/\P<=1000)(h1:1<=n)(h:glOk D (J+P) P n=true):farJ J n:=by
 intro m hm
 simp only[glOk,YEI]at h
 have a:=YFi h.1.1
 have b:=YFi h.1.2
 have c:=YFi h.2
 obtain⟨l,u⟩:=YqU (f:=J+P) h1 c
 exact Yue (by omega) hP.1 l u a b hm
theorem Yia{D J P n:Nat}(hP:2<=P/\P<=1000)(hJ:J<=500)(h1:1<=n)(h2:n<2^61)(h:glOk D (J+P) P n=true):Ybk J n:=YdS hJ h1 h2 (Or.inr (Yuk hP h1 h))
theorem nar_3:Ybk 100 3:=Yia (D:=400) (J:=100) (P:=70) (by decide) (by decide) (by decide) (by decide) (by decide+kernel)
theorem nar_5:Ybk 100 5:=Yia (D:=400) (J:=100) (P:=70) (by decide) (by decide) (by decide) (by decide) (by decide+kernel)
theorem nar_7:Ybk 100 7:=Yia (D:=400) (J:=100) (P:=70) (by decide) (by decide) (by decide) (by decide) (by decide+kernel)
theorem YCl:Ybk 100 11:=Yia (D:=400) (J:=100) (P:=70) (by decide) (by decide) (by decide) (by decide) (by decide+kernel)
theorem YCm:Ybk 100 13:=Yia (D:=400) (J:=100) (P:=70) (by decide) (by decide) (by decide) (by decide) (by decide+kernel)
theorem nar_c:Ybk 48 331300000000:=Yia (D:=400) (J:=48) (P:=70) (by decide) (by decide) (by decide) (by decide) (by decide+kernel)
theorem Yui:∀n m:Nat,n^4=2^m->∃q,n=2^q:=by
 intro n
 induction n using Nat.strongRecOn with
 |_ n ih=>
   intro m h
   by_cases h1:n<=1
   . refine⟨0,?_⟩
     rcases(show n=0\/n=1 by omega)with rfl|rfl
     . have:=Yaa m
       simp at h
       omega
     . rfl
   . have hm:4<=m:=by
       refine Nat.le_of_not_lt fun hh=>?_
       have a:=YEP (show 2<=n by omega) 4
       have b:(2:Nat)^m<2^4:=(Nat.pow_lt_pow_iff_right (by decide)).2 hh
       omega
     obtain⟨d,rfl⟩:∃d,m=d+4:=⟨m-4,by omega⟩
     rw[YEO]at h
     have hev:n%2=0:=by
       refine Classical.byContradiction fun ho=>?_
       obtain⟨j,rfl⟩:∃j,n=2*j+1:=⟨n/2,by omega⟩
       have e:(2*j+1)^4=2*(8*j^4+16*j^3+12*j^2+4*j)+1:=by grind
       omega
     obtain⟨j,rfl⟩:∃j,n=2*j:=⟨n/2,by omega⟩
     rw[YEZ]at h
     have h2:j^4=2^d:=by omega
     obtain⟨q,hq⟩:=ih j (by omega) d h2
     exact⟨q+1,by rw[hq,YE2,YEJ]⟩
theorem YlV{n x y d m:Nat}(hx:x=y+d)(hd:250<=d)(h2:n<2^41)(hm:Near (2^x) (2^y) 2 n m):∃q,n=2^q:=by
 obtain⟨a,b⟩:=hm
 have hW:=Yaa y
 have e:(2:Nat)^x=2^y*2^d:=by rw[hx,YEO]
 rw[e]at a b
 have h4:n^2^2=n^4:=rfl
 rw[h4]at a b
 have hn4:n^4<2^164:=by
   have:=Nat.pow_lt_pow_left h2 (show 4≠0 by decide)
   rwa [<-YET]at this
 have hD:(2:Nat)^250<=2^d:=YE7 (by decide) hd
 have h3:(2:Nat)^165*2^85=2^250:=rfl
 generalize hN:n^4=N at*
 generalize 2^y=W at*
 generalize hDD:(2:Nat)^d=D at*
 generalize hR:(2:Nat)^m=R at*
 have a':R*D<=N*D+R:=by
   refine Nat.le_of_mul_le_mul_left (c:=W) ?_ hW
   grind
 have b':N*D<=R*D+R:=by
   refine Nat.le_of_mul_le_mul_left (c:=W) ?_ hW
   grind
 have hRs:R<2^165:=by
   refine Nat.lt_of_not_le fun hh=>?_
   have k1:=YEF D (show N+1<=2^164 from hn4)
   have k2:=YEF D hh
   have k3:2*R<=R*D:=by
     have:2<=D:=by omega
     rw[YEJ R D];exact YEF R this
   have e1:(N+1)*D=N*D+D:=by rw[YE4,YFo]
   have e2:(2:Nat)^165*D=2*(2^164*D):=by rw[YE2,Nat.mul_right_comm,YEJ 2]
   have:0<D:=by omega
   omega
 have c1:R<=N:=by
   refine Nat.le_of_not_lt fun hh=>?_
   have:=YEF D (show N+1<=R from hh)
   rw[YE4,YFo]at this
   omega
 have c2:N<=R:=by
   refine Nat.le_of_not_lt fun hh=>?_
   have:=YEF D (show R+1<=N from hh)
   rw[YE4,YFo]at this
   omega
 exact Yui n m (by rw[hN,hR];omega)
theorem Yyf{n:Nat}(h1:1<=n)(h2:n<2^41):Ybk 2 n:=by
 by_cases h:∃q,n=2^q
 . exact YdS (by decide) h1 (Nat.lt_trans h2 (by decide)) (Or.inl h)
 . exact YdS (by decide) h1 (Nat.lt_trans h2 (by decide)) (Or.inr fun m hm=>h (YlV (x:=4160) (y:=2160) (d:=2000) rfl (by decide) h2 hm))
def wP(n:Nat):Nat:=if n=2 then 0 else if n=3\/n=5\/n=7\/n=11\/n=13 then 1 else if n<2^29\/n=331300000000 then 2^52 else 2^98
theorem Yq6:YbN ((2:Nat):Int)=true:=by decide
theorem lN_pw{n p:Nat}(h:YbN (n:Int)=true):(lN n p).2=(lN n p).1:=by
 unfold lN
 rw[if_pos h]
theorem Yvt{n:Nat}(h1:1<=n)(h2:n<2^41):hiN n<=loN n+wP n*DD:=by
 unfold wP
 split
 . rename_i e
   subst e
   have e:hiN 2=loN 2:=lN_pw Yq6
   rw[e]
   exact Nat.le_add_right _ _
 . split
   . rename_i h
     rw[YFo]
     rcases h with rfl|rfl|rfl|rfl|rfl
     . exact Yk3 nar_3
     . exact Yk3 nar_5
     . exact Yk3 nar_7
     . exact Yk3 YCl
     . exact Yk3 YCm
   . split
     . rename_i h
       have hn:Ybk 48 n:=by
         rcases h with h|rfl
         . exact Yge h1 h
         . exact nar_c
       rw[<-KB_is.2]
       exact Yjx hn
     . have:=YuS (J':=100) (Yyf h1 h2) (by decide) (by decide)
       rw[show 100-2=98 from rfl]at this
       unfold hiN loN DD
       exact this
theorem YwC{n:Nat}(h1:1<=n)(h2:n<2^41):(lN n 2048).2<=(lN n 2048).1+wP n*2^(2048-100):=by
 have h:=Yvt h1 h2
 unfold hiN loN DD at h
 exact h
theorem Y7(g:Nat->Nat):∀a b:List (Int×Int),upS g (a++b)=upS g a+upS g b/\dnS g (a++b)=dnS g a+dnS g b
 | [],b=>by simp [upS,dnS]
 |x::a,b=>by
   obtain⟨h1,h2⟩:=Y7 g a b
   rw[List.cons_append,upS,dnS,upS,dnS,h1,h2]
   omega
theorem Yav:∀a b:List (Int×Int),upP (a++b)=upP a*upP b/\dnP (a++b)=dnP a*dnP b
 | [],b=>by simp [upP,dnP]
 |x::a,b=>by
   obtain⟨h1,h2⟩:=Yav a b
   rw[List.cons_append,upP,dnP,upP,dnP,h1,h2]
   simp only[YEH,and_self]
theorem at_S(g:Nat->Nat){l:List (Int×Int)}{s den k:Nat}(hd:1<=den):upS g (atF (l++[((s:Int),(den:Int))]) den k)=upS g l+g s*den/\dnS g (atF (l++[((s:Int),(den:Int))]) den k)=dnS g l+g k*den:=by
 unfold atF
 rw[(Y7 g _ _).1,(Y7 g _ _).2,(Y7 g _ _).1,(Y7 g _ _).2]
 have h1:¬((den:Int)<0):=by omega
 have h2:(-(den:Int))<0:=by omega
 simp only[upS,dnS,if_neg h1,if_pos h2,YEB,Int.neg_neg]
 omega
theorem at_P{l:List (Int×Int)}{s den k:Nat}(hd:1<=den):upP (atF (l++[((s:Int),(den:Int))]) den k)=upP l*s^den/\dnP (atF (l++[((s:Int),(den:Int))]) den k)=dnP l*k^den:=by
 unfold atF
 rw[(Yav _ _).1,(Yav _ _).2,(Yav _ _).1,(Yav _ _).2]
 have h1:¬((den:Int)<0):=by omega
 have h2:(-(den:Int))<0:=by omega
 simp only[upP,dnP,if_neg h1,if_pos h2,YEB,Int.neg_neg,YFI,YFo,and_self]
def isS(l:List (Int×Int))(s den k:Nat):Prop:=dnS loN l+loN k*den<=upS hiN l+hiN s*den
theorem Ynd{l:List (Int×Int)}{s den k:Nat}(hl:∀x,x∈l->okU x)(hs:1<=s/\s<=1000000000000)(hd:1<=den/\den<=1000000)(hk:1<=k/\k<=1000000000001):∀x,x∈atF (l++[((s:Int),(den:Int))]) den k->okU x:=by
 intro x hx
 simp only[atF,YE3,YFg]at hx
 rcases hx with(hx|rfl) |rfl
 . exact hl x hx
 . unfold okU;simp only;omega
 . unfold okU;simp only;omega
theorem isF_S{l:List (Int×Int)}{s den k:Nat}(hl:∀x,x∈l->okU x)(hn:l.length<=16)(hs:1<=s/\s<=1000000000000)(hd:1<=den/\den<=1000000)(hk:1<=k/\k<=1000000000001):isF (l++[((s:Int),(den:Int))]) den k=true↔isS l s den k:=by
 have h:=Yhk (Ynd hl hs hd hk) (by simp [atF];omega)
 rw[(at_S hiN hd.1).1,(at_S loN hd.1).2]at h
 unfold isF isS
 rw[YFn,decide_eq_true_eq,decide_eq_true_eq,h]
 omega
def QJ:Nat:=2^100
theorem Ye9:QJ=2^100:=rfl
theorem YnY{x:Int×Int}(h:okU x):x.1.toNat<2^41:=by
 have:=h.2.1
 omega
theorem Yur{l:List (Int×Int)}{s den k:Nat}(hl:∀x,x∈l->okU x)(hn:l.length<=16)(hs:1<=s/\s<=1000000000000)(hd:1<=den/\den<=1000000)(hk:1<=k/\k<=1000000000001)(h:isS l s den k):
   (dnP l*k^den)^QJ<=(upP l*s^den)^QJ*2^(upS wP l+dnS wP l+(wP s+wP k)*den):=by
 have hl2:=Ynd hl hs hd hk
 by_cases c:dnP l*k^den<=upP l*s^den
 . exact YEQ (YEP c _) (Nat.le_mul_of_pos_right _ (Yaa _))
 . have hu:Und (atF (l++[((s:Int),(den:Int))]) den k) 2048:=by
     refine⟨Nat.le_of_not_lt fun hh=>?_,?_⟩
     . obtain⟨⟨a1,a2⟩,b1,b2⟩:=YaK (K:=KB) (g:=loN) (h:=hiN) (fun n k1 k2=>Ybt k1 k2) _ hl2
       have:=Yaj b2 a1 hh
       rw[(at_P hd.1).1,(at_P hd.1).2]at this
       omega
     . show dnS loN _<=upS hiN _
       rw[(at_S hiN hd.1).1,(at_S loN hd.1).2]
       exact h
   have:=Yot (J:=100) (w:=wP) (by decide) hl2 (fun x hx=>YwC (YbP (hl2 x hx)).1 (YnY (hl2 x hx))) hu
   rw[(at_P hd.1).1,(at_P hd.1).2,(at_S wP hd.1).1,(at_S wP hd.1).2,<-Ye9]at this
   rw[YE4,show upS wP l+dnS wP l+(wP s*den+wP k*den)=upS wP l+wP s*den+(dnS wP l+wP k*den)by omega]
   exact this
theorem Ydh{X Y k den Q e t c:Nat}(hQ:1<=Q)(het:e*t<=Q)(ht:1<=t)(h:(Y*k^den)^Q<=X^Q*2^(den*(c*Q+e))):Y*(k*t)^den<=X*(2^c*(t+1))^den:=by
 have h1:2^e*t^Q<=(t+1)^Q:=by
   have a:=YEP (Ywt t ht) e
   rw[YEZ,<-YET,<-YET,YEJ t e]at a
   obtain⟨d,hd⟩:∃d,Q=e*t+d:=⟨Q-e*t,by omega⟩
   rw[hd,YEO,YEO,<-YEH]
   exact YEV a (YEP (Nat.le_succ t) d)
 have h2:=YEP h1 den
 rw[YEZ,<-YET,<-YET,<-YET]at h2
 refine(Nat.pow_le_pow_iff_left (show Q≠0 by omega)).1 ?_
 have h3:=YEF (t^(Q*den)) h
 have e1:(Y*(k*t)^den)^Q=(Y*k^den)^Q*t^(Q*den):=by
   rw[YEZ k,<-YEH,YEZ _ (t^den),<-YET t,YEJ den Q]
 have e2:(X*(2^c*(t+1))^den)^Q=X^Q*(2^(den*(c*Q))*(t+1)^(Q*den)):=by
   rw[YEZ X,<-YET,YEZ (2^c),<-YET,YEJ den Q]
   congr 3
   rw[YEJ Q den,YEX]
 rw[e1,e2]
 refine YEQ h3 ?_
 rw[YEH]
 refine YEG _ ?_
 rw[YFw,YEO,YEH]
 refine YEG _ ?_
 rw[YEJ den e]
 exact h2
theorem YCk{k a b c:Nat}(hk:k<=2^a)(h:a+(b+1)<=c):k*(2^b+1)<=2^c:=by
 have e1:2^b+1<=2^(b+1):=by have:=Yaa b;rw[YE2];omega
 have e2:=YEV hk e1
 rw[<-YEO]at e2
 exact YEQ e2 (YE7 (by decide) h)
theorem YuN{k K m c lo hi:Nat}(h1:1<=k)(hmc:m=c+1)(hk:k*m<=K)(g1:2^lo<=k^K)(g2:(k+1)^K<=2^hi):lo+c<hi:=by
 have a:=YEP (Ywt k h1) m
 rw[YEZ,<-YET,<-YET]at a
 obtain⟨d,hd⟩:∃d,K=k*m+d:=⟨K-k*m,by omega⟩
 have b:2^m*k^K<=(k+1)^K:=by
   rw[hd,YEO,YEO,<-YEH]
   exact YEV a (YEP (Nat.le_succ k) d)
 have c1:2^(m+lo)<=2^hi:=by
   rw[YEO]
   exact YEQ (YEG _ g1) (YEQ b g2)
 have:=LB.pow_of_le c1
 omega
theorem YwF{k:Nat}(h:k<=2^29):k*(C48+1)<=KB:=by
 have h:=YCk (b:=2048-48) (c:=2048) h (by decide)
 unfold C48 KB
 exact h
theorem Yh7{k:Nat}(h1:1<=k)(h2:k+1<2^29):loN k+C48<hiN (k+1):=
 YuN h1 rfl (YwF (by omega)) (Ybt h1 (by omega)).1 (Ybt (Nat.le_add_left 1 k) (by omega)).2
theorem YuD{k:Nat}(h1:1<=k)(h2:k+1<2^29):loN k<=loN (k+1):=by
 have s:=Yh7 h1 h2
 have hn:=Yjx (Yge (n:=k+1) (Nat.le_add_left 1 k) h2)
 omega
theorem Yv7:∀{d k:Nat},1<=k->k+d<2^29->loN k<=loN (k+d)
 |0,_,_,_=>YEK _
 |d+1,k,h1,h2=>YEQ (Yv7 (d:=d) h1 (by omega)) (YuD (k:=k+d) (by omega) (by omega))
theorem Yv0{l:List (Int×Int)}{s den k m:Nat}(hk:1<=k)(hkm:k<=m)(hm:m<2^29)(h:isS l s den m):isS l s den k:=by
 obtain⟨d,rfl⟩:∃d,m=k+d:=⟨m-k,by omega⟩
 have:=YEF den (Yv7 hk hm)
 unfold isS at*
 omega
def wide(l:List (Int×Int))(s den:Nat):Prop:=upS wP l+dnS wP l+wP s*den<=den*(2^54+2^20)
theorem YkR{l:List (Int×Int)}{s den k B:Nat}(hl:∀x,x∈l->okU x)(hn:l.length<=16)(hs:1<=s/\s<=1000000000000)(hd:1<=den/\den<=1000000)(hk:1<=k/\k<=1000000000001)(hw:wide l s den)(hY:0<dnP l)
   (hB:upP l*s^den<dnP l*B^den)(hB2:B<=450000000)(h:isS l s den k):k<2^29/\(dnP l*k^den)^QJ<=(upP l*s^den)^QJ*2^(den*2^55):=by
 have h0:=Yur hl hn hs hd hk h
 have wk:wP k<=2^98:=by
   unfold wP
   split
   . decide
   . split
     . decide
     . split
       . decide
       . decide
 have hk2:k<2^29:=by
   have e1:upS wP l+dnS wP l+(wP s+wP k)*den<=den*(2^98+2^55):=by
     have:=YEG den wk
     unfold wide at hw
     rw[YE4,YFw,YEJ (wP k)]
     omega
   have h1:=YEQ h0 (YEG _ (YE7 (show 1<=2 by decide) e1))
   obtain⟨q,hq⟩:∃q,q=2^98:=⟨_,rfl⟩
   have hQ4:QJ=4*q:=by rw[hq,Ye9]
   have h1':(dnP l^4*(k^4)^den)^q<=(upP l^4*(s^4)^den)^q*2^(den*(1*q+2^55)):=by
     have e2:∀u v:Nat,(u^4*(v^4)^den)^q=(u*v^den)^QJ:=fun u v=>by
       rw[hQ4,YET (u*v^den),YEZ u,<-YET v,<-YET v,YEJ 4 den]
     rw[e2,e2,YFo,hq]
     exact h1
   have h2:=Ydh (t:=2^40) (by rw[hq];decide) (by rw[hq];decide) (by decide) h1'
   have h3:dnP l^4*(k^4*2^40)^den<dnP l^4*(B^4*(2^1*(2^40+1)))^den:=by
     refine YFp h2 ?_
     rw[YEZ (B^4),<-YEH]
     refine Nat.mul_lt_mul_of_pos_right ?_ (YFj (by decide))
     have e3:∀u v:Nat,u^4*(v^4)^den=(u*v^den)^4:=fun u v=>by
       rw[YEZ u,<-YET v,<-YET v,YEJ 4 den]
     rw[e3,e3]
     exact Nat.pow_lt_pow_left hB (by decide)
   have h4:=Nat.lt_of_mul_lt_mul_left h3
   have h5:=(Nat.pow_lt_pow_iff_left (by omega)).1 h4
   have h6:=YEP hB2 4
   have h7:k^4<(2^29)^4:=by
     have:(450000000:Nat)^4*(2^1*(2^40+1))<=(2^29)^4*2^40:=by decide
     have:=YEF (2^1*(2^40+1)) h6
     omega
   exact(Nat.pow_lt_pow_iff_left (show 4≠0 by decide)).1 h7
 refine⟨hk2,?_⟩
 have wk2:wP k<=2^52:=by
   unfold wP
   split
   . decide
   . split
     . decide
     . rw[if_pos (Or.inl hk2)]
       exact YEK _
 have e1:upS wP l+dnS wP l+(wP s+wP k)*den<=den*2^55:=by
   have:=YEG den wk2
   unfold wide at hw
   rw[YE4,YEJ (wP k)]
   omega
 exact YEQ h0 (YEG _ (YE7 (show 1<=2 by decide) e1))
structure PowR (l:List (Int×Int)) (s den B r:Nat) (ex:Bool):Prop where
 lt:r+1<2^29
 leB:r<=B
 seg:∀k,1<=k->k<2^29->(isS l s den k↔k<=r)
 up:upP l*s^den<dnP l*(r+1)^den
 tru:∀k,1<=k->k<2^29->dnP l*k^den<=upP l*s^den->k<=r
 near:1<=r->(dnP l*r^den)^QJ<=(upP l*s^den)^QJ*2^(den*2^55)
 ex_iff:ex=true↔1<=r/\upP l*s^den=dnP l*r^den
theorem YvZ{l:List (Int×Int)}{s den k:Nat}(hl:∀x,x∈l->okU x)(hs:1<=s/\s<=1000000000000)(hd:1<=den/\den<=1000000)(hk:1<=k/\k<=1000000000001)(h:¬isS l s den k):upP l*s^den<dnP l*k^den:=by
 have hl2:=Ynd hl hs hd hk
 obtain⟨⟨a1,a2⟩,b1,b2⟩:=YaK (K:=KB) (g:=loN) (h:=hiN) (fun n k1 k2=>Ybt k1 k2) _ hl2
 have hlt:upS hiN (atF (l++[((s:Int),(den:Int))]) den k)<dnS loN (atF (l++[((s:Int),(den:Int))]) den k):=by
   rw[(at_S hiN hd.1).1,(at_S loN hd.1).2]
   exact Nat.lt_of_not_le h
 have:=Yaj a2 b1 hlt
 rwa [(at_P hd.1).1,(at_P hd.1).2]at this
theorem YdJ{t:Int->Bool}:∀(f:Nat)(a b:Int),a<b->b-a<=2^f->(bisL f t a b=a\/t (bisL f t a b)=true)/\(bisL f t a b+1=b\/t (bisL f t a b+1)=false):=by
 intro f
 induction f with
 |zero=>
   intro a b h1 h2
   rw[Int.pow_zero]at h2
   rw[bisL]
   exact⟨Or.inl rfl,Or.inl (by omega)⟩
 |succ f ih=>
   intro a b h1 h2
   rw[bisL]
   by_cases c:1<b-a
   . rw[if_pos c]
     have e:(2:Int)^(f+1)=2*2^f:=by rw[Int.pow_succ];omega
     rw[e]at h2
     by_cases d:t (a+(b-a)/2)=true
     . rw[if_pos d]
       obtain⟨i1,i2⟩:=ih (a+(b-a)/2) b (by omega) (by omega)
       refine⟨?_,i2⟩
       rcases i1 with i1|i1
       . exact Or.inr (by rw[i1];exact d)
       . exact Or.inr i1
     . rw[if_neg d]
       obtain⟨i1,i2⟩:=ih a (a+(b-a)/2) (by omega) (by omega)
       refine⟨i1,?_⟩
       rcases i2 with i2|i2
       . exact Or.inr (by rw[i2];simpa using d)
       . exact Or.inr i2
   . rw[if_neg c]
     exact⟨Or.inl rfl,Or.inl (by omega)⟩
theorem YeE{t:Int->Bool}:∀(f:Nat)(a b:Int),a<b->a<=bisL f t a b/\bisL f t a b<b:=by
 intro f
 induction f with
 |zero=>intro a b h;rw[bisL];omega
 |succ f ih=>
   intro a b h
   rw[bisL]
   by_cases c:1<b-a
   . rw[if_pos c]
     by_cases d:t (a+(b-a)/2)=true
     . rw[if_pos d]
       have:=ih (a+(b-a)/2) b (by omega)
       omega
     . rw[if_neg d]
       have:=ih a (a+(b-a)/2) (by omega)
       omega
   . rw[if_neg c];omega
theorem Yl9{l:List (Int×Int)}{s den B:Nat}(hc:Ycx l=0)(hl:∀x,x∈l->okU x)(hs:1<=s/\s<=1000000000000)(hd:1<=den/\den<=1000000)(hw:wide l s den)(hY:0<dnP l)
   (hB:upP l*s^den<dnP l*B^den)(hB2:B<=450000000):∃r:Nat,(Yd8 s l den).1=(r:Int)/\PowR l s den B r (Yd8 s l den).2.1:=by
 have hn:=(YiW hc).2
 obtain⟨f,hf⟩:∃f,f=isF (l++[((s:Int),(den:Int))]) (den:Int):=⟨_,rfl⟩
 have hfk:∀k:Nat,1<=k->k<=1000000000001->(f (k:Int)=true↔isS l s den k):=fun k h1 h2=>by
   rw[hf];exact isF_S hl hn hs hd ⟨h1,h2⟩
 have htop:f 1000000000001=false:=by
   cases hh:f 1000000000001 with
   |false=>rfl
   |true=>
     have:=YkR hl hn hs hd (k:=1000000000001) (by decide) hw hY hB hB2 ((hfk 1000000000001 (by decide) (by decide)).1 hh)
     exact absurd this.1 (by decide)
 have hbad:YiP (s:Int) (den:Int)=false:=by
   simp only[YiP,YE9,decide_eq_false_iff_not];omega
 have e1:Yd8 (s:Int) l (den:Int)=(bisL 64 f 0 1000000000001,decide (0<bisL 64 f 0 1000000000001)&&oneF (atF (l++[((s:Int),(den:Int))]) den (bisL 64 f 0 1000000000001)),0):=by
   unfold Yd8
   rw[if_neg (by rw[hc];decide),if_neg (by rw[hbad];decide)]
   unfold Yu1
   rw[<-hf,if_neg (by rw[htop];decide)]
 obtain⟨s1,s2⟩:=YdJ (t:=f) 64 0 1000000000001 (by decide) (by decide)
 have hr:=YeE (t:=f) 64 0 1000000000001 (by decide)
 rw[e1]
 generalize bisL 64 f 0 1000000000001=b at*
 obtain⟨r,rfl⟩:∃r:Nat,b=(r:Int):=⟨b.toNat,by omega⟩
 have hr1:1<=r->isS l s den r:=fun h=>by
   rcases s1 with c|c
   . omega
   . exact(hfk r h (by omega)).1 c
 have hlt:r<2^29/\(1<=r->(dnP l*r^den)^QJ<=(upP l*s^den)^QJ*2^(den*2^55)):=by
   rcases YFk r with h0|h0
   . exact⟨by omega,fun h=>by omega⟩
   . have:=YkR hl hn hs hd ⟨h0,by omega⟩ hw hY hB hB2 (hr1 h0)
     exact⟨this.1,fun _=>this.2⟩
 have hr2:¬isS l s den (r+1):=fun hh=>by
   have:=(hfk (r+1) (by omega) (by omega)).2 hh
   rcases s2 with c|c
   . omega
   . rw[YFH,show((1:Nat):Int)=1 from rfl,c]at this
     cases this
 have hup:=YvZ hl hs hd (k:=r+1) (by omega) hr2
 have hleB:r<=B:=by
   rcases YFk r with h0|h0
   . omega
   . have h1:=hlt.2 h0
     have h1':(dnP l*r^den)^QJ<=(upP l*s^den)^QJ*2^(den*(0*QJ+2^55)):=by rw[Nat.zero_mul,YFv];exact h1
     have h2:=Ydh (t:=2^40) (show 1<=QJ by rw[Ye9];decide) (by rw[Ye9];decide) (by decide) h1'
     have h3:dnP l*(r*2^40)^den<dnP l*(B*(2^0*(2^40+1)))^den:=by
       refine YFp h2 ?_
       rw[YEZ B,<-YEH]
       exact Nat.mul_lt_mul_of_pos_right hB (YFj (by decide))
     have h5:=(Nat.pow_lt_pow_iff_left (by omega)).1 (Nat.lt_of_mul_lt_mul_left h3)
     omega
 have hlt2:r+1<2^29:=by omega
 have hseg:∀k,1<=k->k<2^29->isS l s den k->k<=r:=fun k k1 k2 hk=>by
   refine Nat.le_of_not_lt fun hh=>hr2 ?_
   exact Yv0 (by omega) (show r+1<=k from hh) k2 hk
 refine⟨r,rfl,⟨hlt2,hleB,fun k k1 k2=>⟨hseg k k1 k2,fun hk=>?_⟩,hup,fun k k1 k2 hk=>?_,hlt.2,?_⟩⟩
 . exact Yv0 k1 hk hlt.1 (hr1 (by omega))
 . refine Classical.byContradiction fun hh=>?_
   have:¬isS l s den k:=fun h=>hh (hseg k k1 k2 h)
   have:=YvZ hl hs hd (k:=k) (by omega) this
   omega
 . rw[YEI,decide_eq_true_eq]
   by_cases h0:1<=r
   . rw[Yyp (Ynd hl hs hd ⟨h0,by omega⟩) (by simp [atF];omega),(at_P hd.1).1,(at_P hd.1).2]
     omega
   . omega
def UP(a b c:Int):Nat:=2^a.toNat*3^b.toNat*5^c.toNat
theorem YaA(a b c:Int):0<UP a b c:=YFm (YFm (YFj (by decide)) (YFj (by decide))) (YFj (by decide))
def Le0(a b c:Int):Prop:=UP a b c<=UP (-a) (-b) (-c)
theorem Ym4(a b c x y z:Int):UP (a+x) (b+y) (c+z)*(UP (-a) (-b) (-c)*UP (-x) (-y) (-z))=UP (-(a+x)) (-(b+y)) (-(c+z))*(UP a b c*UP x y z):=by
 have key:∀(p:Nat)(u v:Int),p^(u+v).toNat*(p^(-u).toNat*p^(-v).toNat)=p^(-(u+v)).toNat*(p^u.toNat*p^v.toNat):=fun p u v=>by
   rw[<-YEO,<-YEO,<-YEO,<-YEO];congr 1;omega
 have k2:=key 2 a x
 have k3:=key 3 b y
 have k5:=key 5 c z
 unfold UP
 generalize 2^(a+x).toNat=a1 at*
 generalize 2^(-(a+x)).toNat=a2 at*
 generalize 2^(-a).toNat=a3 at*
 generalize 2^(-x).toNat=a4 at*
 generalize 2^a.toNat=a5 at*
 generalize 2^x.toNat=a6 at*
 generalize 3^(b+y).toNat=b1 at*
 generalize 3^(-(b+y)).toNat=b2 at*
 generalize 3^(-b).toNat=b3 at*
 generalize 3^(-y).toNat=b4 at*
 generalize 3^b.toNat=b5 at*
 generalize 3^y.toNat=b6 at*
 generalize 5^(c+z).toNat=c1 at*
 generalize 5^(-(c+z)).toNat=c2 at*
 generalize 5^(-c).toNat=c3 at*
 generalize 5^(-z).toNat=c4 at*
 generalize 5^c.toNat=c5 at*
 generalize 5^z.toNat=c6 at*
 have e1:a1*b1*c1*(a3*b3*c3*(a4*b4*c4))=(a1*(a3*a4))*(b1*(b3*b4))*(c1*(c3*c4)):=by grind
 rw[e1,k2,k3,k5];grind
theorem Yrg{a b c x y z:Int}(h1:Le0 a b c)(h2:Le0 x y z):Le0 (a+x) (b+y) (c+z):=by
 unfold Le0 at*
 have e:=Ym4 a b c x y z
 have p1:=YaA (-a) (-b) (-c)
 have p2:=YaA (-x) (-y) (-z)
 refine YEY (c:=UP (-a) (-b) (-c)*UP (-x) (-y) (-z)) ?_ (YFm p1 p2)
 rw[e]
 exact YEG _ (YEV h1 h2)
theorem Ym5(m:Nat)(a b c:Int):UP (m*a) (m*b) (m*c)=UP a b c^m:=by
 have key:∀(p:Nat)(u:Int),p^((m:Int)*u).toNat=(p^u.toNat)^m:=fun p u=>by
   rw[<-YET]
   congr 1
   rcases Int.le_total 0 u with h|h
   . obtain⟨v,rfl⟩:∃v:Nat,u=v:=⟨u.toNat,by omega⟩
     rw[<-YFe,YEB,YEB,YEJ]
   . have h1:(m:Int)*u<=0:=Int.mul_nonpos_of_nonneg_of_nonpos (by omega) h
     rw[show u.toNat=0 by omega,show((m:Int)*u).toNat=0 by omega,Nat.zero_mul]
 unfold UP
 rw[key,key,key,YEZ,YEZ]
theorem Yde{m:Nat}(hm:1<=m){a b c:Int}:Le0 (m*a) (m*b) (m*c)↔Le0 a b c:=by
 unfold Le0
 rw[<-Int.mul_neg,<-Int.mul_neg,<-Int.mul_neg,Ym5,Ym5]
 exact Nat.pow_le_pow_iff_left (by omega)
theorem YeP{a b c:Int}(h:Le0 a b c):15*a<=24*(b.natAbs:Int)+35*(c.natAbs:Int):=by
 rcases Int.le_total a 0 with h0|h0
 . omega
 . unfold Le0 UP at h
   rw[show(-a).toNat=0 by omega,Nat.pow_zero,YFo]at h
   have h1:2^a.toNat<=3^(-b).toNat*5^(-c).toNat:=by
     refine YEQ ?_ h
     rw[YEH]
     exact Nat.le_mul_of_pos_right _ (YFm (YFj (by decide)) (YFj (by decide)))
   have h2:=YEP h1 15
   rw[YEZ,<-YET,<-YET,<-YET,YEJ _ 15,YEJ _ 15,YEJ _ 15,YET 3,YET 5]at h2
   have h3:(3^15)^(-b).toNat<=(2^24)^(-b).toNat:=YEP (by decide) _
   have h5:(5^15)^(-c).toNat<=(2^35)^(-c).toNat:=YEP (by decide) _
   have h6:=YEQ h2 (YEV h3 h5)
   rw[<-YET,<-YET,<-YEO]at h6
   have:=LB.pow_of_le h6
   omega
theorem YsM(p:Nat)(n:Int):upP (tm1 (p:Int) n)=p^n.toNat/\dnP (tm1 (p:Int) n)=p^(-n).toNat:=by
 unfold tm1
 split
 . rename_i h
   rw[h]
   simp [upP,dnP]
 . by_cases c:n<0
   . simp only[upP,dnP,if_pos c,YEB,YFI]
     exact⟨by rw[show n.toNat=0 by omega,Nat.pow_zero],trivial⟩
   . simp only[upP,dnP,if_neg c,YEB,YFI]
     exact⟨trivial,by rw[show(-n).toNat=0 by omega,Nat.pow_zero]⟩
theorem Ylw{L:Int}{r:Rt}{a b c:Int}(h:Rep L r a b c):upP (Yg r)=UP r.a r.b r.c/\dnP (Yg r)=UP (-r.a) (-r.b) (-r.c):=by
 have z:∀p:Int,tm1 p 0=[]:=fun p=>rfl
 unfold Yg
 rw[h.hd,h.he,h.hf,z,z,z]
 simp only[List.append_nil]
 rw[(Yav _ _).1,(Yav _ _).1,(Yav _ _).2,(Yav _ _).2]
 have t2:=YsM 2 r.a
 have t3:=YsM 3 r.b
 have t5:=YsM 5 r.c
 unfold UP
 rw[<-t2.1,<-t2.2,<-t3.1,<-t3.2,<-t5.1,<-t5.2]
 exact⟨(YEH ..).symm,(YEH ..).symm⟩
theorem YsN(w:Nat->Nat)(p:Nat)(n:Int):upS w (tm1 (p:Int) n)+dnS w (tm1 (p:Int) n)=w p*n.natAbs:=by
 unfold tm1
 split
 . rename_i h
   rw[h]
   simp [upS,dnS]
 . by_cases c:n<0
   . simp only[upS,dnS,if_pos c,YEB]
     rw[show(-n).toNat=n.natAbs by omega];omega
   . simp only[upS,dnS,if_neg c,YEB]
     rw[show n.toNat=n.natAbs by omega];omega
theorem wP_2:wP 2=0:=rfl
theorem wP_3:wP 3=1:=rfl
theorem wP_5:wP 5=1:=rfl
theorem Yio{L:Int}{r:Rt}{a b c:Int}(h:Rep L r a b c):upS wP (Yg r)+dnS wP (Yg r)<=200000:=by
 have z:∀p:Int,tm1 p 0=[]:=fun p=>rfl
 unfold Yg
 rw[h.hd,h.he,h.hf,z,z,z]
 simp only[List.append_nil]
 rw[(Y7 wP _ _).1,(Y7 wP _ _).1,(Y7 wP _ _).2,(Y7 wP _ _).2]
 have t2:=YsN wP 2 r.a
 have t3:=YsN wP 3 r.b
 have t5:=YsN wP 5 r.c
 rw[wP_2]at t2
 rw[wP_3]at t3
 rw[wP_5]at t5
 obtain⟨_,b1,b2,b3,_⟩:=Yff h.ok
 have b2:=YbY b2
 have b3:=YbY b3
 have e2:((2:Nat):Int)=2:=rfl
 have e3:((3:Nat):Int)=3:=rfl
 have e5:((5:Nat):Int)=5:=rfl
 rw[e2]at t2
 rw[e3]at t3
 rw[e5]at t5
 omega
theorem Yy7{l:List (Int×Int)}(hl:∀x,x∈l->okU x)(hn:l.length<=20)(h:0<=Yaz l):dnP l^QJ<=upP l^QJ*2^(upS wP l+dnS wP l):=by
 have h2:=(Yhk hl hn).1 h
 by_cases c:dnP l<=upP l
 . exact YEQ (YEP c _) (Nat.le_mul_of_pos_right _ (Yaa _))
 . have hu:Und l 2048:=by
     refine⟨Nat.le_of_not_lt fun hh=>?_,h2⟩
     obtain⟨⟨a1,a2⟩,b1,b2⟩:=YaK (K:=KB) (g:=loN) (h:=hiN) (fun n k1 k2=>Ybt k1 k2) _ hl
     have:=Yaj b2 a1 hh
     omega
   have:=Yot (J:=100) (w:=wP) (by decide) hl (fun x hx=>YwC (YbP (hl x hx)).1 (YnY (hl x hx))) hu
   rw[<-Ye9]at this
   exact this
theorem YDw{l:List (Int×Int)}(hl:∀x,x∈l->okU x)(hn:l.length<=20)(h:¬0<=Yaz l):upP l<dnP l:=by
 obtain⟨⟨a1,a2⟩,b1,b2⟩:=YaK (K:=KB) (g:=loN) (h:=hiN) (fun n k1 k2=>Ybt k1 k2) _ hl
 exact Yaj a2 b1 (Nat.lt_of_not_le fun hh=>h ((Yhk hl hn).2 hh))
theorem Rep.cast{L:Int}{r:Rt}{a b c a' b' c':Int}(h:Rep L r a b c)(ea:a=a')(eb:b=b')(ec:c=c'):Rep L r a' b' c':=by
 subst ea eb ec;exact h
theorem YeQ{a b c a' b' c':Int}(h:Le0 a b c)(ea:a=a')(eb:b=b')(ec:c=c'):Le0 a' b' c':=by
 subst ea eb ec;exact h
theorem UP_2(n:Nat):UP n 0 0=2^n/\UP (-(n:Int)) 0 0=1:=by
 unfold UP
 rw[show(-(n:Int)).toNat=0 by omega]
 simp
theorem Yrh{x y z:Int}{n:Nat}(h:UP (-x) (-y) (-z)<=UP x y z*2^n):Le0 (-x+ -(n:Int)) (-y) (-z):=by
 have e:=Ym4 (-x) (-y) (-z) (-(n:Int)) 0 0
 rw[Int.neg_neg,Int.neg_neg,Int.neg_neg,Int.neg_neg,Int.neg_zero,Int.add_zero,Int.add_zero,(UP_2 n).1,(UP_2 n).2,YFI]at e
 unfold Le0
 refine YEY (c:=UP x y z*2^n) ?_ (YFm (YaA _ _ _) (Yaa n))
 rw[e]
 exact YEG _ h
theorem Ylv(l:List (Int×Int))(e:Int):upP (l++[(2,e)])=upP l*UP e 0 0/\dnP (l++[(2,e)])=dnP l*UP (-e) 0 0:=by
 rw[(Yav _ _).1,(Yav _ _).2]
 have h:upP [(2,e)]=UP e 0 0/\dnP [(2,e)]=UP (-e) 0 0:=by
   unfold UP
   by_cases c:e<0
   . simp only[upP,dnP,if_pos c]
     rw[show e.toNat=0 by omega]
     simp
   . simp only[upP,dnP,if_neg c]
     rw[show(-e).toNat=0 by omega]
     simp
 rw[h.1,h.2]
 exact⟨rfl,rfl⟩
theorem YjW{r:Rt}(h:chkR r=0):∀x,x∈Yg r->2<=x.1/\x.1<=13/\ -100000<=x.2/\x.2<=100000:=by
 intro x hx
 have h2:=Yim h x hx
 have key:∀(p n:Int),x∈tm1 p n->x.1=p:=fun p n hx=>by
   unfold tm1 at hx
   split at hx
   . cases hx
   . rw[YFg]at hx;rw[hx]
 simp only[Yg,YE3]at hx
 rcases hx with hx|hx|hx|hx|hx|hx
 all_goals (have:=key _ _ hx;omega)
theorem YsG{r:Rt}(h:chkR r=0):Ycx (Yg r)=0:=by
 unfold Ycx
 have:=YbB r
 rw[if_neg (by omega),if_neg]
 rw[List.any_eq_true]
 rintro⟨x,hx,ho⟩
 have:=YjW h x hx
 simp only[okT0,YFn,decide_eq_true_eq]at ho
 omega
theorem scl_1(l:List (Int×Int)):l.map (sclT 1)=l:=by
 have:sclT 1=id:=by funext x;unfold sclT;simp
 rw[this,List.map_id]
theorem Yuh{L:Int}{r:Rt}{a b c:Int}(hL:1<=L/\L<=1000)(h:Rep L r a b c)(sa:sm a)(sb:sm b)(sc:sm c)(hz:24*(b.natAbs:Int)+35*(c.natAbs:Int)<=15*(100000-L)):
   ∃k:Int,(Yc6 r).2.2=0/\Rep L (Yc6 r).1 (a-k*L) b c/\Le0 (a-k*L-L) b c/\Le0 (8* -(a-k*L)-L) (8* -b) (8* -c):=by
 have hn:=h.n_rng
 obtain⟨tu,td⟩:=Ylw h
 have tw:=Yio h
 have hlen:=YbB r
 obtain⟨n,hnn⟩:∃n:Nat,r.n=n:=⟨r.n.toNat,by omega⟩
 obtain⟨M,hM⟩:∃M:Nat,L=M:=⟨L.toNat,by omega⟩
 --what the sign says
 have okl:∀m:Int, -1000000000000<=m->m<=1000000000001->∀x,x∈atG (Yg r) r.n m->okU x:=fun m m1 m2 x hx=>by
   rw[atG,YE3,YFg]at hx
   rcases hx with hx|rfl
   . have:=YjW h.ok x hx
     unfold okU;omega
   . have:=Yam (x:= -m) (y:=r.n) (X:=1000000000001) (Y:=1000) (by omega) (by omega)
     unfold okU;simp only;omega
 have lenl:∀m:Int,(atG (Yg r) r.n m).length<=20:=fun m=>by rw[atG,YE8];simp;omega
 have idn:∀e:Int,UP (r.a+e) r.b r.c*(dnP (Yg r++[(2,e)]))=UP (-(r.a+e)) (-r.b) (-r.c)*upP (Yg r++[(2,e)]):=fun e=>by
   have:=Ym4 r.a r.b r.c e 0 0
   rw[Int.add_zero,Int.add_zero,Int.neg_zero]at this
   rw[(Ylv _ _).1,(Ylv _ _).2,tu,td]
   exact this
 have pos:∀e:Int,0<upP (Yg r++[(2,e)])/\0<dnP (Yg r++[(2,e)]):=fun e=>by
   rw[(Ylv _ _).1,(Ylv _ _).2,tu,td]
   exact⟨YFm (YaA _ _ _) (YaA _ _ _),YFm (YaA _ _ _) (YaA _ _ _)⟩
 have scale:∀m x:Int,x*L=(a-m*L)*r.n->∀{y z:Int},y*L=b*r.n->z*L=c*r.n->(Le0 x y z->Le0 (a-m*L) b c):=fun m x hx y z hy hz h0=>by
   have h1:=(Yde (m:=M) (by omega)).2 h0
   rw[<-hM,Int.mul_comm L x,Int.mul_comm L y,Int.mul_comm L z,hx,hy,hz,Int.mul_comm _ r.n,Int.mul_comm _ r.n,Int.mul_comm _ r.n,hnn]at h1
   exact(Yde (m:=n) (by omega)).1 h1
 have neg:∀m:Int, -1000000000000<=m->m<=1000000000001->isG (Yg r) r.n m=false->Le0 (a-m*L) b c:=fun m m1 m2 hm=>by
   rw[isG,decide_eq_false_iff_not]at hm
   have h1:=YDw (okl m m1 m2) (lenl m) hm
   refine scale m (r.a+ -m*r.n) ?_ h.hb h.hc ?_
   . have:=h.ha;grind
   . unfold Le0
     have e:=idn (-m*r.n)
     have p:=pos (-m*r.n)
     refine YEY (c:=upP (Yg r++[(2, -m*r.n)])) ?_ p.1
     rw[<-e]
     exact YEG _ (YFJ h1)
 have posi:∀m:Int, -1000000000000<=m->m<=1000000000001->isG (Yg r) r.n m=true->Le0 (8* -(a-m*L)-L) (8* -b) (8* -c):=fun m m1 m2 hm=>by
   rw[isG,decide_eq_true_eq]at hm
   have h1:=Yy7 (okl m m1 m2) (lenl m) hm
   have hE:upS wP (atG (Yg r) r.n m)+dnS wP (atG (Yg r) r.n m)<=200000:=by
     rw[atG,(Y7 wP _ _).1,(Y7 wP _ _).2]
     have:upS wP [(2, -m*r.n)]+dnS wP [(2, -m*r.n)]=0:=by
       unfold upS dnS upS dnS
       have:wP (2:Int).toNat=0:=rfl
       simp only[this,Nat.zero_mul,ite_self]
     omega
   have e:=idn (-m*r.n)
   have p:=pos (-m*r.n)
   have hu:upP (atG (Yg r) r.n m)=upP (Yg r++[(2, -m*r.n)]):=rfl
   have hd:dnP (atG (Yg r) r.n m)=dnP (Yg r++[(2, -m*r.n)]):=rfl
   rw[hu,hd]at h1
   have h2:UP (-(8*(r.a+ -m*r.n))) (-(8*r.b)) (-(8*r.c))<=UP (8*(r.a+ -m*r.n)) (8*r.b) (8*r.c)*2^n:=by
     have e8:∀x y z:Int,UP (8*x) (8*y) (8*z)=UP x y z^8:=fun x y z=>Ym5 8 x y z
     rw[<-Int.mul_neg,<-Int.mul_neg,<-Int.mul_neg,e8,e8]
     have hQ0:QJ≠0:=by rw[Ye9];have:=Yaa 100;omega
     rw[<-Nat.pow_le_pow_iff_left hQ0]
     refine YEY (c:=(upP (Yg r++[(2, -m*r.n)])^QJ)^8) ?_ (YFj (YFj p.1))
     have h3:(2^(upS wP (atG (Yg r) r.n m)+dnS wP (atG (Yg r) r.n m)))^8<=(2^n)^QJ:=by
       rw[<-YET,<-YET]
       refine YE7 (by decide) (YEQ (YEF 8 hE) ?_)
       have:1*QJ<=n*QJ:=YEF QJ (by omega)
       have:1600000<=QJ:=by rw[Ye9];decide
       omega
     have h4:=YEP h1 8
     rw[YEZ]at h4
     have e2:=congrArg (fun z=>(z^QJ)^8) e
     simp only[YEZ]at e2
     have c1:∀x:Nat,(x^8)^QJ=(x^QJ)^8:=fun x=>by rw[<-YET,<-YET,YEJ]
     rw[c1,YEZ,c1]
     have e3:=YEG ((UP (r.a+ -m*r.n) r.b r.c^QJ)^8) (YEQ h4 (YEG _ h3))
     rw[e2]at e3
     refine YEQ e3 (YFA ?_)
     rw[<-YEH,Nat.mul_right_comm]
   have h5:=Yrh h2
   have h6:=(Yde (m:=M) (by omega)).2 h5
   refine(Yde (m:=n) (by omega)).1 (YeQ h6 ?_ ?_ ?_)
   . rw[<-hM,<-hnn];have:=h.ha;grind
   . rw[<-hM,<-hnn];have:=h.hb;grind
   . rw[<-hM,<-hnn];have:=h.hc;grind
 have bd:=fun m hm1 hm2 hx=>YeP (neg m hm1 hm2 hx)
 have bp:=fun m hm1 hm2 hx=>YeP (posi m hm1 hm2 hx)
 unfold sm at*
 have htop:isG (Yg r) r.n 1000000000001=false:=by
   cases hh:isG (Yg r) r.n 1000000000001 with
   |false=>rfl
   |true=>
     have:=bp 1000000000001 (by decide) (by decide) hh
     omega
 have hbot:isG (Yg r) r.n (-1000000000000)=true:=by
   cases hh:isG (Yg r) r.n (-1000000000000)with
   |true=>rfl
   |false=>
     have:=bd (-1000000000000) (by decide) (by decide) hh
     omega
 have hfl:flrF (Yg r) r.n 1=(bisL 64 (isG (Yg r) r.n) (-1000000000000) 1000000000001,oneF (atG (Yg r) r.n (bisL 64 (isG (Yg r) r.n) (-1000000000000) 1000000000001)),0):=by
   unfold flrF
   rw[if_neg (by rw[YsG h.ok];decide),if_neg,scl_1]
   . unfold flrG
     rw[if_neg (by rw[htop,hbot];decide)]
   . simp only[YoB,YFn,decide_eq_true_eq];omega
 obtain⟨s1,s2⟩:=YdJ (t:=isG (Yg r) r.n) 64 (-1000000000000) 1000000000001 (by decide) (by decide)
 have hr:=YeE (t:=isG (Yg r) r.n) 64 (-1000000000000) 1000000000001 (by decide)
 generalize bisL 64 (isG (Yg r) r.n) (-1000000000000) 1000000000001=k at*
 have hk:isG (Yg r) r.n k=true:=by
   rcases s1 with e|e
   . rw[e];exact hbot
   . exact e
 have hk1:isG (Yg r) r.n (k+1)=false:=by
   rcases s2 with e|e
   . rw[e];exact htop
   . exact e
 have l1:=neg (k+1) (by omega) (by omega) hk1
 have l2:=posi k (by omega) (by omega) hk
 have b1:=bd (k+1) (by omega) (by omega) hk1
 have b2:=bp k (by omega) (by omega) hk
 rw[Int.add_mul,Int.one_mul]at b1 l1
 have hm:=Yjv (x:=offR r k) (a:=a-k*L) hL hn.1 (by show(r.a-k*r.n)*L=(a-k*L)*r.n;have:=h.ha;grind) h.hb h.hc h.hd h.he h.hf (by unfold sm;omega) sb sc
 refine⟨k,?_⟩
 unfold Yc6
 rw[if_neg (by rw[h.ok];decide),hfl]
 simp only
 rw[if_neg (by rw[hm.1];decide)]
 exact⟨rfl,hm.2,YeQ l1 (by omega) rfl rfl,l2⟩
theorem Ym8{T:Tm}:∀{k i:Nat},i<k->allT T k<=120->(T.p i).2.toNat∣allT T k
 |k+1,i,hi,h=>by
   rw[allT]at h⊢
   by_cases c:allT T k<=120
   . rw[if_pos c]at h⊢
     by_cases e:i=k
     . rw[e];exact Nat.dvd_mul_left ..
     . have ih:=Ym8 (T:=T) (show i<k by omega) c
       refine Nat.dvd_trans ih ?_
       obtain⟨x,hx⟩:=Nat.gcd_dvd_left (allT T k) (T.p k).2.toNat
       obtain⟨y,hy⟩:=Nat.gcd_dvd_right (allT T k) (T.p k).2.toNat
       generalize YFt (allT T k) (T.p k).2.toNat=g at*
       refine⟨y,?_⟩
       rcases YFk g with h0|h0
       . rw[h0,Nat.zero_mul]at hx hy
         rw[hx,hy,h0]
         simp
       . rw[hx,hy,Nat.mul_div_cancel_left _ h0]
         simp only[YEH,YEX]
   . rw[if_neg c]at h
     exact absurd h c
def Lm(T:Tm):Int:=allT T 12
def tI(T:Tm)(i:Nat):Int:=(T.p i).1*(Lm T/(T.p i).2)
def cA(T:Tm):Int:=if T.syn=true then -4 else -19
def cB(T:Tm):Int:=if T.syn=true then 4 else 12
def cC(T:Tm):Int:=if T.syn=true then -1 else 0
def bB(T:Tm):Int:=if T.syn=true then 9 else 25
def bC(T:Tm):Int:=if T.syn=true then 2 else 0
theorem Ynq(T:Tm):YeG T=⟨cA T,cB T,cC T,0,0,0,1⟩:=by
 unfold YeG cA cB cC
 split
 . decide+kernel
 . decide+kernel
theorem of_32:(ofRF 3 2).1=⟨-1,1,0,0,0,0,1⟩:=by decide+kernel
theorem YCt:(ofRF 128 1).1=⟨7,0,0,0,0,0,1⟩:=by decide+kernel
theorem of_11:(ofRF 1 1).1=⟨0,0,0,0,0,0,1⟩:=by decide+kernel
theorem YcT{T:Tm}(h:Y4 T=0):1<=Lm T/\Lm T<=120:=by
 obtain⟨_,h1,_,_,_,h2⟩:=Yeg h
 have:=(YdH (T:=T) (i:=12) h1).1
 unfold Lm;omega
theorem Yws{T:Tm}(h:Y4 T=0){i:Nat}(hi:i<12): -2*Lm T<=tI T i/\tI T i<=2*Lm T/\(Lm T/(T.p i).2)*(T.p i).2=Lm T:=by
 obtain⟨_,h1,_,_,_,h2⟩:=Yeg h
 obtain⟨b1,b2,b3⟩:=YhN (h1 i hi)
 have hL:=YcT h
 have hd:(T.p i).2∣Lm T:=by
   have:=Int.natCast_dvd_natCast.2 (Ym8 hi h2)
   rwa [YFa (by omega)]at this
 have he:=Int.ediv_mul_cancel hd
 have hm:0<=Lm T/(T.p i).2:=Int.ediv_nonneg (by omega) (by omega)
 unfold tI
 generalize Lm T/(T.p i).2=m at*
 have k1:=YE1 b2 hm
 have k2:=YE1 b3 hm
 have e1: -2*(T.p i).2*m= -2*Lm T:=by rw[<-he];grind
 have e2:2*(T.p i).2*m=2*Lm T:=by rw[<-he];grind
 exact⟨by omega,by omega,he⟩
theorem Yyw{T:Tm}(h:Y4 T=0){i:Nat}(hi:i<12):Rep (Lm T) (pwrF (YeG T) (T.p i).1 (T.p i).2).1 (cA T*tI T i) (cB T*tI T i) (cC T*tI T i):=by
 have hL:=YcT h
 obtain⟨t1,t2,t3⟩:=Yws h hi
 obtain⟨_,h1,_,_,_,h2⟩:=Yeg h
 obtain⟨b1,b2,b3⟩:=YhN (h1 i hi)
 have hk:chkR (YeG T)=0:=by
   rw[Ynq];unfold cA cB cC;cases T.syn <;> decide+kernel
 have hbad:YlM (T.p i).1 (T.p i).2=false:=by
   simp only[YlM,YE9,decide_eq_false_iff_not];omega
 have e:pwrF (YeG T) (T.p i).1 (T.p i).2=powN (YeG T) (T.p i).1 (T.p i).2:=by
   unfold pwrF
   rw[if_neg (by rw[hk];decide),if_neg (by rw[hbad];decide),if_neg (by omega)]
 rw[e,powN,Ynq]
 have key:∀v:Int,v*(T.p i).1*Lm T=v*tI T i*(1*(T.p i).2):=fun v=>by
   unfold tI
   have e1:v*(T.p i).1*Lm T=v*(T.p i).1*(Lm T/(T.p i).2*(T.p i).2):=by rw[t3]
   rw[e1];grind
 have smv:∀v:Int, -19<=v->v<=19->sm (v*tI T i):=fun v v1 v2=>by
   have:=Yam (x:=v) (y:=tI T i) (X:=19) (Y:=240) ⟨v1,v2⟩ (by omega)
   unfold sm;omega
 have rA: -19<=cA T/\cA T<=19:=by unfold cA;split <;> omega
 have rB: -19<=cB T/\cB T<=19:=by unfold cB;split <;> omega
 have rC: -19<=cC T/\cC T<=19:=by unfold cC;split <;> omega
 exact(Yjv (L:=Lm T) (by omega) (by simp only;omega) (key _) (key _) (key _) (by simp) (by simp) (by simp) (smv _ rA.1 rA.2) (smv _ rB.1 rB.2) (smv _ rC.1 rC.2)).2
def fA(T:Tm)(i:Nat):Int:= -Lm T-cA T*tI T i
def fB(T:Tm)(i:Nat):Int:=Lm T-cB T*tI T i
def fC(T:Tm)(i:Nat):Int:= -(cC T*tI T i)
theorem Yuc{T:Tm}(h:Y4 T=0){i:Nat}(hi:i<12):(-(39*Lm T)<=fA T i/\fA T i<=39*Lm T)/\(-(bB T*Lm T)<=fB T i/\fB T i<=bB T*Lm T)/\ -(bC T*Lm T)<=fC T i/\fC T i<=bC T*Lm T:=by
 have hL:=YcT h
 obtain⟨t1,t2,_⟩:=Yws h hi
 unfold fA fB fC cA cB cC bB bC
 split <;> omega
theorem YqN{T:Tm}(h:Y4 T=0){i:Nat}(hi:i<12):Rep (Lm T) (fifR T i) (fA T i) (fB T i) (fC T i):=by
 have hL:=YcT h
 have r32:Rep (Lm T) (ofRF 3 2).1 (-Lm T) (Lm T) 0:=by
   rw[of_32]
   exact⟨by decide+kernel,by simp,by simp,by simp,rfl,rfl,rfl⟩
 have hf:=Yuc h hi
 have hb:bB T<=25/\bC T<=2/\0<=bB T/\0<=bC T:=by unfold bB bC;split <;> omega
 have m1:=YE1 hb.1 (show 0<=Lm T by omega)
 have m2:=YE1 hb.2.1 (show 0<=Lm T by omega)
 have e1: -Lm T+ -1*(cA T*tI T i)=fA T i:=by unfold fA;omega
 have e2:Lm T+ -1*(cB T*tI T i)=fB T i:=by unfold fB;omega
 have e3:0+ -1*(cC T*tI T i)=fC T i:=by unfold fC;omega
 have:=(Yga (s:= -1) (by omega) r32 (Yyw h hi) (by rw[e1];unfold sm;omega) (by rw[e2];unfold sm;omega) (by rw[e3];unfold sm;omega)).2
 exact this.cast e1 e2 e3
def sumF(f:Nat->Int)(w:Int):Nat->Int
 |0=>0
 |i+1=>sumF f w i+(if(i:Int)=w then 0 else f i)
theorem YjR{f:Nat->Int}{w B:Int}(hB:0<=B)(h:∀i,i<12-> -B<=f i/\f i<=B)(i:Nat):∀d,i+d<=12-> -(B*d)<=sumF f w (i+d)-sumF f w i/\sumF f w (i+d)-sumF f w i<=B*d
 |0,_=>by simp
 |d+1,hd=>by
   have ih:=YjR hB h (w:=w) i d (by omega)
   rw[<-Nat.add_assoc,sumF]
   have:=h (i+d) (by omega)
   have e:B*((d+1:Nat):Int)=B*d+B:=by rw[YFH,Int.mul_add];simp
   rw[e]
   split <;> omega
def gA(T:Tm)(i:Nat):Int:=sumF (fA T) T.wolf i
def gB(T:Tm)(i:Nat):Int:=sumF (fB T) T.wolf i
def gC(T:Tm)(i:Nat):Int:=sumF (fC T) T.wolf i
theorem YhM{T:Tm}(h:Y4 T=0):0<=bB T*Lm T/\bB T*Lm T<=3000/\0<=bC T*Lm T/\bC T*Lm T<=240:=by
 have hL:=YcT h
 have hb:bB T<=25/\bC T<=2/\0<=bB T/\0<=bC T:=by unfold bB bC;split <;> omega
 have m1:=YE1 hb.1 (show 0<=Lm T by omega)
 have m2:=YE1 hb.2.1 (show 0<=Lm T by omega)
 exact⟨YEL hb.2.2.1 (by omega),by omega,YEL hb.2.2.2 (by omega),by omega⟩
theorem g_bd{T:Tm}(h:Y4 T=0)(i d:Nat)(hd:i+d<=12):(-(39*Lm T*d)<=gA T (i+d)-gA T i/\gA T (i+d)-gA T i<=39*Lm T*d)/\(-(bB T*Lm T*d)<=gB T (i+d)-gB T i/\gB T (i+d)-gB T i<=bB T*Lm T*d)/\ -(bC T*Lm T*d)<=gC T (i+d)-gC T i/\gC T (i+d)-gC T i<=bC T*Lm T*d:=by
 have hL:=YcT h
 have hb:=YhM h
 exact⟨YjR (by omega) (fun j hj=>(Yuc h hj).1) i d hd,YjR hb.1 (fun j hj=>(Yuc h hj).2.1) i d hd,YjR hb.2.2.1 (fun j hj=>(Yuc h hj).2.2) i d hd⟩
theorem Yjw{B:Int}{d n:Nat}(hB:0<=B)(h:d<=n):B*d<=B*n:=YEM (by omega) hB
theorem Yoe{T:Tm}(h:Y4 T=0):∀i,i<=12->Rep (Lm T) (YaX T i) (7*Lm T-gA T i) (-gB T i) (-gC T i)
 |0,_=>by
   rw[YaX,YCt]
   exact⟨by decide+kernel,by show 7*Lm T=(7*Lm T-0)*1;omega,by show 0*Lm T=(-0)*1;simp,by show 0*Lm T=(-0)*1;simp,rfl,rfl,rfl⟩
 |i+1,hi=>by
   have ih:=Yoe h i (by omega)
   have hL:=YcT h
   have hb:=YhM h
   have bd:=g_bd h 0 (i+1) (by omega)
   have z:gA T 0=0/\gB T 0=0/\gC T 0=0:=⟨rfl,rfl,rfl⟩
   rw[YFv,z.1,z.2.1,z.2.2]at bd
   have m1:=Yjw (show 0<=39*Lm T by omega) hi
   have m2:=Yjw hb.1 hi
   have m3:=Yjw hb.2.2.1 hi
   rw[YaX]
   by_cases c:(i:Int)=T.wolf
   . rw[if_pos c]
     refine ih.cast ?_ ?_ ?_
     . unfold gA;rw[sumF,if_pos c];omega
     . unfold gB;rw[sumF,if_pos c];omega
     . unfold gC;rw[sumF,if_pos c];omega
   . rw[if_neg c]
     have e1:7*Lm T-gA T i+ -1*fA T i=7*Lm T-gA T (i+1):=by unfold gA;rw[sumF,if_neg c];omega
     have e2: -gB T i+ -1*fB T i= -gB T (i+1):=by unfold gB;rw[sumF,if_neg c];omega
     have e3: -gC T i+ -1*fC T i= -gC T (i+1):=by unfold gC;rw[sumF,if_neg c];omega
     have:=(Yga (s:= -1) (by omega) ih (YqN h (show i<12 by omega)) (by rw[e1];unfold sm;omega) (by rw[e2];unfold sm;omega) (by rw[e3];unfold sm;omega)).2
     exact this.cast e1 e2 e3
def sA(T:Tm)(i:Nat):Int:=gA T i+(if T.wolf<i then 7*Lm T-gA T 12 else 0)
def sB(T:Tm)(i:Nat):Int:=gB T i+(if T.wolf<i then -gB T 12 else 0)
def sC(T:Tm)(i:Nat):Int:=gC T i+(if T.wolf<i then -gC T 12 else 0)
theorem s_bd{T:Tm}(h:Y4 T=0){i m:Nat}(hi:i<=12)(hm:i<=T.wolf->i<=m)(hm2:T.wolf<i->12-i<=m):(-(39*Lm T*12)-7*Lm T<=sA T i/\sA T i<=39*Lm T*12+7*Lm T)/\(-(bB T*Lm T*m)<=sB T i/\sB T i<=bB T*Lm T*m)/\ -(bC T*Lm T*m)<=sC T i/\sC T i<=bC T*Lm T*m:=by
 have hL:=YcT h
 have hb:=YhM h
 unfold sA sB sC
 by_cases c:T.wolf<i
 . have bd:=g_bd h i (12-i) (by omega)
   rw[show i+(12-i)=12 by omega]at bd
   rw[if_pos c,if_pos c,if_pos c]
   have m1:=Yjw (show 0<=39*Lm T by omega) (show 12-i<=12 by omega)
   have m2:=Yjw hb.1 (hm2 c)
   have m3:=Yjw hb.2.2.1 (hm2 c)
   omega
 . have bd:=g_bd h 0 i (by omega)
   have z:gA T 0=0/\gB T 0=0/\gC T 0=0:=⟨rfl,rfl,rfl⟩
   rw[YFv,z.1,z.2.1,z.2.2]at bd
   rw[if_neg c,if_neg c,if_neg c]
   have m1:=Yjw (show 0<=39*Lm T by omega) hi
   have m2:=Yjw hb.1 (hm (by omega))
   have m3:=Yjw hb.2.2.1 (hm (by omega))
   omega
theorem YoI{T:Tm}(h:Y4 T=0){k:Nat}(hk:k<12):Rep (Lm T) (YbK T k) (sA T (k+1)-sA T k) (sB T (k+1)-sB T k) (sC T (k+1)-sC T k):=by
 obtain⟨hw,_⟩:=Yeg h
 unfold YbK
 by_cases c:k=T.wolf.toNat
 . rw[if_pos c]
   have c2:(k:Int)=T.wolf:=by omega
   have w1:T.wolf<((k+1:Nat):Int):=by omega
   have w2:¬T.wolf<(k:Int):=by omega
   have gw:∀f:Nat->Int,sumF f T.wolf (k+1)=sumF f T.wolf k:=fun f=>by rw[sumF,if_pos c2,Int.add_zero]
   refine(Yoe h 12 (by decide)).cast ?_ ?_ ?_
   . unfold sA;rw[if_pos w1,if_neg w2];unfold gA;rw[gw];omega
   . unfold sB;rw[if_pos w1,if_neg w2];unfold gB;rw[gw];omega
   . unfold sC;rw[if_pos w1,if_neg w2];unfold gC;rw[gw];omega
 . rw[if_neg c,fifL,if_pos hk]
   have c2:¬(k:Int)=T.wolf:=by omega
   rw[if_neg c2]
   refine(YqN h hk).cast ?_ ?_ ?_
   . unfold sA gA;rw[sumF,if_neg c2];split <;> split <;> omega
   . unfold sB gB;rw[sumF,if_neg c2];split <;> split <;> omega
   . unfold sC gC;rw[sumF,if_neg c2];split <;> split <;> omega
theorem Yn4{T:Tm}(h:Y4 T=0):∀i,i<=12->Rep (Lm T) (notL T i).2 (sA T i) (sB T i) (sC T i)
 |0,_=>by
   obtain⟨hw,_⟩:=Yeg h
   rw[notL]
   show Rep (Lm T) (ofRF 1 1).1 _ _ _
   rw[of_11]
   have c:¬T.wolf<((0:Nat):Int):=by omega
   refine⟨by decide+kernel,?_,?_,?_,rfl,rfl,rfl⟩
   . show 0*Lm T=sA T 0*1
     unfold sA;rw[if_neg c];unfold gA sumF;simp
   . show 0*Lm T=sB T 0*1
     unfold sB;rw[if_neg c];unfold gB sumF;simp
   . show 0*Lm T=sC T 0*1
     unfold sC;rw[if_neg c];unfold gC sumF;simp
 |i+1,hi=>by
   have ih:=Yn4 h i (by omega)
   have hL:=YcT h
   have hb:=YhM h
   have bd:=s_bd h (i:=i+1) (m:=12) (by omega) (by omega) (by omega)
   rw[notL]
   show Rep (Lm T) (Ya6 (notL T i).2 (YbK T i) 1).1 _ _ _
   have e1:sA T i+1*(sA T (i+1)-sA T i)=sA T (i+1):=by omega
   have e2:sB T i+1*(sB T (i+1)-sB T i)=sB T (i+1):=by omega
   have e3:sC T i+1*(sC T (i+1)-sC T i)=sC T (i+1):=by omega
   have:=(Yga (s:=1) (by omega) ih (YoI h (show i<12 by omega)) (by rw[e1];unfold sm;omega) (by rw[e2];unfold sm;omega) (by rw[e3];unfold sm;omega)).2
   exact this.cast e1 e2 e3
theorem YrT(T:Tm):∀i j,j<i->i<=12->(notL T i).1 (7*j%12)=(Yc6 (notL T j).2).1
 |i+1,j,hj,hi=>by
   rw[notL]
   show Ysq (notL T i).1 (7*i%12) (Yc6 (notL T i).2).1 (7*j%12)=_
   unfold Ysq
   by_cases c:j=i
   . subst c;rw[if_pos rfl]
   . rw[if_neg (by omega)]
     exact YrT T i j (by omega) (by omega)
theorem Yk5{T:Tm}(h:Y4 T=0){j:Nat}(hj:j<12):∃k:Int,Rep (Lm T) (Yj T (7*j%12)) (sA T j-k*Lm T) (sB T j) (sC T j)/\Le0 (sA T j-k*Lm T-Lm T) (sB T j) (sC T j)/\Le0 (8* -(sA T j-k*Lm T)-Lm T) (8* -sB T j) (8* -sC T j):=by
 obtain⟨hw,_⟩:=Yeg h
 have hL:=YcT h
 have hb:=YhM h
 have bd:=s_bd h (i:=j) (m:=11) (by omega) (by omega) (by omega)
 obtain⟨k,_,h1,h2,h3⟩:=Yuh (by omega) (Yn4 h j (by omega)) (by unfold sm;omega) (by unfold sm;omega) (by unfold sm;omega) (by omega)
 refine⟨k,?_,h2,h3⟩
 rw[Yj,YrT T 12 j hj (YEK _)]
 exact h1
theorem Yt1{c:Nat}(hc:c<12):∃j,j<12/\7*j%12=c:=⟨7*c%12,by omega,by omega⟩
theorem YrU{T:Tm}(h:Y4 T=0){note:Int}(hn:0<=note):∃a b c:Int,Rep (Lm T) (YcI (Yj T) note) a b c/\Le0 (8*a-9*Lm T) (8*b) (8*c)/\Le0 (8* -a-9*Lm T) (8* -b) (8* -c):=by
 obtain⟨hw,_⟩:=Yeg h
 have hL:=YcT h
 have hb:=YhM h
 obtain⟨j,hj,hjc⟩:=Yt1 (c:=(note%12).toNat) (by omega)
 obtain⟨k,r1,l1,l2⟩:=Yk5 h hj
 obtain⟨k9,r9,m1,m2⟩:=Yk5 h (show 3<12 by decide)
 rw[hjc]at r1
 rw[show 7*3%12=9 from rfl]at r9
 have bd:=s_bd h (i:=j) (m:=11) (by omega) (by omega) (by omega)
 have b9:=s_bd h (i:=3) (m:=9) (by omega) (by omega) (by omega)
 have u:=Yrg ((Yde (m:=8) (by decide)).2 l1) m2
 have d:=Yrg l2 ((Yde (m:=8) (by decide)).2 m1)
 have u2:Le0 (8*(sA T j-k*Lm T+ -1*(sA T 3-k9*Lm T))-9*Lm T) (8*(sB T j+ -1*sB T 3)) (8*(sC T j+ -1*sC T 3)):=YeQ u (by omega) (by omega) (by omega)
 have d2:Le0 (8* -(sA T j-k*Lm T+ -1*(sA T 3-k9*Lm T))-9*Lm T) (8* -(sB T j+ -1*sB T 3)) (8* -(sC T j+ -1*sC T 3)):=YeQ d (by omega) (by omega) (by omega)
 have q1:=YeP u2
 have q2:=YeP d2
 have hbc:(bB T=25/\bC T=0)\/(bB T=9/\bC T=2):=by unfold bB bC;split <;> simp
 have hab: -98000<=sA T j-k*Lm T+ -1*(sA T 3-k9*Lm T)/\sA T j-k*Lm T+ -1*(sA T 3-k9*Lm T)<=98000:=by
   rcases hbc with⟨e1,e2⟩ | ⟨e1,e2⟩
   . rw[e1,e2]at bd b9;omega
   . rw[e1,e2]at bd b9;omega
 have hj2:=(Yga (s:= -1) (by omega) r1 r9 (by unfold sm;omega) (by unfold sm;rcases hbc with⟨e1,e2⟩ | ⟨e1,e2⟩ <;> (rw[e1,e2]at bd b9;omega)) (by unfold sm;rcases hbc with⟨e1,e2⟩ | ⟨e1,e2⟩ <;> (rw[e1,e2]at bd b9;omega))).2
 exact⟨_,_,_,hj2,u2,d2⟩
theorem Yv5{x y z:Int}{n:Nat}(h:Le0 (x+ -(n:Int)) y z):UP x y z<=UP (-x) (-y) (-z)*2^n:=by
 have e:=Ym4 x y z (-(n:Int)) 0 0
 rw[Int.neg_neg,Int.neg_zero,Int.add_zero,Int.add_zero,(UP_2 n).1,(UP_2 n).2,YFI]at e
 unfold Le0 at h
 have p:=YaA (x+ -(n:Int)) y z
 have p2:=YaA (-(x+ -(n:Int))) (-y) (-z)
 refine Nat.le_of_mul_le_mul_left (c:=UP (-(x+ -(n:Int))) (-y) (-z)) ?_ p2
 rw[<-e]
 exact YEF _ h
theorem YuX{T:Tm}(h:Y4 T=0){note:Int}(hn:0<=note):∃(r:Rt) (n:Nat),YcI (Yj T) note=r/\r.n=n/\(1<=n/\n<=1000)/\(∃L a b c,Rep L r a b c)/\UP r.a r.b r.c^8<=UP (-r.a) (-r.b) (-r.c)^8*2^(9*n)/\UP (-r.a) (-r.b) (-r.c)^8<=UP r.a r.b r.c^8*2^(9*n):=by
 obtain⟨a,b,c,hr,hu,hd⟩:=YrU h hn
 have hL:=YcT h
 have hnr:=hr.n_rng
 obtain⟨r,hre⟩:∃r,r=YcI (Yj T) note:=⟨_,rfl⟩
 rw[<-hre]at hr hnr
 obtain⟨n,hnn⟩:∃n:Nat,r.n=n:=⟨r.n.toNat,by omega⟩
 obtain⟨M,hM⟩:∃M:Nat,Lm T=M:=⟨(Lm T).toNat,by omega⟩
 have ha:=hr.ha
 have hb:=hr.hb
 have hc:=hr.hc
 rw[hM,hnn]at ha hb hc
 rw[hM]at hu hd
 have scale:∀{x y z x' y' z':Int},x'*M=x*n->y'*M=y*n->z'*M=z*n->Le0 x y z->Le0 x' y' z':=fun h1 h2 h3 h0=>by
   have h4:=(Yde (m:=n) (by omega)).2 h0
   refine(Yde (m:=M) (by omega)).1 (YeQ h4 ?_ ?_ ?_)
   . rw[Int.mul_comm,<-h1,Int.mul_comm]
   . rw[Int.mul_comm,<-h2,Int.mul_comm]
   . rw[Int.mul_comm,<-h3,Int.mul_comm]
 have u:Le0 (8*r.a+ -((9*n:Nat):Int)) (8*r.b) (8*r.c):=scale (by rw[YFe];grind) (by grind) (by grind) hu
 have d:Le0 (8* -r.a+ -((9*n:Nat):Int)) (8* -r.b) (8* -r.c):=scale (by rw[YFe];grind) (by grind) (by grind) hd
 have e8:∀x y z:Int,UP (8*x) (8*y) (8*z)=UP x y z^8:=fun x y z=>Ym5 8 x y z
 have u3:=Yv5 u
 have d3:=Yv5 d
 rw[<-Int.mul_neg,<-Int.mul_neg,<-Int.mul_neg,e8,e8]at u3
 rw[<-Int.mul_neg,<-Int.mul_neg,<-Int.mul_neg,Int.neg_neg,Int.neg_neg,Int.neg_neg,e8,e8]at d3
 exact⟨r,n,hre.symm,hnn,by omega,⟨_,_,_,_,hr⟩,u3,d3⟩
set_option maxHeartbeats 4000000
def v100:VF:=⟨41,[.cell 10 true 27],(ZR [u1 10 (.alloc [(.val (.string ⟨#[]⟩)),(.bool false),(.int .i64 0),(.int .i64 0),(.int .i64 0),(.int .i64 0),(.int .i64 0),(.int .i64 0),(.int .i64 0),(.int .i64 0),(.int .i64 0),(.int .i64 0),(.int .i64 0),(.int .i64 0),(.int .i64 0),(.int .i64 0),(.int .i64 0),(.int .i64 0),(.int .i64 0),(.int .i64 0),(.int .i64 0),(.int .i64 0),(.int .i64 0),(.int .i64 0),(.int .i64 0),(.int .i64 0),(.int .i64 0)]) []] (ZR [Zm 14 0,Zm 15 1,Zm 16 2,u1 17 (.build [(.val (.string ⟨#[]⟩)),(.bool false),(.int .i64 0),(.int .i64 0),(.int .i64 0),(.int .i64 0),(.int .i64 0),(.int .i64 0),(.int .i64 0),(.int .i64 0),(.int .i64 0),(.int .i64 0),(.int .i64 0),(.int .i64 0),(.int .i64 0),(.int .i64 0),(.int .i64 0),(.int .i64 0),(.int .i64 0),(.int .i64 0),(.int .i64 0),(.int .i64 0),(.int .i64 0),(.int .i64 0),(.int .i64 0),(.int .i64 0),(.int .i64 0)] [(0,1),(1,1),(2,1)]) [.tm 14,.tm 15,.tm 16],u1 11 (.alloc [(.val (.string ⟨#[]⟩)),(.bool false),(.int .i64 0),(.int .i64 0),(.int .i64 0),(.int .i64 0),(.int .i64 0),(.int .i64 0),(.int .i64 0),(.int .i64 0),(.int .i64 0),(.int .i64 0),(.int .i64 0),(.int .i64 0),(.int .i64 0),(.int .i64 0),(.int .i64 0),(.int .i64 0),(.int .i64 0),(.int .i64 0),(.int .i64 0),(.int .i64 0),(.int .i64 0),(.int .i64 0),(.int .i64 0),(.int .i64 0),(.int .i64 0)]) [],Zs 27 11 17] (.seq (ZR [Zi 12 0] (.block 0 (.loop (.seq (ZR [Zm 18 12,Zq 19 .lss 18 12] (ZC 19 .skip (.exit 0))) (.seq (.block 1 (.region [Zm 22 12,u1 23 (.build [(.int .i64 0),(.int .i64 0)] [(0,1),(1,1)]) [.cn (.int .i64 0),.cn (.int .i64 1)],Za 24 3 11,u1 25 (.idxArr 12 2) [.tm 24,.tm 22],Zs 2 25 23])) (.region [Zm 20 12,Zp 21 20 1,Zm 12 21])))))) (.seq (ZR [Zi 13 0] (.block 2 (.loop (.seq (ZR [Zm 26 13,Zm 27 4,Zl 28 27,Zr 29 .lss 26 28] (ZC 29 .skip (.exit 2))) (.seq (.block 3 (.region [Zm 32 4,Zm 33 13,Zx 34 1 32 33,Zf 35 1 34,Zm 36 3,u1 37 (.build [(.int .i64 0),(.int .i64 0)] [(0,1),(1,1)]) [.cn (.int .i64 1),.tm 36],Za 38 3 11,u1 39 (.idxArr 12 2) [.tm 38,.tm 35],Zs 2 39 37])) (.region [Zm 30 13,Zp 31 30 1,Zm 13 31])))))) (ZR [Zt 40 27 11,Zs 27 10 40] .ret)))))⟩
theorem Yzf:Yi YEC Tryz.f100=some v100:=by kernel_rfl
def v78:VF:=⟨40,[.cell 2 true 27,.tmp 3],(ZR [u1 2 (.alloc [(.val (.string ⟨#[]⟩)),(.bool false),(.int .i64 0),(.int .i64 0),(.int .i64 0),(.int .i64 0),(.int .i64 0),(.int .i64 0),(.int .i64 0),(.int .i64 0),(.int .i64 0),(.int .i64 0),(.int .i64 0),(.int .i64 0),(.int .i64 0),(.int .i64 0),(.int .i64 0),(.int .i64 0),(.int .i64 0),(.int .i64 0),(.int .i64 0),(.int .i64 0),(.int .i64 0),(.int .i64 0),(.int .i64 0),(.int .i64 0),(.int .i64 0)]) [],Zi 3 0] (.seq (ZR [Zm 4 0] (.block 0 (ZR [u1 6 (.eqStr false) [.tm 4,.cn (.val (.string ⟨#[101,113,117,97,108]⟩))],Zm 5 6] (ZC 5 (ZR [Zm 7 0,u1 8 (.buildSlice 1 11 [(.int .i64 0)] [(0,1),(1,1),(2,1),(3,1),(4,1),(5,1),(6,1),(7,1),(8,1),(9,1),(10,1)]) [.cn (.int .i64 0),.cn (.int .i64 1),.cn (.int .i64 2),.cn (.int .i64 3),.cn (.int .i64 4),.cn (.int .i64 5),.cn (.int .i64 6),.cn (.int .i64 7),.cn (.int .i64 8),.cn (.int .i64 9),.cn (.int .i64 10)],u1 9 (.call 100) [.tm 7,.cn (.bool false),.cn (.int .i64 11),.cn (.int .i64 12),.tm 8],Zs 27 2 9,Zi 3 0] .ret) (ZR [u1 11 (.eqStr false) [.tm 4,.cn (.val (.string ⟨#[112,121,116,104,97,103,111,114,101,97,110]⟩))],Zm 10 11] (ZC 10 (ZR [Zm 12 0,u1 13 (.call 100) [.tm 12,.cn (.bool false),.cn (.int .i64 8),.cn (.int .i64 1),.cn .nil],Zs 27 2 13,Zi 3 0] .ret) (ZR [u1 15 (.eqStr false) [.tm 4,.cn (.val (.string ⟨#[109,101,97,110,116,111,110,101]⟩))],Zm 14 15] (ZC 14 (ZR [Zm 16 0,u1 17 (.buildSlice 1 11 [(.int .i64 0)] [(0,1),(1,1),(2,1),(3,1),(4,1),(5,1),(6,1),(7,1),(8,1),(9,1),(10,1)]) [.cn (.int .i64 0),.cn (.int .i64 1),.cn (.int .i64 2),.cn (.int .i64 3),.cn (.int .i64 4),.cn (.int .i64 5),.cn (.int .i64 6),.cn (.int .i64 7),.cn (.int .i64 9),.cn (.int .i64 10),.cn (.int .i64 11)],u1 18 (.call 100) [.tm 16,.cn (.bool true),.cn (.int .i64 8),.cn (.int .i64 4),.tm 17],Zs 27 2 18,Zi 3 0] .ret) (ZR [u1 20 (.eqStr false) [.tm 4,.cn (.val (.string ⟨#[119,101,114,99,107,109,101,105,115,116,101,114]⟩))],Zm 19 20] (ZC 19 (ZR [Zm 21 0,u1 22 (.buildSlice 1 4 [(.int .i64 0)] [(0,1),(1,1),(2,1),(3,1)]) [.cn (.int .i64 0),.cn (.int .i64 1),.cn (.int .i64 2),.cn (.int .i64 5)],u1 23 (.call 100) [.tm 21,.cn (.bool false),.cn (.int .i64 11),.cn (.int .i64 4),.tm 22],Zs 27 2 23,Zi 3 0] .ret) (ZR [u1 25 (.eqStr false) [.tm 4,.cn (.val (.string ⟨#[107,105,114,110,98,101,114,103,101,114]⟩))],Zm 24 25] (ZC 24 (ZR [Zm 26 0,u1 27 (.buildSlice 1 4 [(.int .i64 0)] [(0,1),(1,1),(2,1),(3,1)]) [.cn (.int .i64 0),.cn (.int .i64 1),.cn (.int .i64 2),.cn (.int .i64 3)],u1 28 (.call 100) [.tm 26,.cn (.bool true),.cn (.int .i64 6),.cn (.int .i64 4),.tm 27],Zs 27 2 28,Zi 3 0] .ret) (ZR [u1 30 (.eqStr false) [.tm 4,.cn (.val (.string ⟨#[118,97,108,108,111,116,116,105]⟩))],Zm 29 30] (ZC 29 (ZR [Zm 31 0,u1 32 (.buildSlice 1 6 [(.int .i64 0)] [(0,1),(1,1),(2,1),(3,1),(4,1),(5,1)]) [.cn (.int .i64 0),.cn (.int .i64 1),.cn (.int .i64 2),.cn (.int .i64 3),.cn (.int .i64 4),.cn (.int .i64 11)],u1 33 (.call 100) [.tm 31,.cn (.bool false),.cn (.int .i64 6),.cn (.int .i64 6),.tm 32],Zs 27 2 33,Zi 3 0] .ret) (ZR [u1 35 (.eqStr false) [.tm 4,.cn (.val (.string ⟨#[121,111,117,110,103]⟩))],Zm 34 35] (ZC 34 (ZR [Zm 36 0,u1 37 (.buildSlice 1 6 [(.int .i64 0)] [(0,1),(1,1),(2,1),(3,1),(4,1),(5,1)]) [.cn (.int .i64 0),.cn (.int .i64 1),.cn (.int .i64 2),.cn (.int .i64 3),.cn (.int .i64 4),.cn (.int .i64 5)],u1 38 (.call 100) [.tm 36,.cn (.bool false),.cn (.int .i64 11),.cn (.int .i64 6),.tm 37],Zs 27 2 38,Zi 3 0] .ret) .skip)))))))))))))))) (ZR [u1 39 (.build [(.val (.string ⟨#[]⟩)),(.bool false),(.int .i64 0),(.int .i64 0),(.int .i64 0),(.int .i64 0),(.int .i64 0),(.int .i64 0),(.int .i64 0),(.int .i64 0),(.int .i64 0),(.int .i64 0),(.int .i64 0),(.int .i64 0),(.int .i64 0),(.int .i64 0),(.int .i64 0),(.int .i64 0),(.int .i64 0),(.int .i64 0),(.int .i64 0),(.int .i64 0),(.int .i64 0),(.int .i64 0),(.int .i64 0),(.int .i64 0),(.int .i64 0)] []) [],Zs 27 2 39,Zi 3 4] .ret)))⟩
theorem YEc:Yi YEC Tryz.f78=some v78:=by kernel_rfl
def v47:VF:=⟨11,[.cell 2 true 27],(ZR [u1 2 (.alloc [(.val (.string ⟨#[]⟩)),(.bool false),(.int .i64 0),(.int .i64 0),(.int .i64 0),(.int .i64 0),(.int .i64 0),(.int .i64 0),(.int .i64 0),(.int .i64 0),(.int .i64 0),(.int .i64 0),(.int .i64 0),(.int .i64 0),(.int .i64 0),(.int .i64 0),(.int .i64 0),(.int .i64 0),(.int .i64 0),(.int .i64 0),(.int .i64 0),(.int .i64 0),(.int .i64 0),(.int .i64 0),(.int .i64 0),(.int .i64 0),(.int .i64 0)]) []] (ZR [Zm 6 0,Zc 7 78 6,Zm 5 7,Ze 8 0 5,Ze 9 1 5,u1 3 (.alloc [(.val (.string ⟨#[]⟩)),(.bool false),(.int .i64 0),(.int .i64 0),(.int .i64 0),(.int .i64 0),(.int .i64 0),(.int .i64 0),(.int .i64 0),(.int .i64 0),(.int .i64 0),(.int .i64 0),(.int .i64 0),(.int .i64 0),(.int .i64 0),(.int .i64 0),(.int .i64 0),(.int .i64 0),(.int .i64 0),(.int .i64 0),(.int .i64 0),(.int .i64 0),(.int .i64 0),(.int .i64 0),(.int .i64 0),(.int .i64 0),(.int .i64 0)]) [],Zs 27 3 8,Zm 4 9] (ZR [Zt 10 27 3,Zs 27 2 10] .ret)))⟩
theorem YDW:Yi YEC Tryz.f47=some v47:=by kernel_rfl
def v46:VF:=⟨5,[.cell 2 true 3],(ZR [u1 2 (.alloc [(.int .i64 0),(.int .i64 0),(.int .i64 0)]) []] (ZR [Zm 3 0,u1 4 (.build [(.int .i64 0),(.int .i64 0),(.int .i64 0)] [(0,1),(1,1),(2,1)]) [.cn (.int .i64 440000),.cn (.int .i64 15000),.tm 3],Zs 3 2 4] .ret))⟩
theorem YDV:Yi YEC Tryz.f46=some v46:=by kernel_rfl
def setP(p:Nat->Int×Int)(i:Nat)(x:Int×Int):Nat->Int×Int:=fun k=>if k=i then x else p k
theorem YnJ(nm:ByteArray)(syn:Bool)(w:Int)(p:Nat->Int×Int){i:Nat}(h:i<12)(a b:Int):
   YQ (encT ⟨nm,syn,w,p⟩) (3+idxN (i:Int) 2) [.int .i64 a,.int .i64 b]=encT ⟨nm,syn,w,setP p i (a,b)⟩:=by
 rcases YfM h with rfl|rfl|rfl|rfl|rfl|rfl|rfl|rfl|rfl|rfl|rfl|rfl <;> rfl
theorem YBN(i:Nat):idxN (i:Int) 2=i*2:=by simp [idxN]
def fstP:Nat->Nat->Int×Int
 |0=>fun _=>(0,0)
 |i+1=>setP (fstP i) i (0,1)
def madP(den:Int)(l:List Int):Nat->Int×Int:=l.foldl (fun p x=>setP p x.toNat (1,den)) (fstP 12)
def madC:Ctr:={ alias:=false,of:=fun l=>match l with
 | [.val (.string nm),.bool syn,.int .i64 w,.int .i64 den,.vs _ _ n sz get]=> .ex (List Int) fun l=> .pre (lsP 1 enc1 n sz get l/\l.length<=100/\∀x,x∈l->0<=x/\x<=11) (.fin (.agg (encT ⟨nm,syn,w,madP den l⟩)) [])
 |_=>noC}
theorem YA9{k:SV->List HO->Prop}{al:Bool}{hp:List HO}{T:Tm}(h:k (.agg (encT T)) []):YO al k (.agg (encT T)) hp:=
 YI h (YV (.agg (encT T)) (YK T _)) (fun _=>by simp [Ym,Yo,encT,encP])
def TM0:Env:={ ct:=fun _=>none,fn:=fun _=>none,meth:=fun _ _=>none}
theorem YvC:Ys YEC TM0:=by
 refine⟨fun f c h=>?_,fun f vf h=>?_,(fun _ _ _ h=>by cases h),by kernel_rfl,(fun _ h=>by cases h)⟩
 . cases h
 . cases h
theorem mad_c:madC.ok YEC 100:=by
 refine Yc Tryz.func100 Yzf YvC 600 madC fun args k h=>?_
 simp only[madC]at h
 split at h
 . rename_i nm syn w den tt z n sz get
   obtain⟨l,⟨⟨rfl,rfl,hg⟩,hn,hl⟩,h⟩:=h
   refine⟨[.val (.string nm),.bool syn,.int .i64 w,.int .i64 den,.vs tt z l.length 1 (fun k=>enc1 (l.getD k default))],⟨⟨rfl,trivial⟩,rfl,⟨rfl,rfl⟩,⟨rfl,rfl⟩,⟨id,rfl,rfl,rfl,hg⟩,trivial⟩,?_⟩
   dsimp only[v100,enc1,go_sem,reduceIte,YEx]
   simp only[Yd,YEx,YEz,reduceCtorEq,YEy]
   refine⟨rfl,rfl,?_⟩
   refine Loop.keep [3,0,5,0] Nat (fun i=>[(12,.int .i64 i)]) (fun i=>[(1,.box (encT ⟨nm,syn,w,fstP i⟩))]) [] (fun i=>i<=12) (fun i=>12-i) ?_ ?_
   . refine⟨0,by omega,?_⟩
     dsimp only[encT,encP,fstP,go_sem,reduceIte,YEx]
     simp only[Ya]
     repeat' apply YEU
     all_goals first|exact trivial|decide|rfl|omega|exact(YFa (by omega)).symm|exact Ye _ (YK _ _) |simp
   . rintro i hi
     dsimp only[YEB,go_sem,reduceIte,YEx]
     simp only[Yd,YEx,YEz,reduceCtorEq,YEy]
     refine⟨fun hlt=>?_,fun hge=>?_⟩
     . have hi12:i<12:=by omega
       rw[YnJ _ _ _ _ hi12,YED ((i:Int)+1) (by omega)]
       refine⟨⟨by omega,by omega⟩,by rw[YBN,lenT];omega,i+1,by omega,by omega,?_⟩
       simp only[Ya]
       refine⟨⟨by decide,by decide,by simp⟩,Ye _ (YK _ _)⟩
     . obtain rfl:i=12:=by omega
       refine Loop.keep [3,0,5,0] Nat (fun i=>[(13,.int .i64 i)]) (fun i=>[(1,.box (encT ⟨nm,syn,w,madP den (l.take i)⟩))]) [] (fun i=>i<=l.length) (fun i=>l.length-i) ?_ ?_
       . refine⟨0,by omega,?_⟩
         dsimp only[go_sem,reduceIte,YEx]
         simp only[Ya]
         refine⟨⟨by decide,by decide,rfl⟩,Ye _ (YK _ _)⟩
       . rintro i hi
         dsimp only[YEB,go_sem,reduceIte,YEx]
         simp only[Yd,YEx,YEz,reduceCtorEq,YEy]
         refine⟨fun hlt=>?_,fun hge=>?_⟩
         . have hil:i<l.length:=by omega
           have hx:=hl _ (YN hil)
           obtain⟨m,hm⟩:∃m:Nat,l.getD i default=(m:Int):=⟨(l.getD i default).toNat,by omega⟩
           have hm12:m<12:=by omega
           rw[hm,YnJ _ _ _ _ hm12,YaQ hil (by omega)]
           have hS:madP den (l.take (i+1))=setP (madP den (l.take i)) m (1,den):=by
             rw[madP,YF hil,hm,YEB];rfl
           refine⟨⟨by omega,by omega⟩,⟨by omega,by omega⟩,by rw[YBN,lenT];omega,i+1,by omega,by omega,?_⟩
           rw[hS]
           simp only[Ya]
           refine⟨⟨by decide,by decide⟩,Ye _ (YK _ _)⟩
         . obtain rfl:i=l.length:=by omega
           rw[YFF]
           exact⟨YEK 27,⟨rfl,YaO _⟩,YEK 27,YA9 (T:=⟨nm,syn,w,madP den l⟩) h⟩
 . exact h.1.elim
theorem Yoq{a b:ByteArray}:(a.toList==b.toList)=decide (a.data.toList=b.data.toList):=by
 rw[ByteArray.toList_eq,ByteArray.toList_eq]
 by_cases h:a.data.toList=b.data.toList
 . rw[decide_eq_true h,beq_iff_eq];exact h
 . rw[decide_eq_false h,beq_eq_false_iff_ne];exact h
def EQ:Tm:=⟨⟨#[101,113,117,97,108]⟩,false,11,madP 12 [0,1,2,3,4,5,6,7,8,9,10]⟩
def MT:Tm:=⟨⟨#[109,101,97,110,116,111,110,101]⟩,true,8,madP 4 [0,1,2,3,4,5,6,7,9,10,11]⟩
def nmdC:Ctr:={ alias:=false,of:=fun l=>match l with
 | [.val (.string b)]=> .ex Bool fun m=> .pre (b=if m then MT.nm else EQ.nm) (.fin (.agg (encT (if m then MT else EQ))) [])
 |_=>noC}
def stdC:Ctr:={ alias:=false,of:=fun l=>match l with
 | [.val (.string b)]=> .ex Bool fun m=> .pre (b=if m then MT.nm else EQ.nm) (.fin (.tup [.agg (encT (if m then MT else EQ)),.int .i64 0]) [])
 |_=>noC}
theorem YvI{k:SV->List HO->Prop}{al:Bool}{hp:List HO}{T:Tm}{e:Int}(h:k (.tup [.agg (encT T),.int .i64 e]) []):YO al k (.tup [.agg (encT T),.int .i64 e]) hp:=
 YI h (YV (.tup [.agg (encT T),.int .i64 e]) ⟨YK T _,trivial,trivial⟩) (fun _=>by simp [Ym,Yo,encT,encP])
theorem elev{k:Nat}(h:k<11):k=0\/k=1\/k=2\/k=3\/k=4\/k=5\/k=6\/k=7\/k=8\/k=9\/k=10:=by omega
def TM1:Env:={ ct:=fun n=>match n with|100=>some madC|_=>none,fn:=fun _=>none,meth:=fun _ _=>none}
theorem YpG:TM1.ct 100=some madC:=rfl
theorem YAQ:Ys YEC TM1:=by
 refine⟨fun f c h=>?_,fun f vf h=>?_,(fun _ _ _ h=>by cases h),by kernel_rfl,(fun _ h=>by cases h)⟩
 . simp only[TM1]at h
   split at h
   . cases h;exact⟨mad_c,Tryz.f100,Tryz.func100,by kernel_rfl,by kernel_rfl⟩
   . cases h
 . cases h
theorem std_c:stdC.ok YEC 78:=by
 refine Yc Tryz.func78 YEc YAQ 600 stdC fun args k h=>?_
 simp only[stdC]at h
 split at h
 . rename_i b
   obtain⟨m,hb,h⟩:=h
   have h:k (.tup [.agg (encT (if m then MT else EQ)),.int .i64 0]) []:=h
   refine⟨[.val (.string b)],⟨⟨rfl,trivial⟩,trivial⟩,?_⟩
   subst hb
   dsimp only[v78,YpG,madC,go_sem,reduceIte,YEx]
   simp only[Yd,YEx,YEz,reduceCtorEq,YEy]
   cases m
   . refine⟨fun _=>⟨by decide,[0,1,2,3,4,5,6,7,8,9,10],⟨⟨rfl,rfl,fun j hj=>?_⟩,by decide,by decide⟩,⟨rfl,YaO _⟩,YEK 27,YvI (T:=EQ) h⟩,fun hf=>?_⟩
     . rcases elev hj with rfl|rfl|rfl|rfl|rfl|rfl|rfl|rfl|rfl|rfl|rfl <;> exact Yb _
     . exact absurd hf (by rw[Yoq];decide)
   . refine⟨fun hf=>?_,fun _=>⟨fun hf=>?_,fun _=>⟨fun _=>⟨by decide,[0,1,2,3,4,5,6,7,9,10,11],⟨⟨rfl,rfl,fun j hj=>?_⟩,by decide,by decide⟩,⟨rfl,YaO _⟩,YEK 27,YvI (T:=MT) h⟩,fun hf=>?_⟩⟩⟩
     . exact absurd hf (by rw[Yoq];decide)
     . exact absurd hf (by rw[Yoq];decide)
     . rcases elev hj with rfl|rfl|rfl|rfl|rfl|rfl|rfl|rfl|rfl|rfl|rfl <;> exact Yb _
     . exact absurd hf (by rw[Yoq];decide)
 . exact h.1.elim
theorem YwO{k:SV->List HO->Prop}{al:Bool}{hp:List HO}{x y z:Int}(h:k (.agg [.int .i64 x,.int .i64 y,.int .i64 z]) []):YO al k (.agg [.int .i64 x,.int .i64 y,.int .i64 z]) hp:=
 YI h (YV (.agg [.int .i64 x,.int .i64 y,.int .i64 z]) ⟨trivial,trivial,trivial,trivial⟩) (fun _=>by simp [Ym,Yo])
def usu6C:Ctr:={ alias:=false,of:=fun l=>match l with
 | [.int .i64 t]=> .fin (.agg [.int .i64 440000,.int .i64 15000,.int .i64 t]) []
 |_=>noC}
theorem YDM:usu6C.ok YEC 46:=by
 refine Yc Tryz.func46 YDV YvC 600 usu6C fun args k h=>?_
 simp only[usu6C]at h
 split at h
 . rename_i t
   refine⟨[.int .i64 t],by simp [leL,le],?_⟩
   dsimp only[v46,go_sem,reduceIte,YEx]
   simp only[Yd,YEx,YEz,reduceCtorEq,YEy]
   exact YwO h
 . exact h.1.elim
def TM2:Env:={ ct:=fun n=>match n with|78=>some stdC|_=>none,fn:=fun _=>none,meth:=fun _ _=>none}
theorem Yto:TM2.ct 78=some stdC:=rfl
theorem YAR:Ys YEC TM2:=by
 refine⟨fun f c h=>?_,fun f vf h=>?_,(fun _ _ _ h=>by cases h),by kernel_rfl,(fun _ h=>by cases h)⟩
 . simp only[TM2]at h
   split at h
   . cases h;exact⟨std_c,Tryz.f78,Tryz.func78,by kernel_rfl,by kernel_rfl⟩
   . cases h
 . cases h
theorem YCq:nmdC.ok YEC 47:=by
 refine Yc Tryz.func47 YDW YAR 600 nmdC fun args k h=>?_
 simp only[nmdC]at h
 split at h
 . rename_i b
   obtain⟨m,hb,h⟩:=h
   have h:k (.agg (encT (if m then MT else EQ))) []:=h
   refine⟨[.val (.string b)],⟨⟨rfl,trivial⟩,trivial⟩,?_⟩
   dsimp only[v47,Yto,stdC,go_sem,reduceIte,YEx]
   simp only[Yd,YEx,YEz,reduceCtorEq,YEy]
   exact⟨m,hb,by decide,by decide,⟨rfl,YaO _⟩,YEK 27,⟨rfl,YaO _⟩,YEK 27,YA9 h⟩
 . exact h.1.elim
def v8:VF:=⟨15,[.cell 6 true 2,.tmp 7],(ZR [u1 3 .box [.tm 0],u1 4 .box [.tm 1],u1 5 .box [.tm 2],Zn 6,Zi 7 0] (ZR [Zt 8 3 3,Zt 9 27 4,Zf 10 1 5,u1 11 (.mkfn (.func 25) 0) [.tm 5,.tm 3],u1 12 (.call 24) [.tm 8,.tm 9,.tm 10,.tm 11],Ze 13 0 12,Ze 14 1 12,Zs 2 6 13,Zm 7 14] .ret))⟩
theorem v8_is:Yi YEC Tryz.f8=some v8:=by kernel_rfl
def v25:VF:=⟨10,[.cell 4 true 2],(ZR [Zn 4] (ZR [Zm 5 0,Zf 6 1 1,Za 7 0 2,Zf 8 1 7,u1 9 (.call 26) [.tm 5,.tm 6,.tm 8],Zs 2 4 9] .ret))⟩
theorem YDR:Yi YEC Tryz.f25=some v25:=by kernel_rfl
def v51:VF:=⟨27,[.tmp 2],(ZR [u1 2 .mov [.cn .nil]] (ZR [Zm 6 0,Zl 7 6,Zp 8 7 4,u1 9 (.make 2 16 [(.int .i64 0),(.int .i64 0)]) [.cn (.int .i64 0),.tm 8],Zm 3 9] (.seq (ZR [Zm 10 0,Zl 11 10,Zi 12 0] (.block 0 (.loop (ZR [Zr 13 .lss 12 11] (.seq (ZC 13 .skip (.exit 0)) (.seq (.block 1 (ZR [Zx 14 2 10 12,Zt 15 2 14,Zn 5,Zs 2 5 15] (.region [Zm 16 3,Za 17 0 5,Zf 18 1 17,Za 19 1 5,Zf 20 1 19,u1 21 .neg [.tm 20],u1 22 (.build [(.int .i64 0),(.int .i64 0)] [(0,1),(1,1)]) [.tm 18,.tm 21],u1 23 (.buildSlice 2 1 [(.int .i64 0),(.int .i64 0)] [(0,2)]) [.tm 22],u1 24 (.append 2 16 [(.int .i64 0),(.int .i64 0)]) [.tm 16,.tm 23],Zm 3 24]))) (.region [Zp 25 12 1,Zm 12 25]))))))) (ZR [Zm 26 3,Zm 2 26] .ret))))⟩
theorem YD0:Yi YEC Tryz.f51=some v51:=by kernel_rfl
def v18:VF:=⟨15,[.cell 6 true 2,.tmp 7],(ZR [u1 3 .box [.tm 0],u1 4 .box [.tm 1],u1 5 .box [.tm 2],Zn 6,Zi 7 0] (ZR [Zt 8 3 3,Zt 9 27 4,Zf 10 1 5,u1 11 (.mkfn (.func 48) 0) [.tm 3,.tm 5],u1 12 (.call 24) [.tm 8,.tm 9,.tm 10,.tm 11],Ze 13 0 12,Ze 14 1 12,Zs 2 6 13,Zm 7 14] .ret))⟩
theorem YDO:Yi YEC Tryz.f18=some v18:=by kernel_rfl
def v48:VF:=⟨39,[.cell 4 true 2],(ZR [Zn 4] (ZR [Zm 7 0,Za 8 1 1,Zf 9 1 8,u1 10 .nilCheck [.tm 7],Za 11 0 10,Za 12 2 11,Zs 1 12 9] (ZR [Zm 14 0,Zf 15 1 2,Zd 16 49 14 15,Zm 13 16,Ze 17 0 13,Ze 18 1 13,Zm 5 17,Zm 6 18] (.seq (.draw [] [Zu 19 6,Zu 20 5,Zy 22 0 1,Zv 23 1 22,Zu 24 6,w1 25 .neg [.tm 24],w1 26 (.build [(.int .i64 0),(.int .i64 0)] [(0,1),(1,1)]) [.tm 23,.tm 25],Zy 27 1 1,Zv 28 1 27,Zu 29 6,w1 30 .quo [.tm 29,.cn (.int .i64 2)],Zu 32 6,w1 33 .neg [.tm 32],w1 34 .quo [.tm 33,.cn (.int .i64 2)],w1 21 (.call 51) [.tm 20],Zz 31 52 28 30,w1 35 (.call 52) [.cn (.int .i64 0),.tm 34],w1 36 (.buildSlice 2 3 [(.int .i64 0),(.int .i64 0)] [(0,2),(2,2),(4,2)]) [.tm 26,.tm 31,.tm 35],⟨u1 37 (.append 2 16 [(.int .i64 0),(.int .i64 0)]) [.tm 21,.tm 36],[.tm 6,.tm 19]⟩,w1 38 (.call 50) [.cn (.int .i64 331300000000),.tm 19,.tm 37],ZS 2 4 38]) .ret))))⟩
theorem YDX:Yi YEC Tryz.f48=some v48:=by kernel_rfl
def v20:VF:=⟨26,[.tmp 2,.tmp 3],(ZR [u1 1 .box [.tm 0],Zi 2 0,Zi 3 0] (.seq (ZR [Zt 8 3 1,Zc 9 53 8,Zm 4 9] (ZR [Zm 10 4,Zq 11 .neq 10 0] (ZC 11 (ZR [Zm 12 4,Zi 2 0,Zm 3 12] .ret) .skip))) (.seq (.draw [] [Zy 14 2 1,Zv 15 1 14,Zy 17 1 1,Zv 18 1 17,w1 16 (.call 52) [.tm 15,.cn (.int .i64 1)],w1 19 (.call 52) [.tm 18,.cn (.int .i64 (-1))],w1 20 (.buildSlice 2 2 [(.int .i64 0),(.int .i64 0)] [(0,2),(2,2)]) [.tm 16,.tm 19],w1 21 (.call 54) [.tm 20,.cn (.int .i64 1),.cn (.int .i64 600000)],Zu 13 21,ZE 22 0 13,ZE 23 1 13,ZE 24 2 13,Zu 5 22,Zu 6 23,Zu 7 24]) (ZR [Zm 25 5,Zm 2 25,Zi 3 0] .ret))))⟩
theorem Yww:Yi YEC Tryz.f20=some v20:=by kernel_rfl
def ngT(x:Int×Int):Int×Int:=(x.1,IntKind.i64.wrap (0-x.2))
def invC:Ctr:={ alias:=false,of:=fun l=>match l with
 | [.vs _ _ n sz get]=> .ex (List (Int×Int)) fun l=> .pre (lsP 2 enc2 n sz get l/\n<=1000000) (.fin (.own 0 0 l.length 2) [.own false 2 l.length (fun k=>enc2 ((l.map ngT).getD k default))])
 |_=>noC}
def TW0:Env:={ ct:=fun _=>none,fn:=fun _=>none,meth:=fun _ _=>none}
theorem YAU:Ys YEC TW0:=by
 refine⟨fun f c h=>?_,fun f vf h=>?_,(fun _ _ _ h=>by cases h),by kernel_rfl,(fun _ h=>by cases h)⟩
 . cases h
 . cases h
theorem YBS:invC.ok YEC 51:=by
 refine Yfx Tryz.func51 YD0 YAU 300 invC fun args k h=>?_
 simp only[invC]at h
 split at h
 . rename_i tt z n sz get
   obtain⟨l,⟨⟨rfl,rfl,hg⟩,hn⟩,h⟩:=h
   refine⟨[.vs tt z l.length 2 (fun k=>enc2 (l.getD k default))],⟨⟨id,rfl,rfl,rfl,hg⟩,trivial⟩,?_⟩
   dsimp only[v51,enc2,go_sem,reduceIte,YEx]
   simp only[Yd,YEx,YEz,reduceCtorEq,YEy]
   have hw:IntKind.i64.wrap ((l.length:Int)+4)=((l.length+4:Nat):Int):=by rw[YED ((l.length:Int)+4) (by omega)];rfl
   rw[hw]
   refine⟨⟨by decide,by decide,by omega,by unfold YW;omega⟩,?_⟩
   refine Loop.keep [10,0] Nat (fun i=>[(3,.own 0 0 i 2),(12,.int .i64 i)]) (fun i=>[(0,.own false 2 i (fun k=>enc2 ((l.map ngT).getD k default)))]) [] (fun i=>i<=l.length) (fun i=>l.length-i) ?_ ?_
   . refine⟨0,Nat.zero_le _,?_⟩
     dsimp only[go_sem,reduceIte,YEx]
     simp only[Ya]
     exact⟨⟨⟨rfl,by decide⟩,rfl⟩,rfl,fun q hq=>absurd hq (Nat.not_lt_zero _)⟩
   . rintro i hi
     replace hi:i<=l.length:=hi
     dsimp only[enc2,YEB,go_sem,reduceIte,YEx]
     simp only[Yd,YEx,YEz,reduceCtorEq,YEy]
     refine⟨fun hlt=>⟨⟨by omega,by omega⟩,by decide,⟨by unfold YW;omega,fun q hq=>one2 hq⟩,i+1,by omega,by omega,?_⟩,fun hge=>?_⟩
     . have hil:i<l.length:=by omega
       rw[YaQ hil (by omega)]
       simp only[Ya]
       refine⟨by decide,rfl,fun q hq=>?_⟩
       by_cases hc:q<i
       . rw[if_pos hc];exact Ye _ ⟨trivial,trivial,trivial⟩
       . obtain rfl:q=i:=by omega
         rw[if_neg hc,Nat.sub_self,Yl1 hil];exact Ye _ ⟨trivial,trivial,trivial⟩
     . obtain rfl:i=l.length:=by omega
       exact⟨h,trivial,by simp [YbL,Yo,Ym]⟩
 . exact h.1.elim
def frq6C:Ctr:={ alias:=false,of:=fun l=>match l with
 | [.agg [.int .i64 a,.int .i64 t0,.int .i64 t],.agg cs,.int .i64 note]=> .ex Tm fun T=> .pre (cs=encT T/\T.nm.size<=9223372036854775807/\chkS a t0 t=0/\Y4 T=0/\0<=note/\note<=139) (.fin (.tup [.agg [.int .i64 (Yc7 (Yj T) t0 t note a).1,.int .i64 (Yc7 (Yj T) t0 t note a).2],.int .i64 0]) [])
 |_=>noC}
def TW1:Env:={ ct:=fun n=>match n with|26=>some freqC|53=>some chkSC|87=>some NotC|_=>none,fn:=fun n=>match n with|24=>some v24|56=>some v56|62=>some v62|25=>some v25|_=>none,meth:=fun _ _=>none}
theorem YmE:TW1.ct 26=some freqC:=rfl
theorem YmF:TW1.ct 53=some chkSC:=rfl
theorem YmI:TW1.ct 87=some NotC:=rfl
theorem YmC:TW1.ct 24=none:=rfl
theorem YmJ:TW1.fn 24=some v24:=rfl
theorem YmG:TW1.ct 56=none:=rfl
theorem YmL:TW1.fn 56=some v56:=rfl
theorem YmH:TW1.ct 62=none:=rfl
theorem YmM:TW1.fn 62=some v62:=rfl
theorem YmD:TW1.ct 25=none:=rfl
theorem YmK:TW1.fn 25=some v25:=rfl
theorem YAV:Ys YEC TW1:=by
 refine⟨fun f c h=>?_,fun f vf h=>?_,(fun _ _ _ h=>by cases h),by kernel_rfl,(fun _ h=>by cases h)⟩
 . simp only[TW1]at h
   split at h
   . cases h;exact⟨YBH,Tryz.f26,Tryz.func26,by kernel_rfl,by kernel_rfl⟩
   . cases h;exact⟨Yno,Tryz.f53,Tryz.func53,by kernel_rfl,by kernel_rfl⟩
   . cases h;exact⟨YwI,Tryz.f87,Tryz.func87,by kernel_rfl,by kernel_rfl⟩
   . cases h
 . simp only[TW1]at h
   split at h
   . cases h;exact⟨Tryz.f24,Tryz.func24,Ywx,Tryz.f24,Tryz.func24,by kernel_rfl,by kernel_rfl⟩
   . cases h;exact⟨Tryz.f56,Tryz.func56,YsQ,Tryz.f56,Tryz.func56,by kernel_rfl,by kernel_rfl⟩
   . cases h;exact⟨Tryz.f62,Tryz.func62,YwA,Tryz.f62,Tryz.func62,by kernel_rfl,by kernel_rfl⟩
   . cases h;exact⟨Tryz.f25,Tryz.func25,YDR,Tryz.f25,Tryz.func25,by kernel_rfl,by kernel_rfl⟩
   . cases h
theorem YqP:frq6C.ok YEC 8:=by
 refine Yc Tryz.func8 v8_is YAV 900 frq6C fun args k h=>?_
 simp only[frq6C]at h
 split at h
 . rename_i a t0 t cs note
   obtain⟨T,⟨rfl,hnm,hS,hT,hn0,hn1⟩,h⟩:=h
   refine⟨[.agg [.int .i64 a,.int .i64 t0,.int .i64 t],.agg (encT T),.int .i64 note],⟨⟨⟨rfl,rfl⟩,⟨rfl,rfl⟩,⟨rfl,rfl⟩,trivial⟩,Ye _ (YK T _),⟨rfl,rfl⟩,trivial⟩,?_⟩
   dsimp only[v8,YfX,lenT,YmE,freqC,YmF,chkSC,YmI,NotC,YmC,YmJ,v24,YmG,YmL,v56,YmH,YmM,v62,YmD,YmK,v25,go_sem,reduceIte,YEx]
   simp only[Yd,YEx,YEz,reduceCtorEq,YEy]
   refine⟨YaO T,YaO T,YaO T,fun hs=>absurd hS hs,fun hs=>⟨T,⟨rfl,hnm⟩,?_⟩⟩
   rw[if_neg (fun hh=>hh hT)]
   dsimp only[YfX,lenT,YmE,freqC,YmF,chkSC,YmI,NotC,YmC,YmJ,v24,YmG,YmL,v56,YmH,YmM,v62,YmD,YmK,v25,go_sem,reduceIte,YEx]
   simp only[Yd,YEx,YEz,reduceCtorEq,YEy]
   obtain⟨ha,hb0,hb1⟩:=Ybi hS
   refine⟨by decide,by decide,fun hh=>absurd trivial hh,by decide,by decide,fun hh=>absurd trivial hh,fun hc=>?_,fun hc=>⟨Yj T,⟨fun q _=>Yb _,⟨hn0,hn1⟩,hb0,hb1⟩,by decide,by decide,?_⟩⟩
   . simp only[Bool.and_eq_false_iff,decide_eq_false_iff_not]at hc;omega
   . exact YiK (show k _ []from h)
 . exact h.1.elim
def drfF(t0 t:Int):Int:=(flrF [(273150+t,1),(273150+t0, -1)] 1 600000).1
def drfC:Ctr:={ alias:=false,of:=fun l=>match l with
 | [.agg [.int .i64 a,.int .i64 t0,.int .i64 t]]=> .pre (chkS a t0 t=0) (.fin (.tup [.int .i64 (drfF t0 t),.int .i64 0]) [])
 |_=>noC}
def TW2:Env:={ ct:=fun n=>match n with|53=>some chkSC|52=>some warmC|54=>some flrC|_=>none,fn:=fun _=>none,meth:=fun _ _=>none}
theorem YmO:TW2.ct 53=some chkSC:=rfl
theorem YmN:TW2.ct 52=some warmC:=rfl
theorem YmP:TW2.ct 54=some flrC:=rfl
theorem YvE:Ys YEC TW2:=by
 refine⟨fun f c h=>?_,fun f vf h=>?_,(fun _ _ _ h=>by cases h),by kernel_rfl,(fun _ h=>by cases h)⟩
 . simp only[TW2]at h
   split at h
   . cases h;exact⟨Yno,Tryz.f53,Tryz.func53,by kernel_rfl,by kernel_rfl⟩
   . cases h;exact⟨YsT,Tryz.f52,Tryz.func52,by kernel_rfl,by kernel_rfl⟩
   . cases h;exact⟨Yxu,Tryz.f54,Tryz.func54,by kernel_rfl,by kernel_rfl⟩
   . cases h
 . cases h
theorem drf_c:drfC.ok YEC 20:=by
 refine Yc Tryz.func20 Yww YvE 600 drfC fun args k h=>?_
 simp only[drfC]at h
 split at h
 . rename_i a t0 t
   obtain⟨hS,h⟩:=h
   have h:k (.tup [.int .i64 (drfF t0 t),.int .i64 0]) []:=h
   refine⟨[.agg [.int .i64 a,.int .i64 t0,.int .i64 t]],by simp [leL,le],?_⟩
   dsimp only[v20,YmO,chkSC,YmN,warmC,YmP,flrC,go_sem,reduceIte,YEx]
   simp only[Yd,YEx,YEz,reduceCtorEq,YEy]
   obtain⟨ha,hb0,hb1⟩:=Ybi hS
   refine⟨fun hh=>absurd hS hh,fun _=>⟨hb1,hb0,by decide,[(273150+t,1),(273150+t0, -1)],⟨rfl,rfl,fun q hq=>?_⟩,by decide,by decide,by decide,YcU h⟩⟩
   rcases(show q=0\/q=1 by omega)with rfl|rfl <;> exact Yb _
 . exact h.1.elim
def wavL(L:Nat->Rt)(a t0 note:Int):List (Int×Int):=
 (Yn L t0 t0 note).1.map ngT++[(a,IntKind.i64.wrap (0-(Yn L t0 t0 note).2)),(273150+t0,IntKind.i64.wrap ((Yn L t0 t0 note).2.tdiv 2)),(273150+0,IntKind.i64.wrap ((IntKind.i64.wrap (0-(Yn L t0 t0 note).2)).tdiv 2))]
def wavF(L:Nat->Rt)(a t0 note:Int):Int×Int:=pspF 331300000000 (wavL L a t0 note) (Yn L t0 t0 note).2
def wavC:Ctr:={ alias:=false,of:=fun l=>match l with
 | [.agg [.int .i64 a,.int .i64 t0,.int .i64 t],.agg cs,.int .i64 note]=> .ex Tm fun T=> .pre (cs=encT T/\T.nm.size<=9223372036854775807/\chkS a t0 t=0/\Y4 T=0/\0<=note/\note<=139) (.fin (.tup [.agg [.int .i64 (wavF (Yj T) a t0 note).1,.int .i64 (wavF (Yj T) a t0 note).2],.int .i64 0]) [])
 |_=>noC}
def TW3:Env:={ ct:=fun n=>match n with|49=>some termC|51=>some invC|52=>some warmC|50=>some pspC|53=>some chkSC|87=>some NotC|_=>none,fn:=fun n=>match n with|24=>some v24|56=>some v56|62=>some v62|48=>some v48|_=>none,meth:=fun _ _=>none}
theorem YmS:TW3.ct 49=some termC:=rfl
theorem YmU:TW3.ct 51=some invC:=rfl
theorem YmV:TW3.ct 52=some warmC:=rfl
theorem YmT:TW3.ct 50=some pspC:=rfl
theorem YmW:TW3.ct 53=some chkSC:=rfl
theorem YmZ:TW3.ct 87=some NotC:=rfl
theorem YmQ:TW3.ct 24=none:=rfl
theorem Ym0:TW3.fn 24=some v24:=rfl
theorem YmX:TW3.ct 56=none:=rfl
theorem Ym2:TW3.fn 56=some v56:=rfl
theorem YmY:TW3.ct 62=none:=rfl
theorem Ym3:TW3.fn 62=some v62:=rfl
theorem YmR:TW3.ct 48=none:=rfl
theorem Ym1:TW3.fn 48=some v48:=rfl
theorem YAW:Ys YEC TW3:=by
 refine⟨fun f c h=>?_,fun f vf h=>?_,(fun _ _ _ h=>by cases h),by kernel_rfl,(fun _ h=>by cases h)⟩
 . simp only[TW3]at h
   split at h
   . cases h;exact⟨Yos,Tryz.f49,Tryz.func49,by kernel_rfl,by kernel_rfl⟩
   . cases h;exact⟨YBS,Tryz.f51,Tryz.func51,by kernel_rfl,by kernel_rfl⟩
   . cases h;exact⟨YsT,Tryz.f52,Tryz.func52,by kernel_rfl,by kernel_rfl⟩
   . cases h;exact⟨Yyy,Tryz.f50,Tryz.func50,by kernel_rfl,by kernel_rfl⟩
   . cases h;exact⟨Yno,Tryz.f53,Tryz.func53,by kernel_rfl,by kernel_rfl⟩
   . cases h;exact⟨YwI,Tryz.f87,Tryz.func87,by kernel_rfl,by kernel_rfl⟩
   . cases h
 . simp only[TW3]at h
   split at h
   . cases h;exact⟨Tryz.f24,Tryz.func24,Ywx,Tryz.f24,Tryz.func24,by kernel_rfl,by kernel_rfl⟩
   . cases h;exact⟨Tryz.f56,Tryz.func56,YsQ,Tryz.f56,Tryz.func56,by kernel_rfl,by kernel_rfl⟩
   . cases h;exact⟨Tryz.f62,Tryz.func62,YwA,Tryz.f62,Tryz.func62,by kernel_rfl,by kernel_rfl⟩
   . cases h;exact⟨Tryz.f48,Tryz.func48,YDX,Tryz.f48,Tryz.func48,by kernel_rfl,by kernel_rfl⟩
   . cases h
theorem wav_c:wavC.ok YEC 18:=by
 refine Yc Tryz.func18 YDO YAW 900 wavC fun args k h=>?_
 simp only[wavC]at h
 split at h
 . rename_i a t0 t cs note
   obtain⟨T,⟨rfl,hnm,hS,hT,hn0,hn1⟩,h⟩:=h
   refine⟨[.agg [.int .i64 a,.int .i64 t0,.int .i64 t],.agg (encT T),.int .i64 note],⟨⟨⟨rfl,rfl⟩,⟨rfl,rfl⟩,⟨rfl,rfl⟩,trivial⟩,Ye _ (YK T _),⟨rfl,rfl⟩,trivial⟩,?_⟩
   dsimp only[v18,YfX,lenT,YmS,termC,YmU,invC,YmV,warmC,YmT,pspC,YmW,chkSC,YmZ,NotC,YmQ,Ym0,v24,YmX,Ym2,v56,YmY,Ym3,v62,YmR,Ym1,v48,go_sem,reduceIte,YEx]
   simp only[Yd,YEx,YEz,reduceCtorEq,YEy]
   refine⟨YaO T,YaO T,YaO T,fun hs=>absurd hS hs,fun hs=>⟨T,⟨rfl,hnm⟩,?_⟩⟩
   rw[if_neg (fun hh=>hh hT)]
   dsimp only[YfX,lenT,YmS,termC,YmU,invC,YmV,warmC,YmT,pspC,YmW,chkSC,YmZ,NotC,YmQ,Ym0,v24,YmX,Ym2,v56,YmY,Ym3,v62,YmR,Ym1,v48,go_sem,reduceIte,YEx]
   simp only[Yd,YEx,YEz,reduceCtorEq,YEy]
   obtain⟨ha,hb0,hb1⟩:=Ybi hS
   have hl:=YdA (Yj T) t0 t0 note
   refine⟨by decide,by decide,fun hh=>absurd trivial hh,by decide,by decide,fun hh=>absurd trivial hh,fun hc=>?_,fun hc=>⟨Yj T,⟨fun q _=>Yb _,⟨hn0,hn1⟩,hb0⟩,by decide,by decide,by decide,by decide,(Yn (Yj T) t0 t0 note).1,⟨⟨rfl,rfl,fun q _=>Yb _⟩,by omega⟩,?_⟩⟩
   . simp only[Bool.and_eq_false_iff,decide_eq_false_iff_not]at hc;omega
   refine⟨hb0,by decide,by decide,⟨by unfold YW;omega,fun q hq=>YsI hq⟩,wavL (Yj T) a t0 note,⟨⟨rfl,by simp [wavL],fun q hq=>?_⟩,by omega⟩,?_⟩
   . have em:((Yn (Yj T) t0 t0 note).1.map ngT).length=(Yn (Yj T) t0 t0 note).1.length:=by simp
     by_cases hc:q<(Yn (Yj T) t0 t0 note).1.length
     . simp only[if_pos hc]
       rw[wavL,YL (by omega)]
       exact Yb _
     . simp only[if_neg hc]
       rw[wavL,YM (by omega),em]
       rcases(show q-(Yn (Yj T) t0 t0 note).1.length=0\/q-(Yn (Yj T) t0 t0 note).1.length=1\/q-(Yn (Yj T) t0 t0 note).1.length=2 by omega)with e|e|e
       . rw[e];exact Yb _
       . rw[e];exact Yb _
       . rw[e];exact Yb _
   exact⟨by decide,by decide,YiK (show k _ []from h)⟩
 . exact h.1.elim
def W2:Nat:=KB
theorem lo_2:loN 2=W2/\hiN 2=W2:=by
 have e:lgK 2=1:=by
   obtain⟨a,b⟩:=Yrx (n:=2) (by decide)
   have key:∀{x y:Nat},2^x<2^y->x<y:=fun h=>(Nat.pow_lt_pow_iff_right (by decide)).1 h
   have h1:2^lgK 2<2^2:=by omega
   have h2:2^1<2^(lgK 2+1):=by omega
   have:=key h1
   have:=key h2
   omega
 unfold loN hiN lN W2 KB
 rw[if_pos Yq6,e]
 simp only[YFo,and_self]
theorem Yxe:∀l:List (Int×Int),upP (l.map dblT)=upP l^2/\dnP (l.map dblT)=dnP l^2
 | []=>by simp [upP,dnP]
 |x::l=>by
   obtain⟨h1,h2⟩:=Yxe l
   rw[YE0,upP,dnP,upP,dnP,h1,h2,YEZ,YEZ]
   unfold dblT
   by_cases c:x.2<0
   . have c2:x.2*2<0:=by omega
     simp only[if_pos c,if_pos c2,Nat.one_pow]
     rw[show(-(x.2*2)).toNat=(-x.2).toNat*2 by omega,YET]
     exact⟨trivial,rfl⟩
   . have c2:¬x.2*2<0:=by omega
     simp only[if_neg c,if_neg c2,Nat.one_pow]
     rw[show(x.2*2).toNat=x.2.toNat*2 by omega,YET]
     exact⟨rfl,trivial⟩
theorem Yxf(w:Nat->Nat):∀l:List (Int×Int),upS w (l.map dblT)=2*upS w l/\dnS w (l.map dblT)=2*dnS w l
 | []=>by simp [upS,dnS]
 |x::l=>by
   obtain⟨h1,h2⟩:=Yxf w l
   rw[YE0,upS,dnS,upS,dnS,h1,h2]
   unfold dblT
   by_cases c:x.2<0
   . have c2:x.2*2<0:=by omega
     simp only[if_pos c,if_pos c2]
     rw[show(-(x.2*2)).toNat=2*(-x.2).toNat by omega,YEX]
     omega
   . have c2:¬x.2*2<0:=by omega
     simp only[if_neg c,if_neg c2]
     rw[show(x.2*2).toNat=2*x.2.toNat by omega,YEX]
     omega
theorem Ydi{x:Int×Int}(h:okU x):ngT x=(x.1, -x.2):=by
 obtain⟨_,_,h3,h4⟩:=h
 unfold ngT
 rw[YED (0-x.2) (by omega)]
 simp
theorem ng_P:∀l:List (Int×Int),(∀x,x∈l->okU x)->upP (l.map ngT)=dnP l/\dnP (l.map ngT)=upP l
 | [],_=>by simp [upP,dnP]
 |x::l,h=>by
   obtain⟨h1,h2⟩:=ng_P l fun y hy=>h y (YEN _ hy)
   rw[YE0,Ydi (h x (YES ..)),upP,dnP,upP,dnP,h1,h2]
   rcases Int.lt_trichotomy x.2 0 with c|c|c
   . have c2:¬ -x.2<0:=by omega
     simp only[if_pos c,if_neg c2,and_self]
   . simp only[c,Int.neg_zero,Int.lt_irrefl,if_false,Int.toNat_zero,Nat.pow_zero,and_self]
   . have c1:¬x.2<0:=by omega
     have c2: -x.2<0:=by omega
     simp only[if_neg c1,if_pos c2,Int.neg_neg,and_self]
theorem ng_S(w:Nat->Nat):∀l:List (Int×Int),(∀x,x∈l->okU x)->upS w (l.map ngT)=dnS w l/\dnS w (l.map ngT)=upS w l
 | [],_=>by simp [upS,dnS]
 |x::l,h=>by
   obtain⟨h1,h2⟩:=ng_S w l fun y hy=>h y (YEN _ hy)
   rw[YE0,Ydi (h x (YES ..)),upS,dnS,upS,dnS,h1,h2]
   rcases Int.lt_trichotomy x.2 0 with c|c|c
   . have c2:¬ -x.2<0:=by omega
     simp only[if_pos c,if_neg c2,and_self]
   . simp only[c,Int.neg_zero,Int.lt_irrefl,if_false,Int.toNat_zero,Nat.mul_zero,and_self]
   . have c1:¬x.2<0:=by omega
     have c2: -x.2<0:=by omega
     simp only[if_neg c1,if_pos c2,Int.neg_neg,and_self]
def lstF(r:Rt)(n:Nat)(o t t0:Int):List (Int×Int):=(Yg r).map dblT++[(2,2*(n:Int)*o),(273150+t,(n:Int)),(273150+t0, -(n:Int))]
structure NR (r:Rt) (n:Nat):Prop where
 hn:r.n=n
 rng:1<=n/\n<=1000
 rep:∃L a b c,Rep L r a b c
 u:UP r.a r.b r.c^8<=UP (-r.a) (-r.b) (-r.c)^8*2^(9*n)
 d:UP (-r.a) (-r.b) (-r.c)^8<=UP r.a r.b r.c^8*2^(9*n)
theorem Yl6{T:Tm}(h:Y4 T=0){note:Int}(hn:0<=note):∃(r:Rt) (n:Nat),YcI (Yj T) note=r/\NR r n:=by
 obtain⟨r,n,h1,h2,h3,h4,h5,h6⟩:=YuX h hn
 exact⟨r,n,h1,⟨h2,h3,h4,h5,h6⟩⟩
theorem NR.ok{r:Rt}{n:Nat}(h:NR r n):chkR r=0:=by
 obtain⟨_,_,_,_,hr⟩:=h.rep
 exact hr.ok
theorem Yd3{T:Tm}{r:Rt}{n:Nat}{t t0 note:Int}(hr:YcI (Yj T) note=r)(h:NR r n):Yn (Yj T) t0 t note=(lstF r n (note/12-5) t t0,2*(n:Int)):=by
 unfold Yn lstF trmL trmD
 rw[hr,if_pos h.ok,if_pos h.ok,h.hn]
theorem YuH{r:Rt}{n:Nat}{o t t0:Int}(h:NR r n)(ht:YH t=true)(ht0:YH t0=true):
   upP (lstF r n o t t0)=UP r.a r.b r.c^2*(UP (2*(n:Int)*o) 0 0*(273150+t).toNat^n)/\dnP (lstF r n o t t0)=UP (-r.a) (-r.b) (-r.c)^2*(UP (-(2*(n:Int)*o)) 0 0*(273150+t0).toNat^n):=by
 obtain⟨_,_,_,_,hr⟩:=h.rep
 obtain⟨tu,td⟩:=Ylw hr
 have hn:=h.rng
 unfold lstF
 rw[(Yav _ _).1,(Yav _ _).2,(Yxe _).1,(Yxe _).2,tu,td]
 have h1:¬((n:Int)<0):=by omega
 have h2: -(n:Int)<0:=by omega
 have e:upP [(2,2*(n:Int)*o),(273150+t,(n:Int)),(273150+t0, -(n:Int))]=UP (2*(n:Int)*o) 0 0*(273150+t).toNat^n/\dnP [(2,2*(n:Int)*o),(273150+t,(n:Int)),(273150+t0, -(n:Int))]=UP (-(2*(n:Int)*o)) 0 0*(273150+t0).toNat^n:=by
   have a:=Ylv [] (2*(n:Int)*o)
   simp only[List.nil_append,upP,dnP,if_neg h1,if_pos h2,YEB,Int.neg_neg,YFI,YFo]at a⊢
   rw[a.1,a.2]
   exact⟨rfl,rfl⟩
 rw[e.1,e.2]
 exact⟨rfl,rfl⟩
theorem YgX{r:Rt}{n:Nat}{o t t0:Int}(h:NR r n)(ht:YH t=true)(ht0:YH t0=true)(ho: -5<=o/\o<=6):(∀x,x∈lstF r n o t t0->okU x/\x.1<=1000000/\ -1000000<=x.2/\x.2<=1000000)/\(lstF r n o t t0).length<=9:=by
 have ht:=Yar ht
 have ht0:=Yar ht0
 have hn:=h.rng
 have hlen:=YbB r
 constructor
 . intro x hx
   unfold lstF at hx
   rw[YE3,YFz]at hx
   rcases hx with⟨y,hy,rfl⟩ |hx
   . have:=YjW h.ok y hy
     unfold okU dblT;simp only;omega
   . have hm:=Yam (x:=2*(n:Int)) (y:=o) (X:=2000) (Y:=6) (by omega) (by omega)
     simp only[YE5,List.not_mem_nil,or_false]at hx
     unfold okU
     rcases hx with rfl|rfl|rfl <;> simp only <;> omega
 . unfold lstF
   rw[YE8,List.length_map]
   simp only[YFb,YFh]
   omega
theorem Ynp{l:List (Int×Int)}(h:∀x,x∈l->okU x/\x.1<=1000000/\ -1000000<=x.2/\x.2<=1000000)(hn:l.length<=16):Ycx l=0:=by
 unfold Ycx
 rw[if_neg (by omega),if_neg]
 rw[List.any_eq_true]
 rintro⟨x,hx,ho⟩
 obtain⟨h1,h2,h3,h4⟩:=h x hx
 have:=h1.1
 simp only[okT0,YFn,decide_eq_true_eq]at ho
 omega
theorem Yft{n:Nat}(h:n<2^29\/n=331300000000):wP n<=2^52:=by
 unfold wP
 split
 . decide
 . split
   . decide
   . exact YEK _
theorem YuI{r:Rt}{n:Nat}{o t t0:Int}(h:NR r n)(ht:YH t=true)(ht0:YH t0=true):upS wP (lstF r n o t t0)+dnS wP (lstF r n o t t0)<=400000+n*2^53:=by
 obtain⟨_,_,_,_,hr⟩:=h.rep
 have tw:=Yio hr
 have ht:=Yar ht
 have ht0:=Yar ht0
 unfold lstF
 rw[(Y7 wP _ _).1,(Y7 wP _ _).2,(Yxf wP _).1,(Yxf wP _).2]
 have h1:¬((n:Int)<0):=by omega
 have w1:=Yft (n:=(273150+t).toNat) (Or.inl (by omega))
 have w2:=Yft (n:=(273150+t0).toNat) (Or.inl (by omega))
 have m1:=YEF n w1
 have m2:=YEF n w2
 have e:upS wP [(2,2*(n:Int)*o),(273150+t,(n:Int)),(273150+t0, -(n:Int))]+dnS wP [(2,2*(n:Int)*o),(273150+t,(n:Int)),(273150+t0, -(n:Int))]<=wP (273150+t).toNat*n+wP (273150+t0).toNat*n:=by
   have z:wP (2:Int).toNat=0:=rfl
   simp only[upS,dnS,if_neg h1,z,Nat.zero_mul,ite_self,YEB,Int.neg_neg]
   split
   . omega
   . rename_i h2
     have:n=0:=by omega
     subst this
     simp
 omega
theorem YA3{n:Nat}{o:Int}(h:o<=6):UP (2*(n:Int)*o) 0 0<=UP (-(2*(n:Int)*o)) 0 0*64^(2*n):=by
 have hm:(2*(n:Int))*o<=2*(n:Int)*6:=YEM h (by omega)
 unfold UP
 simp only[Int.toNat_zero,Nat.pow_zero,YFI]
 rw[show(64:Nat)=2^6 from rfl,<-YET,<-YEO]
 exact YE7 (by decide) (by omega)
theorem YpH{n:Nat}{o:Int}(h: -5<=o):UP (-(2*(n:Int)*o)) 0 0<=UP (2*(n:Int)*o) 0 0*32^(2*n):=by
 have hm:2*(n:Int)*(-5)<=2*(n:Int)*o:=YEM h (by omega)
 unfold UP
 simp only[Int.toNat_zero,Nat.pow_zero,YFI]
 rw[show(32:Nat)=2^5 from rfl,<-YET,<-YEO]
 exact YE7 (by decide) (by omega)
theorem Ymb{U V E F n c x y s B:Nat}(hn:1<=n)(hV:0<V)(hF:0<F)(h1:U^8<=V^8*2^(9*n))(h2:E<=F*c^(2*n))(h:2^9*c^8*x^4*s^8<y^4*B^8):
   U^2*(E*x^n)*s^(2*n)<V^2*(F*y^n)*B^(2*n):=by
 refine(Nat.pow_lt_pow_iff_left (show 4≠0 by decide)).1 ?_
 have e1:(U^2*(E*x^n)*s^(2*n))^4=U^8*E^4*((x^4*s^8)^n):=by
   simp only[YEZ,<-YET]
   rw[show 2*4=8 from rfl,YEJ n 4,show 2*n*4=8*n by omega]
   simp only[YEH]
 have e2:(V^2*(F*y^n)*B^(2*n))^4=V^8*F^4*((y^4*B^8)^n):=by
   simp only[YEZ,<-YET]
   rw[show 2*4=8 from rfl,YEJ n 4,show 2*n*4=8*n by omega]
   simp only[YEH]
 rw[e1,e2]
 have h3:=YEP h2 4
 rw[YEZ,<-YET]at h3
 have h4:=YEF ((x^4*s^8)^n) (YEV h1 h3)
 refine YFp h4 ?_
 have e3:V^8*2^(9*n)*(F^4*c^(2*n*4))*(x^4*s^8)^n=V^8*F^4*(2^9*c^8*x^4*s^8)^n:=by
   rw[YET 2 9,show 2*n*4=8*n by omega,YET c 8,YEH (2^9*c^8),YEZ (2^9*c^8),YEZ (2^9)]
   generalize(2^9)^n=p at*
   generalize(c^8)^n=q at*
   generalize(x^4*s^8)^n=z at*
   generalize V^8=v at*
   generalize F^4=f at*
   grind
 rw[e3]
 refine Nat.mul_lt_mul_of_pos_left ?_ (YFm (YFj hV) (YFj hF))
 exact Nat.pow_lt_pow_left h (by omega)
def Ylr(k:Nat)(ex:Bool):Int×Int:=if ex=true then((k:Int),(k:Int))else((k:Int),(k:Int)+1)
theorem YjD{s:Int}{l:List (Int×Int)}{den:Int}{k:Nat}(h:(Yd8 s l den).1=(k:Int))(hk:k<2^29):pspF s l den=Ylr k (Yd8 s l den).2.1:=by
 unfold pspF Ylr
 rw[h]
 split
 . rfl
 . rw[YED ((k:Int)+1) (by omega)]
theorem Yal{t:Int}(h:YH t=true):253150<=(273150+t).toNat/\(273150+t).toNat<=323150:=by
 have:=Yar h
 omega
theorem Yyi{x y a:Nat}(hx:x<=323150)(hy:253150<=y)(ha:a<=1000000):2^9*64^8*x^4*a^8<y^4*160000000^8:=by
 have h1:=YEP hx 4
 have h2:=YEP hy 4
 have h3:=YEP ha 8
 exact YFp (YEV (YEG _ h1) h3) (YFq (show 2^9*64^8*323150^4*1000000^8<253150^4*160000000^8 by decide+kernel) (YEF _ h2))
theorem YqQ{a t0 t note:Int}{T:Tm}{r:Rt}{n:Nat}(hS:chkS a t0 t=0)(hn:0<=note/\note<=139)(hr:YcI (Yj T) note=r)(h:NR r n):
   ∃k ex,Yc7 (Yj T) t0 t note a=Ylr k ex/\PowR (lstF r n (note/12-5) t t0) a.toNat (2*n) 160000000 k ex:=by
 obtain⟨ha,h0,h1⟩:=Ybi hS
 have ho: -5<=note/12-5/\note/12-5<=6:=by omega
 obtain⟨l1,l2⟩:=YgX h h1 h0 ho
 obtain⟨p1,p2⟩:=YuH (o:=note/12-5) h h1 h0
 have hs:=YuI (o:=note/12-5) h h1 h0
 have hrn:=h.rng
 have t1:=Yal h1
 have t2:=Yal h0
 have posV:=YaA (-r.a) (-r.b) (-r.c)
 have posF:=YaA (-(2*(n:Int)*(note/12-5))) 0 0
 have hw:wide (lstF r n (note/12-5) t t0) a.toNat (2*n):=by
   have w:=YEF (2*n) (Yft (n:=a.toNat) (Or.inl (by omega)))
   unfold wide
   omega
 have hY:0<dnP (lstF r n (note/12-5) t t0):=by
   rw[p2]
   exact YFm (YFj posV) (YFm posF (YFj (by omega)))
 have hB:upP (lstF r n (note/12-5) t t0)*a.toNat^(2*n)<dnP (lstF r n (note/12-5) t t0)*160000000^(2*n):=by
   rw[p1,p2]
   exact Ymb hrn.1 posV posF h.u (YA3 ho.2) (Yyi t1.2 t2.1 (by omega))
 obtain⟨k,hk,hp⟩:=Yl9 (s:=a.toNat) (den:=2*n) (B:=160000000) (Ynp l1 (by omega)) (fun x hx=>(l1 x hx).1) (by omega) (by omega) hw hY hB (by decide)
 have ea:((a.toNat:Nat):Int)=a:=YFa (by omega)
 rw[ea]at hk hp
 refine⟨k,_,?_,hp⟩
 unfold Yc7
 rw[Yd3 hr h]
 have e2:2*(n:Int)=((2*n:Nat):Int):=by omega
 simp only
 rw[e2]
 exact YjD hk (Nat.lt_of_succ_lt hp.lt)
def lstW(r:Rt)(n:Nat)(o a t0:Int):List (Int×Int):=(lstF r n o t0 t0).map ngT++[(a, -(2*(n:Int))),(273150+t0,(n:Int)),(273150, -(n:Int))]
theorem Yv8{r:Rt}{n:Nat}{o a t0:Int}(h:NR r n)(ht0:YH t0=true)(ho: -5<=o/\o<=6):
   upP (lstW r n o a t0)=dnP (lstF r n o t0 t0)*(273150+t0).toNat^n/\dnP (lstW r n o a t0)=upP (lstF r n o t0 t0)*(a.toNat^(2*n)*273150^n):=by
 obtain⟨l1,l2⟩:=YgX h ht0 ht0 ho
 have hn:=h.rng
 unfold lstW
 rw[(Yav _ _).1,(Yav _ _).2,(ng_P _ fun x hx=>(l1 x hx).1).1,(ng_P _ fun x hx=>(l1 x hx).1).2]
 have h1:¬((n:Int)<0):=by omega
 have h2: -(n:Int)<0:=by omega
 have h3: -(2*(n:Int))<0:=by omega
 have e:(2*(n:Int)).toNat=2*n:=by omega
 have e3:(273150:Int).toNat=273150:=rfl
 simp only[upP,dnP,if_neg h1,if_pos h2,if_pos h3,YEB,Int.neg_neg,YFI,YFo,e,e3,and_self]
theorem YCe{r:Rt}{n:Nat}{o a t0:Int}(h:NR r n)(ht0:YH t0=true)(ho: -5<=o/\o<=6)(ha:100000<=a/\a<=1000000):upS wP (lstW r n o a t0)+dnS wP (lstW r n o a t0)<=400000+6*(n*2^52):=by
 obtain⟨l1,l2⟩:=YgX h ht0 ht0 ho
 have hs:=YuI (o:=o) h ht0 ht0
 have hn:=h.rng
 have t2:=Yal ht0
 unfold lstW
 rw[(Y7 wP _ _).1,(Y7 wP _ _).2,(ng_S wP _ fun x hx=>(l1 x hx).1).1,(ng_S wP _ fun x hx=>(l1 x hx).1).2]
 have h1:¬((n:Int)<0):=by omega
 have h2: -(n:Int)<0:=by omega
 have h3: -(2*(n:Int))<0:=by omega
 have e:(2*(n:Int)).toNat=2*n:=by omega
 have w1:=YEF (2*n) (Yft (n:=a.toNat) (Or.inl (by omega)))
 have w2:=YEF n (Yft (n:=(273150+t0).toNat) (Or.inl (by omega)))
 have w3:=YEF n (Yft (n:=(273150:Int).toNat) (Or.inl (by decide)))
 simp only[upS,dnS,if_neg h1,if_pos h2,if_pos h3,YEB,Int.neg_neg,e]
 omega
theorem Yyj{x a:Nat}(hx:x<=323150)(ha:100000<=a):2^9*32^8*x^4*331300000000^8<(a^2*273150)^4*260000000^8:=by
 have h1:=YEP hx 4
 have h2:=YEP (YEF 273150 (YEP ha 2)) 4
 exact YFp (YEF _ (YEG _ h1)) (YFq (show 2^9*32^8*323150^4*331300000000^8<(100000^2*273150)^4*260000000^8 by decide+kernel) (YEF _ h2))
theorem YAc{T:Tm}{r:Rt}{n:Nat}{a t0 note:Int}(hr:YcI (Yj T) note=r)(h:NR r n):wavL (Yj T) a t0 note=lstW r n (note/12-5) a t0:=by
 have hn:=h.rng
 unfold wavL lstW
 rw[Yd3 hr h]
 simp only
 rw[YED (0-2*(n:Int)) (by omega),show(2*(n:Int)).tdiv 2=n by rw[Int.mul_comm];exact Int.mul_tdiv_cancel _ (by decide),YED (n:Int) (by omega),show(0-2*(n:Int))= -(n:Int)*2 by omega,Int.mul_tdiv_cancel _ (by decide),YED (-(n:Int)) (by omega),show -(n:Int)*2= -(2*(n:Int))by omega]
 rfl
theorem YAd{a t0 t note:Int}{T:Tm}{r:Rt}{n:Nat}(hS:chkS a t0 t=0)(hn:0<=note/\note<=139)(hr:YcI (Yj T) note=r)(h:NR r n):
   ∃k ex,wavF (Yj T) a t0 note=Ylr k ex/\PowR (lstW r n (note/12-5) a t0) 331300000000 (2*n) 260000000 k ex:=by
 obtain⟨ha,h0,h1⟩:=Ybi hS
 have ho: -5<=note/12-5/\note/12-5<=6:=by omega
 obtain⟨l1,l2⟩:=YgX h h0 h0 ho
 obtain⟨p1,p2⟩:=YuH (o:=note/12-5) h h0 h0
 obtain⟨q1,q2⟩:=Yv8 (a:=a) h h0 ho
 have hs:=YCe h h0 ho ha
 have hrn:=h.rng
 have t2:=Yal h0
 have t0r:=Yar h0
 have posU:=YaA r.a r.b r.c
 have posE:=YaA (2*(n:Int)*(note/12-5)) 0 0
 have okl:∀x,x∈lstW r n (note/12-5) a t0->okU x/\x.1<=1000000/\ -1000000<=x.2/\x.2<=1000000:=by
   intro x hx
   unfold lstW at hx
   rw[YE3,YFz]at hx
   rcases hx with⟨y,hy,rfl⟩ |hx
   . obtain⟨y1,y2,y3,y4⟩:=l1 y hy
     rw[Ydi y1]
     unfold okU at y1⊢
     simp only
     omega
   . simp only[YE5,List.not_mem_nil,or_false]at hx
     unfold okU
     rcases hx with rfl|rfl|rfl <;> simp only <;> omega
 have lenl:(lstW r n (note/12-5) a t0).length<=16:=by
   unfold lstW
   rw[YE8,List.length_map]
   simp only[YFb,YFh]
   omega
 have hw:wide (lstW r n (note/12-5) a t0) 331300000000 (2*n):=by
   have w:=YEF (2*n) (Yft (n:=331300000000) (Or.inr rfl))
   unfold wide
   omega
 have hY:0<dnP (lstW r n (note/12-5) a t0):=by
   rw[q2,p1]
   exact YFm (YFm (YFj posU) (YFm posE (YFj (by omega)))) (YFm (YFj (by omega)) (YFj (by decide)))
 have hB:upP (lstW r n (note/12-5) a t0)*331300000000^(2*n)<dnP (lstW r n (note/12-5) a t0)*260000000^(2*n):=by
   have h3:=Ymb (s:=331300000000) (B:=260000000) hrn.1 posU posE h.d (YpH ho.1) (Yyj (a:=a.toNat) t2.2 (by omega))
   rw[q1,q2,p1,p2]
   have hx:0<(273150+t0).toNat^n:=YFj (by omega)
   have e1:a.toNat^(2*n)*273150^n=(a.toNat^2*273150)^n:=by rw[YEZ,<-YET]
   rw[e1]
   generalize(a.toNat^2*273150)^n=y at*
   generalize(273150+t0).toNat^n=x at*
   generalize UP (-r.a) (-r.b) (-r.c)^2=V at*
   generalize UP r.a r.b r.c^2=U at*
   generalize UP (-(2*(n:Int)*(note/12-5))) 0 0=F at*
   generalize UP (2*(n:Int)*(note/12-5)) 0 0=E at*
   have h4:=Nat.mul_lt_mul_of_pos_right h3 hx
   refine YFp (YFA ?_) (YFq h4 (YFA ?_))
   . grind
   . grind
 obtain⟨k,hk,hp⟩:=Yl9 (s:=331300000000) (den:=2*n) (B:=260000000) (Ynp okl lenl) (fun x hx=>(okl x hx).1) (by decide) (by omega) hw hY hB (by decide)
 refine⟨k,_,?_,hp⟩
 unfold wavF
 rw[YAc hr h,Yd3 hr h]
 have e2:2*(n:Int)=((2*n:Nat):Int):=by omega
 simp only
 rw[e2]
 exact YjD hk (Nat.lt_of_succ_lt hp.lt)
theorem PowR.le_of{l:List (Int×Int)}{s den B r v:Nat}{ex:Bool}(h:PowR l s den B r ex)(hd:1<=den)(hY:0<dnP l)(hv:v<2^30)(hx:upP l*s^den<=dnP l*v^den):r<=v:=by
 rcases YFk r with h0|h0
 . omega
 . have h1:=h.near h0
   have h1':(dnP l*r^den)^QJ<=(upP l*s^den)^QJ*2^(den*(0*QJ+2^55)):=by rw[Nat.zero_mul,YFv];exact h1
   have h2:=Ydh (t:=2^40) (show 1<=QJ by rw[Ye9];decide) (by rw[Ye9];decide) (by decide) h1'
   have h3:dnP l*(r*2^40)^den<=dnP l*(v*(2^0*(2^40+1)))^den:=by
     refine YEQ h2 ?_
     rw[YEZ v,<-YEH]
     exact YEF _ hx
   have h4:=Nat.le_of_mul_le_mul_left h3 hY
   have h5:=(Nat.pow_le_pow_iff_left (show den≠0 by omega)).1 h4
   omega
theorem PowR.root{l:List (Int×Int)}{s den B r:Nat}{ex:Bool}(h:PowR l s den B r ex)(h0:1<=r){t:Nat}(ht:1<=t)(ht2:2^55*t<=QJ):dnP l*(r*t)^den<=upP l*s^den*(t+1)^den:=by
 have h1:=h.near h0
 have h1':(dnP l*r^den)^QJ<=(upP l*s^den)^QJ*2^(den*(0*QJ+2^55)):=by rw[Nat.zero_mul,YFv];exact h1
 have h2:=Ydh (show 1<=QJ by rw[Ye9];decide) ht2 ht h1'
 rwa [Nat.pow_zero,YFo]at h2
theorem PowR.exact{l:List (Int×Int)}{s den B r v:Nat}{ex:Bool}(h:PowR l s den B r ex)(hd:1<=den)(hY:0<dnP l)(hv1:1<=v)(hv:v<2^29)(hx:upP l*s^den=dnP l*v^den):r=v/\ex=true:=by
 have h1:=h.le_of hd hY (by omega) (YFA hx)
 have h2:=h.tru v hv1 hv (YFA hx.symm)
 have e:r=v:=by omega
 subst e
 exact⟨rfl,h.ex_iff.2 ⟨hv1,hx⟩⟩
theorem YCg(g:Nat->Nat)(e:Int)(a b:List (Int×Int)):upS g (a++(2,e)::b)=upS g a+(g 2*e.toNat+upS g b)/\dnS g (a++(2,e)::b)=dnS g a+(g 2*(-e).toNat+dnS g b):=by
 rw[(Y7 g _ _).1,(Y7 g _ _).2,upS,dnS]
 by_cases c:e<0
 . simp only[if_pos c]
   rw[show e.toNat=0 by omega,Nat.mul_zero]
   exact⟨rfl,rfl⟩
 . simp only[if_neg c]
   rw[show(-e).toNat=0 by omega,Nat.mul_zero]
   exact⟨rfl,rfl⟩
set_option maxHeartbeats 8000000
def v17:VF:=⟨48,[.tmp 0],(ZR [u1 0 .mov [.cn (.bool false)]] (ZR [u1 8 (.call 46) [.cn (.int .i64 15000)],u1 9 (.call 47) [.cn (.val (.string ⟨#[101,113,117,97,108]⟩))],u1 10 (.call 8) [.tm 8,.tm 9,.cn (.int .i64 60)],Zm 7 10,Ze 11 0 7,Ze 12 1 7,Zn 1,Zs 2 1 11,Zm 2 12] (ZR [u1 14 (.call 46) [.cn (.int .i64 20000)],u1 15 (.call 47) [.cn (.val (.string ⟨#[101,113,117,97,108]⟩))],u1 16 (.call 8) [.tm 14,.tm 15,.cn (.int .i64 69)],Zm 13 16,Ze 17 0 13,Ze 18 1 13,Zn 3,Zs 2 3 17,Zm 4 18] (ZR [u1 20 (.call 46) [.cn (.int .i64 20000)],Zc 21 20 20,Zm 19 21,Ze 22 0 19,Ze 23 1 19,Zm 5 22,Zm 6 23] (ZR [Zm 24 2,Zq 25 .eql 24 0,Zm 26 25,Zg 27 26 true 4,u2 28 26 true (.cmp .eql) [.tm 27,.cn (.int .i64 0)],u1 29 .and [.tm 26,.tm 28],Zm 30 29,Zg 31 30 true 6,u2 32 30 true (.cmp .eql) [.tm 31,.cn (.int .i64 0)],u1 33 .and [.tm 30,.tm 32],Zm 34 33,u2 35 34 true (.load true 2) [.tm 1],u2 36 34 true (.build [(.int .i64 0),(.int .i64 0)] [(0,1),(1,1)]) [.cn (.int .i64 261625),.cn (.int .i64 261626)],u2 37 34 true (.eqv false [true,true]) [.tm 35,.tm 36],u1 38 .and [.tm 34,.tm 37],Zm 39 38,u2 40 39 true (.load true 2) [.tm 3],u2 41 39 true (.build [(.int .i64 0),(.int .i64 0)] [(0,1),(1,1)]) [.cn (.int .i64 443801),.cn (.int .i64 443802)],u2 42 39 true (.eqv false [true,true]) [.tm 40,.tm 41],u1 43 .and [.tm 39,.tm 42],Zm 44 43,Zg 45 44 true 5,u2 46 44 true (.cmp .eql) [.tm 45,.cn (.int .i64 14891)],u1 47 .and [.tm 44,.tm 46],Zm 0 47] .ret)))))⟩
theorem YDN:Yi YEC Tryz.f17=some v17:=by kernel_rfl
def v16:VF:=⟨23,[.tmp 4],(ZR [u1 2 .box [.tm 0],u1 4 .mov [.cn (.bool false)]] (ZR [Za 5 0 2,Zt 6 3 5,Zc 7 44 6,Zq 8 .eql 7 0,Zm 9 8,Zj 10 9 true 3 2,u2 11 9 true (.load true 27) [.tm 10],u2 12 9 true (.call 45) [.tm 11],u2 13 9 true (.cmp .eql) [.tm 12,.cn (.int .i64 0)],u1 14 .and [.tm 9,.tm 13],Zm 15 14,Zg 16 15 true 1,u2 17 15 true (.cmp .geq) [.tm 16,.cn (.int .i64 0)],u1 18 .and [.tm 15,.tm 17],Zm 19 18,Zg 20 19 true 1,u2 21 19 true (.cmp .leq) [.tm 20,.cn (.int .i64 139)],u1 22 .and [.tm 19,.tm 21],Zm 4 22] .ret))⟩
theorem Ywv:Yi YEC Tryz.f16=some v16:=by kernel_rfl
def v4:VF:=⟨118,[.tmp 4],(ZR [u1 2 .box [.tm 0],u1 4 .mov [.cn (.bool false)]] (.seq (ZR [Zt 15 30 2,Zm 16 1,Zd 17 16 15 16,u1 18 .not [.tm 17],Zm 19 18,u2 20 19 false (.load true 30) [.tm 2],Zg 21 19 false 1,u2 22 19 false (.ari .add) [.tm 21,.cn (.int .i64 12)],u2 23 19 false (.call 16) [.tm 20,.tm 22],u2 24 19 false .not [.tm 23],u1 25 .or [.tm 19,.tm 24]] (ZC 25 (ZR [u1 26 (.call 17) [],Zm 4 26] .ret) .skip)) (ZR [Za 28 0 2,Zt 29 3 28,Za 30 3 2,Zt 31 27 30,Zm 32 1,u1 33 (.call 8) [.tm 29,.tm 31,.tm 32],Zm 27 33,Ze 34 0 27,Ze 35 1 27,Zn 5,Zs 2 5 34,Zm 6 35] (ZR [Za 37 0 2,Zt 38 3 37,Za 39 3 2,Zt 40 27 39,Zm 41 1,Zp 42 41 12,u1 43 (.call 8) [.tm 38,.tm 40,.tm 42],Zm 36 43,Ze 44 0 36,Ze 45 1 36,Zn 7,Zs 2 7 44,Zm 8 45] (ZR [Za 47 0 2,Zt 48 3 47,Za 49 3 2,Zt 50 27 49,Zm 51 1,u1 52 (.call 18) [.tm 48,.tm 50,.tm 51],Zm 46 52,Ze 53 0 46,Ze 54 1 46,Zn 9,Zs 2 9 53,Zm 10 54] (ZR [Za 56 0 2,Zt 57 3 56,Za 58 3 2,Zt 59 27 58,Zm 60 1,Zp 61 60 12,u1 62 (.call 18) [.tm 57,.tm 59,.tm 61],Zm 55 62,Ze 63 0 55,Ze 64 1 55,Zn 11,Zs 2 11 63,Zm 12 64] (ZR [Za 65 0 2,Za 66 1 65,Zf 67 1 66,Za 68 0 2,Za 69 2 68,Zs 1 69 67] (ZR [Za 71 0 2,Zt 72 3 71,Za 73 3 2,Zt 74 27 73,u1 75 (.call 8) [.tm 72,.tm 74,.cn (.int .i64 69)],Zm 70 75,Ze 76 0 70,Ze 77 1 70,Zn 13,Zs 2 13 76,Zm 14 77] (.seq (ZR [Zm 78 6,Zq 79 .neq 78 0,Zm 80 79,Zg 81 80 false 8,u2 82 80 false (.cmp .neq) [.tm 81,.cn (.int .i64 0)],u1 83 .or [.tm 80,.tm 82],Zm 84 83,Zg 85 84 false 10,u2 86 84 false (.cmp .neq) [.tm 85,.cn (.int .i64 0)],u1 87 .or [.tm 84,.tm 86],Zm 88 87,Zg 89 88 false 12,u2 90 88 false (.cmp .neq) [.tm 89,.cn (.int .i64 0)],u1 91 .or [.tm 88,.tm 90],Zm 92 91,Zg 93 92 false 14,u2 94 92 false (.cmp .neq) [.tm 93,.cn (.int .i64 0)],u1 95 .or [.tm 92,.tm 94],Zm 96 95,u2 97 96 false (.load true 2) [.tm 13],Zj 98 96 false 0 2,Zj 99 96 false 0 98,Zh 100 96 false 1 99,Zj 101 96 false 0 2,Zj 102 96 false 0 101,Zh 103 96 false 1 102,u2 104 96 false (.build [(.int .i64 0),(.int .i64 0)] [(0,1),(1,1)]) [.tm 100,.tm 103],u2 105 96 false (.eqv true [true,true]) [.tm 97,.tm 104],u1 106 .or [.tm 96,.tm 105]] (ZC 106 (ZR [u1 4 .mov [.cn (.bool false)]] .ret) .skip)) (ZR [Zt 107 2 5,Zt 108 2 7,Zd 109 19 107 108,Zm 110 109,u2 111 110 true (.load true 2) [.tm 11],u2 112 110 true (.load true 2) [.tm 9],u2 113 110 true (.call 19) [.tm 111,.tm 112],u1 114 .and [.tm 110,.tm 113],Zm 115 114,u2 116 115 true (.call 17) [],u1 117 .and [.tm 115,.tm 116],Zm 4 117] .ret))))))))))⟩
theorem exf_5:Yc7 (Yj EQ) 15000 15000 60 440000=(261625,261626):=by decide+kernel
theorem exf_6:Yc7 (Yj EQ) 15000 20000 69 440000=(443801,443802):=by decide+kernel
theorem exd_1:drfF 15000 20000=14891:=by decide+kernel
theorem nmE6(m:Bool):(if m=true then MT else EQ).nm.size<=9223372036854775807:=by cases m <;> decide
theorem eqT:Y4 EQ=0:=by decide+kernel
def UA0:Env:={ ct:=fun n=>match n with|46=>some usu6C|47=>some nmdC|8=>some frq6C|20=>some drfC|_=>none,fn:=fun _=>none,meth:=fun _ _=>none}
theorem Ytv:UA0.ct 46=some usu6C:=rfl
theorem Ytw:UA0.ct 47=some nmdC:=rfl
theorem YwK:UA0.ct 8=some frq6C:=rfl
theorem Ytu:UA0.ct 20=some drfC:=rfl
theorem YA0:Ys YEC UA0:=by
 refine⟨fun f c h=>?_,fun f vf h=>?_,(fun _ _ _ h=>by cases h),by kernel_rfl,(fun _ h=>by cases h)⟩
 . simp only[UA0]at h
   split at h
   . cases h;exact⟨YDM,Tryz.f46,Tryz.func46,by kernel_rfl,by kernel_rfl⟩
   . cases h;exact⟨YCq,Tryz.f47,Tryz.func47,by kernel_rfl,by kernel_rfl⟩
   . cases h;exact⟨YqP,Tryz.f8,Tryz.func8,by kernel_rfl,by kernel_rfl⟩
   . cases h;exact⟨drf_c,Tryz.f20,Tryz.func20,by kernel_rfl,by kernel_rfl⟩
   . cases h
 . cases h
theorem Yne:trueC.ok YEC 17:=by
 refine Yc Tryz.func17 YDN YA0 600 trueC fun args k h=>?_
 simp only[trueC]at h
 split at h
 . refine⟨[],trivial,?_⟩
   have h:k (.bool true) []:=h
   dsimp only[v17,YfX,lenT,Ytv,Ytw,YwK,Ytu,usu6C,nmdC,frq6C,drfC,go_sem,reduceIte,YEx]
   simp only[Yd,YEx,YEz,reduceCtorEq,YEy]
   refine⟨false,rfl,EQ,⟨rfl,nmE6 false,by decide,eqT,by decide⟩,by decide,by decide,false,rfl,EQ,⟨rfl,nmE6 false,by decide,eqT,by decide⟩,by decide,by decide,by decide,by decide,by decide,?_⟩
   rw[exf_5,exf_6,exd_1]
   exact YC h
 . exact h.1.elim
def Yql(a t0 t:Int)(T:Tm):List SV:= .int .i64 a:: .int .i64 t0:: .int .i64 t::encT T
def shp6:List Sh:=[.int .i64,.int .i64,.int .i64,.str,.bool,.int .i64,.int .i64,.int .i64,.int .i64,.int .i64,.int .i64,.int .i64,.int .i64,.int .i64,.int .i64,.int .i64,.int .i64,.int .i64,.int .i64,.int .i64,.int .i64,.int .i64,.int .i64,.int .i64,.int .i64,.int .i64,.int .i64,.int .i64,.int .i64,.int .i64]
def tmOf(nm:ByteArray)(syn:Bool)(w:Int)(l:List Int):Tm:=⟨nm,syn,w,fun i=>(l.getD (2*i) 0,l.getD (2*i+1) 0)⟩
theorem YA{l:List Sh}{c:List SV}(h:okSL (.int .i64::l) c):∃(x:Int) (r:List SV),c= .int .i64 x::r/\okSL l r:=by
 obtain⟨v,r,rfl,h1,h2⟩:=YcJ h
 obtain⟨a,rfl,_⟩:=YcK h1
 exact⟨a,r,rfl,h2⟩
theorem Ynm{cs:List SV}(h:okSL shp6 cs):∃(a t0 t:Int) (T:Tm),cs=Yql a t0 t T/\T.nm.size<=maxLen:=by
 obtain⟨a,r0,e0,h0⟩:=YA h
 obtain⟨t0,r1,e1,h1⟩:=YA h0
 obtain⟨t,r2,e2,h2⟩:=YA h1
 obtain⟨v3,r3,e3,⟨nm,u3,hnm⟩,h3⟩:=YcJ h2
 obtain⟨v4,r4,e4,⟨syn,u4⟩,h4⟩:=YcJ h3
 obtain⟨w,r5,e5,h5⟩:=YA h4
 obtain⟨x0,r6,e6,h6⟩:=YA h5
 obtain⟨x1,r7,e7,h7⟩:=YA h6
 obtain⟨x2,r8,e8,h8⟩:=YA h7
 obtain⟨x3,r9,e9,h9⟩:=YA h8
 obtain⟨x4,r10,e10,h10⟩:=YA h9
 obtain⟨x5,r11,e11,h11⟩:=YA h10
 obtain⟨x6,r12,e12,h12⟩:=YA h11
 obtain⟨x7,r13,e13,h13⟩:=YA h12
 obtain⟨x8,r14,e14,h14⟩:=YA h13
 obtain⟨x9,r15,e15,h15⟩:=YA h14
 obtain⟨x10,r16,e16,h16⟩:=YA h15
 obtain⟨x11,r17,e17,h17⟩:=YA h16
 obtain⟨x12,r18,e18,h18⟩:=YA h17
 obtain⟨x13,r19,e19,h19⟩:=YA h18
 obtain⟨x14,r20,e20,h20⟩:=YA h19
 obtain⟨x15,r21,e21,h21⟩:=YA h20
 obtain⟨x16,r22,e22,h22⟩:=YA h21
 obtain⟨x17,r23,e23,h23⟩:=YA h22
 obtain⟨x18,r24,e24,h24⟩:=YA h23
 obtain⟨x19,r25,e25,h25⟩:=YA h24
 obtain⟨x20,r26,e26,h26⟩:=YA h25
 obtain⟨x21,r27,e27,h27⟩:=YA h26
 obtain⟨x22,r28,e28,h28⟩:=YA h27
 obtain⟨x23,r29,e29,h29⟩:=YA h28
 have e30:=Yk7 h29
 exact⟨a,t0,t,tmOf nm syn w [x0,x1,x2,x3,x4,x5,x6,x7,x8,x9,x10,x11,x12,x13,x14,x15,x16,x17,x18,x19,x20,x21,x22,x23],by rw[e0,e1,e2,e3,u3,e4,u4,e5,e6,e7,e8,e9,e10,e11,e12,e13,e14,e15,e16,e17,e18,e19,e20,e21,e22,e23,e24,e25,e26,e27,e28,e29,e30];rfl,hnm⟩
theorem vw_T(b:Bool)(hp:List HO)(f:List SV->List SV)(T:Tm):Yct b hp f (encT T)=encT T:=rfl
theorem sp_T(T:Tm):YQ (encT T) 0 []=encT T:=rfl
theorem Yum{k:Nat}(h1:1<=k)(h2:k+1<2^29):hiN k<=hiN (k+1):=by
 have s:=Yh7 h1 h2
 have hn:=Yjx (Yge (n:=k) h1 (by omega))
 omega
theorem YvX:∀{d k:Nat},1<=k->k+d<2^29->hiN k<=hiN (k+d)
 |0,_,_,_=>YEK _
 |d+1,k,h1,h2=>YEQ (YvX (d:=d) h1 (by omega)) (Yum (k:=k+d) (by omega) (by omega))
def lstD(x y:Nat)(m:Int):List (Int×Int):=[((x:Int),600000),((y:Int), -600000),(2, -m)]
theorem Ygd{x y:Nat}{m:Int}(hx:1<=x/\x<=1000000)(hy:1<=y/\y<=1000000)(hm: -1000000000000<=m/\m<=1000000000001):0<=Yaz (lstD x y m)↔loN y*600000+W2*m.toNat<=hiN x*600000+W2*(-m).toNat:=by
 have hok:∀z,z∈lstD x y m->okU z:=by
   intro z hz
   simp only[lstD,YE5,List.not_mem_nil,or_false]at hz
   unfold okU
   rcases hz with rfl|rfl|rfl <;> simp only <;> omega
 rw[Yhk hok (by simp [lstD])]
 have e:=YCg loN (-m) [((x:Int),600000),((y:Int), -600000)] []
 have e':=YCg hiN (-m) [((x:Int),600000),((y:Int), -600000)] []
 have e1:lstD x y m=[((x:Int),600000),((y:Int), -600000)]++(2, -m):: []:=rfl
 rw[e1,e.2,e'.1,lo_2.1,lo_2.2,Int.neg_neg]
 have c1:¬((600000:Int)<0):=by decide
 have c2:(-600000:Int)<0:=by decide
 have n1:(600000:Int).toNat=600000:=rfl
 have n2:(-(-600000):Int).toNat=600000:=rfl
 simp only[upS,dnS,if_neg c1,if_pos c2,YEB,n1,n2,Nat.add_zero,YFv]
theorem YqG{t0 t:Int}(h0:YH t0=true)(h1:YH t=true):0<=Yaz (lstD (273150+t).toNat (273150+t0).toNat (drfF t0 t))/\¬0<=Yaz (lstD (273150+t).toNat (273150+t0).toNat (drfF t0 t+1))/\ -1000000000000<=drfF t0 t/\drfF t0 t<=1000000000000:=by
 have r1:=Yal h1
 have r0:=Yal h0
 have b1:=Yar h1
 have b0:=Yar h0
 have e1:(((273150+t).toNat:Nat):Int)=273150+t:=by omega
 have e0:(((273150+t0).toNat:Nat):Int)=273150+t0:=by omega
 obtain⟨f,hf⟩:∃f,f=isG ([(273150+t,1),(273150+t0, -1)].map (sclT 600000)) 1:=⟨_,rfl⟩
 have hfm:∀m:Int,f m=decide (0<=Yaz (lstD (273150+t).toNat (273150+t0).toNat m)):=fun m=>by
   have e2: -m*1= -m:=by omega
   rw[hf,isG,atG,lstD,e1,e0,e2]
   rfl
 have le64:∀n:Nat,1<=n->n<1000000->loN n<=hiN n/\hiN n<=64*W2:=fun n k1 k2=>Yjt k1 (by omega)
 have q1:=le64 _ (show 1<=(273150+t).toNat by omega) (by omega)
 have q0:=le64 _ (show 1<=(273150+t0).toNat by omega) (by omega)
 have hW:0<W2:=Ypa
 have htop:f 1000000000001=false:=by
   rw[hfm,decide_eq_false_iff_not,Ygd (by omega) (by omega) (by decide)]
   have n1:(1000000000001:Int).toNat=1000000000001:=rfl
   have n2:(-1000000000001:Int).toNat=0:=rfl
   rw[n1,n2]
   omega
 have hbot:f (-1000000000000)=true:=by
   rw[hfm,decide_eq_true_eq,Ygd (by omega) (by omega) (by decide)]
   have n1:(-1000000000000:Int).toNat=0:=rfl
   have n2:(-(-1000000000000):Int).toNat=1000000000000:=rfl
   rw[n1,n2]
   omega
 have hok:Ycx [(273150+t,1),(273150+t0, -1)]=0:=by
   refine Ynp (fun x hx=>?_) (by simp)
   simp only[YE5,List.not_mem_nil,or_false]at hx
   unfold okU
   rcases hx with rfl|rfl <;> simp only <;> omega
 have hfl:drfF t0 t=bisL 64 f (-1000000000000) 1000000000001:=by
   unfold drfF flrF
   rw[if_neg (by rw[hok];decide),if_neg (by decide)]
   unfold flrG
   rw[<-hf,if_neg (by rw[htop,hbot];decide)]
 obtain⟨s1,s2⟩:=YdJ (t:=f) 64 (-1000000000000) 1000000000001 (by decide) (by decide)
 have hr:=YeE (t:=f) 64 (-1000000000000) 1000000000001 (by decide)
 rw[<-hfl]at s1 s2 hr
 have hk:f (drfF t0 t)=true:=by
   rcases s1 with e|e
   . rw[e];exact hbot
   . exact e
 have hk1:f (drfF t0 t+1)=false:=by
   rcases s2 with e|e
   . rw[e];exact htop
   . exact e
 rw[hfm,decide_eq_true_eq]at hk
 rw[hfm,decide_eq_false_iff_not]at hk1
 exact⟨hk,hk1,hr.1,by omega⟩
theorem Yxv{A B C D B' C' D':Nat}(h:A+B<=C+D)(h1:C<=C')(h2:B'<=B)(h3:D<=D'):A+B'<=C'+D':=by omega
theorem Ynz{t0 t u:Int}(h0:YH t0=true)(h1:YH t=true)(h2:YH u=true)(h:t<=u):drfF t0 t<=drfF t0 u:=by
 have r0:=Yal h0
 have r1:=Yal h1
 have r2:=Yal h2
 obtain⟨a1,_,a3,a4⟩:=YqG h0 h1
 obtain⟨_,b2,b3,b4⟩:=YqG h0 h2
 refine Int.not_lt.1 fun hlt=>b2 ?_
 rw[Ygd (by omega) (by omega) (by omega)]at a1
 rw[Ygd (by omega) (by omega) (by omega)]
 have hm:=YvX (k:=(273150+t).toNat) (d:=(273150+u).toNat-(273150+t).toNat) (by omega) (by omega)
 rw[show(273150+t).toNat+((273150+u).toNat-(273150+t).toNat)=(273150+u).toNat by omega]at hm
 have m1:=YEF 600000 hm
 have m2:=YEG W2 (show(drfF t0 u+1).toNat<=(drfF t0 t).toNat by omega)
 have m3:=YEG W2 (show(-(drfF t0 t)).toNat<=(-(drfF t0 u+1)).toNat by omega)
 exact Yxv a1 m1 m2 m3
theorem Yy8{t:Int}(h:YH t=true):∃k ex,Ybm t=(Ylr k ex,0)/\PowR [(273150+t,1),(273150, -1)] 331300000 2 370000000 k ex:=by
 have r1:=Yal h
 have b1:=Yar h
 have okl:∀x,x∈ [(273150+t,(1:Int)),(273150, -1)]->okU x/\x.1<=1000000/\ -1000000<=x.2/\x.2<=1000000:=by
   intro x hx
   simp only[YE5,List.not_mem_nil,or_false]at hx
   unfold okU
   rcases hx with rfl|rfl <;> simp only <;> omega
 have e:upP [(273150+t,1),(273150, -1)]=(273150+t).toNat/\dnP [(273150+t,1),(273150, -1)]=273150:=by
   simp [upP,dnP]
 have w1:=Yft (n:=(273150+t).toNat) (Or.inl (by omega))
 have w2:=Yft (n:=273150) (Or.inl (by decide))
 have w3:=Yft (n:=331300000) (Or.inl (by decide))
 have hw:wide [(273150+t,1),(273150, -1)] 331300000 2:=by
   have e3:upS wP [(273150+t,1),(273150, -1)]+dnS wP [(273150+t,1),(273150, -1)]=wP (273150+t).toNat+wP 273150:=by
     simp [upS,dnS]
   unfold wide
   rw[e3]
   omega
 obtain⟨k,hk,hp⟩:=Yl9 (s:=331300000) (den:=2) (B:=370000000) (Ynp okl (by simp)) (fun x hx=>(okl x hx).1) (by decide) (by decide) hw (by rw[e.2];decide) (by
   rw[e.1,e.2]
   have:=YEF (331300000^2) r1.2
   omega) (by decide)
 refine⟨k,_,?_,hp⟩
 unfold Ybm
 rw[if_pos h]
 exact Prod.ext (YjD hk (Nat.lt_of_succ_lt hp.lt)) rfl
theorem Ygk(k:Nat)(ex:Bool):(Ylr k ex).1=k/\∃h:Nat,(Ylr k ex).2=h/\k<=h/\h<=k+1/\(ex=true->h=k)/\(ex=false->h=k+1):=by
 unfold Ylr
 cases ex
 . exact⟨rfl,k+1,rfl,by omega,by omega,by simp,by simp⟩
 . exact⟨rfl,k,rfl,by omega,by omega,by simp,by simp⟩
theorem PowR.hi{l:List (Int×Int)}{s den B k h:Nat}{ex:Bool}(p:PowR l s den B k ex)(h1:ex=true->h=k)(h2:ex=false->h=k+1):upP l*s^den<=dnP l*h^den:=by
 cases hx:ex
 . rw[h2 hx];exact YFJ p.up
 . rw[h1 hx];exact YFA (p.ex_iff.1 hx).2
theorem YuP{X Y X' Y' K K' den e Q:Nat}(h:(Y*K^den)^Q<=X^Q*2^(den*e))(h':(Y'*K'^den)^Q<=X'^Q*2^(den*e)):(Y*Y'*(K*K')^den)^Q<=(X*X')^Q*2^(den*(0*Q+2*e)):=by
 have:=YEV h h'
 rw[<-YEZ]at this
 have e1:Y*Y'*(K*K')^den=Y*K^den*(Y'*K'^den):=by rw[YEZ];simp only[YEH,YEX]
 have e2:X^Q*2^(den*e)*(X'^Q*2^(den*e))=(X*X')^Q*2^(den*(0*Q+2*e)):=by
   rw[YEZ,show den*(0*Q+2*e)=den*e+den*e by rw[Nat.zero_mul,YFv,YEX];omega,YEO]
   simp only[YEH,YEX]
 rw[e1,<-e2]
 exact this
theorem Yt3{x c:Nat}(h:x*2^43<=1000*c*(2^43+1))(hc:c<=1000000000):x<=1000*c:=by omega
theorem Yt2{x c:Nat}(h:1000*c*2^43<=x*(2^43+1))(hc:c<=1000000000):1000*c<=x:=by omega
theorem fits{a t0 note:Int}{T:Tm}(hS:chkS a t0 t0=0)(hT:Y4 T=0)(hn:0<=note/\note<=139):
   (0<=(Yc7 (Yj T) t0 t0 note a).1/\(Yc7 (Yj T) t0 t0 note a).2<=1000000000/\0<=(wavF (Yj T) a t0 note).1/\(wavF (Yj T) a t0 note).2<=1000000000/\(Ybm t0).2=0/\0<=(Ybm t0).1.1/\(Ybm t0).1.2<=1000000000)/\
     (Yc7 (Yj T) t0 t0 note a).1*(wavF (Yj T) a t0 note).1<=1000*(Ybm t0).1.2/\1000*(Ybm t0).1.1<=(Yc7 (Yj T) t0 t0 note a).2*(wavF (Yj T) a t0 note).2/\
     0<=(Yc7 (Yj T) t0 t0 note a).2/\0<=(wavF (Yj T) a t0 note).2/\0<=(Ybm t0).1.2/\(Yc7 (Yj T) t0 t0 note a).1<=1000000000/\(wavF (Yj T) a t0 note).1<=1000000000/\(Ybm t0).1.1<=1000000000:=by
 obtain⟨ha,h0,_⟩:=Ybi hS
 obtain⟨r,n,hr,h⟩:=Yl6 hT hn.1
 obtain⟨k,ex,e1,p⟩:=YqQ hS hn hr h
 obtain⟨k',ex',e2,p'⟩:=YAd (t:=t0) hS hn hr h
 obtain⟨c,exc,e3,pc⟩:=Yy8 h0
 have ho: -5<=note/12-5/\note/12-5<=6:=by omega
 obtain⟨p1,p2⟩:=YuH (o:=note/12-5) h h0 h0
 obtain⟨P1,P2⟩:=Yv8 (a:=a) h h0 ho
 have hrn:=h.rng
 have t2:=Yal h0
 rw[e1,e2,e3]
 obtain⟨s1,K1,s2,s3,s4,s5,s6⟩:=Ygk k ex
 obtain⟨s1',K1',s2',s3',s4',s5',s6'⟩:=Ygk k' ex'
 obtain⟨c1,C1,c2,c3,c4,c5,c6⟩:=Ygk c exc
 have kb:=p.leB
 have kb':=p'.leB
 have cb:=pc.leB
 simp only
 rw[s1,s2,s1',s2',c1,c2]
 have hec:upP [(273150+t0,1),(273150, -1)]=(273150+t0).toNat/\dnP [(273150+t0,1),(273150, -1)]=273150:=by simp [upP,dnP]
 --the product of both roots
 obtain⟨A,hA⟩:∃A,A=a.toNat^(2*n):=⟨_,rfl⟩
 obtain⟨τ,hτ⟩:∃τ,τ=(273150+t0).toNat:=⟨_,rfl⟩
 obtain⟨S,hS2⟩:∃S,S=(331300000000:Nat)^(2*n):=⟨_,rfl⟩
 obtain⟨U,hU⟩:∃U,U=upP (lstF r n (note/12-5) t0 t0):=⟨_,rfl⟩
 obtain⟨V,hV⟩:∃V,V=dnP (lstF r n (note/12-5) t0 t0):=⟨_,rfl⟩
 have hU0:0<U:=by rw[hU,p1];exact YFm (YFj (YaA _ _ _)) (YFm (YaA _ _ _) (YFj (by omega)))
 have hV0:0<V:=by rw[hV,p2];exact YFm (YFj (YaA _ _ _)) (YFm (YaA _ _ _) (YFj (by omega)))
 have hA0:0<A:=by rw[hA];exact YFj (by omega)
 rw[<-hV,<-hτ]at P1
 rw[<-hτ]at hec t2
 rw[<-hU,<-hA]at P2
 have hc0:0<U*V*A:=YFm (YFm hU0 hV0) hA0
 have up:(k:Int)*k'<=1000*C1:=by
   rcases YFk k with z|z
   . rw[z];simp;omega
   rcases YFk k' with z'|z'
   . rw[z'];simp;omega
   have m:=YuP (p.near z) (p'.near z')
   rw[<-hU,<-hV,P1,P2,<-hA,<-hS2]at m
   have m2:=Ydh (t:=2^43) (show 1<=QJ by rw[Ye9];decide) (show 2*2^55*2^43<=QJ by rw[Ye9];decide) (by decide) m
   rw[Nat.pow_zero,YFo]at m2
   have m3:U*V*A*(273150^n*(k*k'*2^43)^(2*n))<=U*V*A*(τ^n*S*(2^43+1)^(2*n)):=by
     refine YEQ (YFA ?_) (YEQ m2 (YFA ?_))
     . generalize 273150^n=q
       generalize(k*k'*2^43)^(2*n)=q2
       grind
     . generalize τ^n=q
       generalize(2^43+1)^(2*n)=q2
       grind
   have m4:=Nat.le_of_mul_le_mul_left m3 hc0
   rw[hS2,YET,YET,YET,<-YEZ,<-YEZ,<-YEZ]at m4
   have m5:=(Nat.pow_le_pow_iff_left (show n≠0 by omega)).1 m4
   have hh:=pc.hi c5 c6
   rw[hec.1,hec.2]at hh
   have m6:273150*(k*k'*2^43)^2<=273150*(1000*C1*(2^43+1))^2:=by
     refine YEQ m5 ?_
     have e5:τ*331300000000^2=1000^2*(τ*331300000^2):=by
       rw[show(331300000000:Nat)=1000*331300000 from rfl,YEZ,YEX]
     have e6:273150*(1000*C1*(2^43+1))^2=1000^2*(273150*C1^2)*(2^43+1)^2:=by
       rw[YEZ,YEZ,<-YEH,<-YEH,YEJ 273150,YEH (1000^2)]
     rw[e5,e6]
     exact YEF _ (YEG _ hh)
   have m7:=(Nat.pow_le_pow_iff_left (show 2≠0 by decide)).1 (Nat.le_of_mul_le_mul_left m6 (by decide))
   have m8:k*k'<=1000*C1:=by
     exact Yt3 m7 (by omega)
   exact_mod_cast m8
 have dn:1000*(c:Int)<=(K1:Int)*K1':=by
   rcases YFk c with z|z
   . rw[z]
     have:=YEL (show(0:Int)<=K1 by omega) (show(0:Int)<=K1' by omega)
     simpa using this
   have q1:=p.hi s5 s6
   have q2:=p'.hi s5' s6'
   have q3:=YEV q1 q2
   rw[<-hU,<-hV,P1,P2,<-hA,<-hS2]at q3
   have q4:U*V*A*(τ^n*S)<=U*V*A*(273150^n*(K1*K1')^(2*n)):=by
     refine YEQ (YFA ?_) (YEQ q3 (YFA ?_))
     . generalize τ^n=q
       grind
     . rw[YEZ]
       generalize 273150^n=q
       generalize K1^(2*n)=x1
       generalize K1'^(2*n)=x2
       grind
   have q5:=Nat.le_of_mul_le_mul_left q4 hc0
   rw[hS2,YET,YET,<-YEZ,<-YEZ]at q5
   have q6:=(Nat.pow_le_pow_iff_left (show n≠0 by omega)).1 q5
   have m2:=pc.root z (t:=2^43) (by decide) (by rw[Ye9];decide)
   rw[hec.1,hec.2]at m2
   have m6:273150*(1000*c*2^43)^2<=273150*(K1*K1'*(2^43+1))^2:=by
     have e5:τ*331300000000^2=1000^2*(τ*331300000^2):=by
       rw[show(331300000000:Nat)=1000*331300000 from rfl,YEZ,YEX]
     have e6:273150*(1000*c*2^43)^2=1000^2*(273150*(c*2^43)^2):=by
       rw[YEH 1000,YEZ 1000,YEX]
     have e7:273150*(K1*K1'*(2^43+1))^2=273150*(K1*K1')^2*(2^43+1)^2:=by
       rw[YEZ,YEH]
     rw[e6,e7]
     refine YEQ (YEG _ m2) ?_
     rw[<-YEH,<-e5]
     exact YEF _ q6
   have m7:=(Nat.pow_le_pow_iff_left (show 2≠0 by decide)).1 (Nat.le_of_mul_le_mul_left m6 (by decide))
   have m8:1000*c<=K1*K1':=by
     exact Yt2 m7 (by omega)
   exact_mod_cast m8
 exact⟨⟨by omega,by omega,by omega,by omega,trivial,by omega,by omega⟩,up,dn,by omega,by omega,by omega,by omega,by omega,by omega⟩
def v5:VF:=⟨171,[.tmp 6],(ZR [u1 3 .box [.tm 0],u1 6 .mov [.cn (.bool false)]] (.seq (ZR [Zt 16 30 3,Zm 17 1,Zd 18 16 16 17,u1 19 .not [.tm 18]] (ZC 19 (ZR [u1 20 (.call 17) [],Zm 6 20] .ret) .skip)) (ZR [Za 22 0 3,Zt 23 3 22,Zc 24 20 23,Zm 21 24,Ze 25 0 21,Ze 26 1 21,Zm 7 25,Zm 8 26] (ZR [Za 27 0 3,Zt 28 3 27,u1 9 (.alloc [(.int .i64 0),(.int .i64 0),(.int .i64 0)]) [],Zs 3 9 28] (ZR [Zm 29 2,Za 30 2 9,Zs 1 30 29] (ZR [Zt 32 3 9,Zc 33 20 32,Zm 31 33,Ze 34 0 31,Ze 35 1 31,Zm 10 34,Zm 11 35] (.seq (ZR [Zm 36 8,Zq 37 .neq 36 0,Zm 38 37,Zg 39 38 false 11,u2 40 38 false (.cmp .eql) [.tm 39,.cn (.int .i64 0)],Zg 41 38 false 40,Zj 42 41 true 0 3,Zj 43 41 true 2 42,Zh 44 41 true 1 43,Zg 45 41 true 2,u2 46 41 true (.cmp .lss) [.tm 44,.tm 45],Zg 47 41 true 46,Zg 48 47 true 7,Zg 49 47 true 10,u2 50 47 true (.cmp .gtr) [.tm 48,.tm 49],u2 51 41 true .and [.tm 47,.tm 50],Zg 52 41 true 51,Zj 53 52 false 0 3,Zj 54 52 false 2 53,Zh 55 52 false 1 54,Zg 56 52 false 2,u2 57 52 false (.cmp .gtr) [.tm 55,.tm 56],Zg 58 52 false 57,Zg 59 58 true 7,Zg 60 58 true 10,u2 61 58 true (.cmp .lss) [.tm 59,.tm 60],u2 62 52 false .and [.tm 58,.tm 61],u2 63 41 true .or [.tm 52,.tm 62],Zg 64 41 true 63,Zj 65 64 false 0 3,Zj 66 64 false 2 65,Zh 67 64 false 1 66,Zg 68 64 false 2,u2 69 64 false (.cmp .eql) [.tm 67,.tm 68],Zg 70 64 false 69,Zg 71 70 true 7,Zg 72 70 true 10,u2 73 70 true (.cmp .neq) [.tm 71,.tm 72],u2 74 64 false .and [.tm 70,.tm 73],u2 75 41 true .or [.tm 64,.tm 74],u2 76 38 false .and [.tm 41,.tm 75],u1 77 .or [.tm 38,.tm 76]] (ZC 77 (ZR [u1 6 .mov [.cn (.bool false)]] .ret) .skip)) (ZR [Za 78 0 3,Za 79 1 78,Zf 80 1 79,Za 81 0 3,Za 82 2 81,Zs 1 82 80] (ZR [Za 84 0 3,Zt 85 3 84,Za 86 3 3,Zt 87 27 86,Zm 88 1,u1 89 (.call 8) [.tm 85,.tm 87,.tm 88],Zm 83 89,Ze 90 0 83,Ze 91 1 83,Zn 12,Zs 2 12 90,Zm 8 91] (ZR [Za 93 0 3,Zt 94 3 93,Za 95 3 3,Zt 96 27 95,Zm 97 1,u1 98 (.call 18) [.tm 94,.tm 96,.tm 97],Zm 92 98,Ze 99 0 92,Ze 100 1 92,Zn 13,Zs 2 13 99,Zm 11 100] (ZR [Za 102 0 3,Za 103 1 102,Zf 104 1 103,Zc 105 21 104,Zm 101 105,Ze 106 0 101,Ze 107 1 101,Zn 14,Zs 2 14 106,Zm 15 107] (.seq (ZR [Zm 108 8,Zq 109 .neq 108 0,Zm 110 109,Zg 111 110 false 11,u2 112 110 false (.cmp .neq) [.tm 111,.cn (.int .i64 0)],u1 113 .or [.tm 110,.tm 112],Zm 114 113,Zg 115 114 false 15,u2 116 114 false (.cmp .neq) [.tm 115,.cn (.int .i64 0)],u1 117 .or [.tm 114,.tm 116],Zm 118 117,Zj 119 118 false 0 12,Zh 120 118 false 1 119,u2 121 118 false (.cmp .lss) [.tm 120,.cn (.int .i64 0)],u1 122 .or [.tm 118,.tm 121],Zm 123 122,Zj 124 123 false 1 12,Zh 125 123 false 1 124,u2 126 123 false (.cmp .gtr) [.tm 125,.cn (.int .i64 1000000000)],u1 127 .or [.tm 123,.tm 126],Zm 128 127,Zj 129 128 false 0 13,Zh 130 128 false 1 129,u2 131 128 false (.cmp .lss) [.tm 130,.cn (.int .i64 0)],u1 132 .or [.tm 128,.tm 131],Zm 133 132,Zj 134 133 false 1 13,Zh 135 133 false 1 134,u2 136 133 false (.cmp .gtr) [.tm 135,.cn (.int .i64 1000000000)],u1 137 .or [.tm 133,.tm 136],Zm 138 137,Zj 139 138 false 0 14,Zh 140 138 false 1 139,u2 141 138 false (.cmp .lss) [.tm 140,.cn (.int .i64 0)],u1 142 .or [.tm 138,.tm 141],Zm 143 142,Zj 144 143 false 1 14,Zh 145 143 false 1 144,u2 146 143 false (.cmp .gtr) [.tm 145,.cn (.int .i64 1000000000)],u1 147 .or [.tm 143,.tm 146]] (ZC 147 (ZR [u1 6 .mov [.cn (.bool false)]] .ret) .skip)) (ZR [Za 148 0 12,Zf 149 1 148,Za 150 0 13,Zf 151 1 150,Zo 152 .mul 149 151,Za 153 1 14,Zf 154 1 153,u1 155 (.ari .mul) [.cn (.int .i64 1000),.tm 154],Zr 156 .leq 152 155,Zm 157 156,Zj 158 157 true 1 12,Zh 159 157 true 1 158,Zj 160 157 true 1 13,Zh 161 157 true 1 160,u2 162 157 true (.ari .mul) [.tm 159,.tm 161],Zj 163 157 true 0 14,Zh 164 157 true 1 163,u2 165 157 true (.ari .mul) [.cn (.int .i64 1000),.tm 164],u2 166 157 true (.cmp .geq) [.tm 162,.tm 165],u1 167 .and [.tm 157,.tm 166],Zm 168 167,u2 169 168 true (.call 17) [],u1 170 .and [.tm 168,.tm 169],Zm 6 170] .ret)))))))))))))⟩
theorem v5_is:Yi YEC Tryz.f5=some v5:=by kernel_rfl
def drfE(a t0 t:Int):Int:=if chkS a t0 t=0 then drfF t0 t else 0
def drfA:Ctr:={ alias:=false,of:=fun l=>match l with
 | [.agg [.int .i64 a,.int .i64 t0,.int .i64 t]]=> .fin (.tup [.int .i64 (drfE a t0 t),.int .i64 (chkS a t0 t)]) []
 |_=>noC}
theorem YBA:drfA.ok YEC 20:=by
 refine Yc Tryz.func20 Yww YvE 600 drfA fun args k h=>?_
 simp only[drfA]at h
 split at h
 . rename_i a t0 t
   have h:k (.tup [.int .i64 (drfE a t0 t),.int .i64 (chkS a t0 t)]) []:=h
   refine⟨[.agg [.int .i64 a,.int .i64 t0,.int .i64 t]],by simp [leL,le],?_⟩
   dsimp only[v20,YmO,chkSC,YmN,warmC,YmP,flrC,go_sem,reduceIte,YEx]
   simp only[Yd,YEx,YEz,reduceCtorEq,YEy]
   refine⟨fun hS=>?_,fun hS=>?_⟩
   . rw[drfE,if_neg hS]at h
     exact YcU h
   . obtain⟨ha,hb0,hb1⟩:=Ybi hS
     rw[drfE,if_pos hS,hS]at h
     refine⟨hb1,hb0,by decide,[(273150+t,1),(273150+t0, -1)],⟨rfl,rfl,fun q hq=>?_⟩,by decide,by decide,by decide,YcU h⟩
     rcases(show q=0\/q=1 by omega)with rfl|rfl <;> exact Yb _
 . exact h.1.elim
def UF0:Env:={ ct:=fun n=>match n with|20=>some drfA|21=>some speedC|44=>some chkSC|45=>some chk5A|8=>some frq6C|18=>some wavC|17=>some trueC|_=>none,fn:=fun n=>match n with|16=>some v16|_=>none,meth:=fun _ _=>none}
theorem YtA:UF0.ct 20=some drfA:=rfl
theorem YtB:UF0.ct 21=some speedC:=rfl
theorem YtC:UF0.ct 44=some chkSC:=rfl
theorem YtD:UF0.ct 45=some chk5A:=rfl
theorem YwL:UF0.ct 8=some frq6C:=rfl
theorem Ytz:UF0.ct 18=some wavC:=rfl
theorem Yty:UF0.ct 17=some trueC:=rfl
theorem Ytx:UF0.ct 16=none:=rfl
theorem YtE:UF0.fn 16=some v16:=rfl
theorem YA1:Ys YEC UF0:=by
 refine⟨fun f c h=>?_,fun f vf h=>?_,(fun _ _ _ h=>by cases h),by kernel_rfl,(fun _ h=>by cases h)⟩
 . simp only[UF0]at h
   split at h
   . cases h;exact⟨YBA,Tryz.f20,Tryz.func20,by kernel_rfl,by kernel_rfl⟩
   . cases h;exact⟨Yy9,Tryz.f21,Tryz.func21,by kernel_rfl,by kernel_rfl⟩
   . cases h;exact⟨YvL,Tryz.f44,Tryz.func44,by kernel_rfl,by kernel_rfl⟩
   . cases h;exact⟨Yqq,Tryz.f45,Tryz.func45,by kernel_rfl,by kernel_rfl⟩
   . cases h;exact⟨YqP,Tryz.f8,Tryz.func8,by kernel_rfl,by kernel_rfl⟩
   . cases h;exact⟨wav_c,Tryz.f18,Tryz.func18,by kernel_rfl,by kernel_rfl⟩
   . cases h;exact⟨Yne,Tryz.f17,Tryz.func17,by kernel_rfl,by kernel_rfl⟩
   . cases h
 . simp only[UF0]at h
   split at h
   . cases h;exact⟨Tryz.f16,Tryz.func16,Ywv,Tryz.f16,Tryz.func16,by kernel_rfl,by kernel_rfl⟩
   . cases h
theorem YxV:(lawC [⟨true,shp6⟩,⟨false,[.int .i64]⟩,⟨false,[.int .i64]⟩]).ok YEC 5:=by
 refine Yc Tryz.func5 v5_is YA1 900 (lawC [⟨true,shp6⟩,⟨false,[.int .i64]⟩,⟨false,[.int .i64]⟩]) fun args k h=>?_
 obtain⟨ha,hk⟩:=h
 obtain⟨_,_,rfl,h1,e1⟩:=YaD ha
 obtain⟨cs,rfl,g1⟩:=Yg5 h1
 obtain⟨a,t0,t,T,rfl,hnm⟩:=Ynm g1
 obtain⟨_,_,rfl,h2,e2⟩:=YaD e1
 obtain⟨note,rfl,hw⟩:=YcK (Yeq h2)
 obtain⟨_,_,rfl,h3,e3⟩:=YaD e2
 obtain⟨ot,rfl,hw2⟩:=YcK (Yeq h3)
 cases YfG e3
 have hk':k (.bool true) []:=hk
 have hm:T.nm.size<=9223372036854775807:=YEQ hnm (by unfold maxLen;decide)
 refine⟨[.agg (Yql a t0 t T),.int .i64 note,.int .i64 ot],?_,?_⟩
 . refine⟨Ye _ ⟨trivial,trivial,trivial,?_⟩,⟨rfl,rfl⟩,⟨rfl,rfl⟩,trivial⟩
   exact YK T _
 dsimp only[v5,Yql,YfX,lenT,YtA,drfA,YtB,speedC,YtC,YtD,YwL,Ytz,Yty,Ytx,YtE,v16,chkSC,chk5A,frq6C,wavC,trueC,go_sem,reduceIte,YEx]
 simp only[Yd,YEx,YEz,reduceCtorEq,YEy]
 simp only[sp_T,YfX,lenT,vw_T]
 refine⟨YaO T,YaO T,T,fun _=>⟨rfl,hm⟩,fun _=>YC hk',fun hc=>⟨by decide,by decide,by decide,by decide,fun u v=>by rw[u,decide_eq_true v];rfl,fun u v=>by rw[u,decide_eq_true v];rfl,fun u v=>by rw[u,v];rfl,fun u v=>by rw[u,decide_eq_true v];rfl,fun u v=>by rw[u,v];rfl,fun u v=>by rw[decide_eq_true u,decide_eq_true v];rfl,?_,?_⟩⟩
 all_goals
   simp only[YEI,decide_eq_true_eq]at hc
   obtain⟨⟨⟨hS,hT⟩,n0⟩,n1⟩:=hc
   obtain⟨ha',hb0,hb1⟩:=Ybi hS
 . intro hb
   exfalso
   by_cases ho:chkS a t0 ot=0
   . obtain⟨_,_,hb2⟩:=Ybi ho
     have e1:drfE a t0 t=drfF t0 t:=if_pos hS
     have e2:drfE a t0 ot=drfF t0 ot:=if_pos ho
     rw[e1,e2]at hb
     have m1:t<=ot->drfF t0 t<=drfF t0 ot:=Ynz hb0 hb1 hb2
     have m2:ot<=t->drfF t0 ot<=drfF t0 t:=Ynz hb0 hb2 hb1
     simp only[hS,ho,decide_true,Bool.not_true,Bool.false_or,Bool.true_and,YFn,YEI,decide_eq_true_eq,YFC,decide_eq_false_iff_not]at hb
     rcases hb with(⟨u,v⟩ | ⟨u,v⟩) | ⟨u,v⟩
     . have:=m1 (YFG u);omega
     . have:=m2 (YFG u);omega
     . exact v (by rw[u])
   . simp [hS,ho]at hb
 . intro _
   have hS0:chkS a t0 t0=0:=by
     unfold chkS
     rw[if_neg]
     rw[hb0];simp;omega
   obtain⟨⟨g1,g2,g3,g4,g5,g6,g7⟩,g8,g9,g10,g11,g12,g13,g14,g15⟩:=fits hS0 hT ⟨n0,n1⟩
   refine⟨YEK _,T,⟨rfl,hm,hS0,hT,n0,n1⟩,by decide,by decide,YEK _,T,⟨rfl,hm,hS0,hT,n0,n1⟩,by decide,by decide,by decide,by decide,?_,?_⟩
   . intro hb
     exfalso
     simp only[g5,decide_true,Bool.not_true,Bool.false_or,YFn,decide_eq_true_eq]at hb
     omega
   . intro _
     generalize(Yc7 (Yj T) t0 t0 note a).1=x1 at*
     generalize(Yc7 (Yj T) t0 t0 note a).2=x2 at*
     generalize(wavF (Yj T) a t0 note).1=y1 at*
     generalize(wavF (Yj T) a t0 note).2=y2 at*
     generalize(Ybm t0).1.1=z1 at*
     generalize(Ybm t0).1.2=z2 at*
     have p1:=Yam (x:=x1) (y:=y1) (X:=1000000000) (Y:=1000000000) (by omega) (by omega)
     have p2:=Yam (x:=x2) (y:=y2) (X:=1000000000) (Y:=1000000000) (by omega) (by omega)
     rw[YED (x1*y1) (by omega),YED (x2*y2) (by omega),YED (1000*z2) (by omega),YED (1000*z1) (by omega),decide_eq_true g8,decide_eq_true g9]
     exact YC hk'
def v60:VF:=⟨47,[.tmp 8],(ZR [u1 8 .mov [.cn .nil]] (ZR [u1 9 (.alloc [.nil]) []] (ZR [u1 15 (.mkfn (.func 88) 0) [.tm 9],Zm 10 15] (.seq (ZR [Zm 16 0,Zl 17 16,Zi 18 0] (.block 0 (.loop (ZR [Zr 19 .lss 18 17] (.seq (ZC 19 .skip (.exit 0)) (.seq (.block 1 (ZR [Zx 20 2 16 18,Zt 21 2 20,Zn 12,Zs 2 12 21] (.region [Zm 22 10,Za 23 0 12,Zf 24 1 23,Zm 25 1,Za 26 1 12,Zf 27 1 26,Zo 28 .mul 25 27,u1 29 .callv [.tm 22,.tm 24,.tm 28]]))) (.region [Zp 30 18 1,Zm 18 30]))))))) (.seq (ZR [Zm 31 2,Zl 32 31,Zi 33 0] (.block 2 (.loop (ZR [Zr 34 .lss 33 32] (.seq (ZC 34 .skip (.exit 2)) (.seq (.block 3 (ZR [Zx 35 2 31 33,Zt 36 2 35,Zn 14,Zs 2 14 36] (.region [Zm 37 10,Za 38 0 14,Zf 39 1 38,Zm 40 3,Za 41 1 14,Zf 42 1 41,Zo 43 .mul 40 42,u1 44 .callv [.tm 37,.tm 39,.tm 43]]))) (.region [Zp 45 33 1,Zm 33 45]))))))) (ZR [Zf 46 1 9,Zm 8 46] .ret))))))⟩
theorem YD6:Yi YEC Tryz.f60=some v60:=by kernel_rfl
def v88:VF:=⟨34,[],(.seq (ZR [Zf 6 1 2,Zl 7 6,Zi 8 0] (.block 0 (.loop (ZR [Zr 9 .lss 8 7] (.seq (ZC 9 .skip (.exit 0)) (.seq (.block 1 (ZR [Zm 10 8,Zm 5 10] (ZR [Zf 11 1 2,Zm 12 5,Zx 13 2 11 12,Za 14 0 13,Zf 15 1 14,Zm 16 0,Zr 17 .eql 15 16] (ZC 17 (ZR [Zf 18 1 2,Zm 19 5,Zx 20 2 18 19,Za 21 1 20,Zf 22 1 21,Zm 23 1,Zo 24 .add 22 23,Zx 25 2 18 19,Za 26 1 25,Zs 1 26 24] .ret) .skip)))) (.region [Zp 27 8 1,Zm 8 27]))))))) (.region [Zf 28 1 2,Zm 29 0,Zm 30 1,u1 31 (.build [(.int .i64 0),(.int .i64 0)] [(0,1),(1,1)]) [.tm 29,.tm 30],u1 32 (.buildSlice 2 1 [(.int .i64 0),(.int .i64 0)] [(0,2)]) [.tm 31],u1 33 (.append 2 16 [(.int .i64 0),(.int .i64 0)]) [.tm 28,.tm 32],Zs 1 2 33]))⟩
theorem YEl:Yi YEC Tryz.f88=some v88:=by kernel_rfl
def addJ(n num:Int):List (Int×Int)->List (Int×Int)
 | []=>[(n,num)]
 |y::l=>if y.1=n then(y.1,IntKind.i64.wrap (y.2+num))::l else y::addJ n num l
def jnL(x:Int)(a:List (Int×Int))(o:List (Int×Int)):List (Int×Int):=a.foldl (fun o t=>addJ t.1 (IntKind.i64.wrap (x*t.2)) o) o
def pjnF(a:List (Int×Int))(x:Int)(b:List (Int×Int))(y:Int):List (Int×Int):=jnL y b (jnL x a [])
def pjnC:Ctr:={ alias:=false,of:=fun l=>match l with
 | [.vs _ _ n sz get,.int .i64 x,.vs _ _ n' sz' get',.int .i64 y]=> .ex (List (Int×Int)) fun a=> .ex (List (Int×Int)) fun b=> .pre (lsP 2 enc2 n sz get a/\lsP 2 enc2 n' sz' get' b/\n<=1000/\n'<=1000)
     (.all Bool fun z=> .fin (.vs true z (pjnF a x b y).length 2 (fun k=>enc2 ((pjnF a x b y).getD k default))) [])
 | [.vs _ _ n sz get,.int .i64 x,.nil,.int .i64 y]=> .ex (List (Int×Int)) fun a=> .pre (lsP 2 enc2 n sz get a/\n<=1000)
     (.all Bool fun z=> .fin (.vs true z (pjnF a x [] y).length 2 (fun k=>enc2 ((pjnF a x [] y).getD k default))) [])
 |_=>noC}
theorem Ym7(n num:Int):∀l:List (Int×Int),(addJ n num l).length<=l.length+1
 | []=>YEK _
 |y::l=>by
   rw[addJ];split
   . simp
   . have:=Ym7 n num l;simp only[YFb];omega
theorem Ygx{n num:Int}:∀{l:List (Int×Int)},(∀j,j<l.length->(l.getD j default).1≠n)->addJ n num l=l++[(n,num)]
 | [],_=>rfl
 |y::l,h=>by
   rw[addJ,if_neg (show¬y.1=n from h 0 (Nat.zero_lt_succ _)),Ygx fun j hj=>h (j+1) (Nat.succ_lt_succ hj)];rfl
theorem Ygw{n num:Int}:∀{l:List (Int×Int)}{i:Nat},i<l.length->(∀j,j<i->(l.getD j default).1≠n)->(l.getD i default).1=n->
   (addJ n num l).length=l.length/\∀k,(addJ n num l).getD k default=if k=i then((l.getD i default).1,IntKind.i64.wrap ((l.getD i default).2+num))else l.getD k default
 |y::l,0,_,_,he=>by
   replace he:y.1=n:=he
   rw[addJ,if_pos he]
   refine⟨rfl,fun k=>?_⟩
   cases k with
   |zero=>rfl
   |succ k=>rfl
 |y::l,i+1,hi,hn,he=>by
   rw[addJ,if_neg (show¬y.1=n from hn 0 (Nat.zero_lt_succ _))]
   obtain⟨h1,h2⟩:=Ygw (l:=l) (i:=i) (n:=n) (num:=num) (Nat.lt_of_succ_lt_succ hi) (fun j hj=>hn (j+1) (Nat.succ_lt_succ hj)) he
   refine⟨by simp [h1],fun k=>?_⟩
   cases k with
   |zero=>rfl
   |succ k=>
     show(addJ n num l).getD k default=if k+1=i+1 then _ else l.getD k default
     rw[h2 k]
     by_cases hc:k=i
     . rw[if_pos hc,if_pos (by omega)];rfl
     . rw[if_neg hc,if_neg (by omega)]
theorem YbO(x:Int):∀(a o:List (Int×Int)),(jnL x a o).length<=o.length+a.length
 | [],o=>by simp [jnL]
 |t::a,o=>by
   have h1:=YbO x a (addJ t.1 (IntKind.i64.wrap (x*t.2)) o)
   have h2:=Ym7 t.1 (IntKind.i64.wrap (x*t.2)) o
   show(jnL x a (addJ t.1 (IntKind.i64.wrap (x*t.2)) o)).length<=_
   simp only[YFb];omega
theorem Yf9(x:Int){a:List (Int×Int)}{i:Nat}(h:i<a.length)(o:List (Int×Int)):jnL x (a.take (i+1)) o=addJ (a.getD i default).1 (IntKind.i64.wrap (x*(a.getD i default).2)) (jnL x (a.take i) o):=by
 unfold jnL;rw[YF h]
def TX0:Env:={ ct:=fun _=>none,fn:=fun n=>match n with|88=>some v88|_=>none,meth:=fun _ _=>none}
theorem YdE:TX0.ct 88=none:=rfl
theorem YdF:TX0.fn 88=some v88:=rfl
theorem YAX:Ys YEC TX0:=by
 refine⟨fun f c h=>?_,fun f vf h=>?_,(fun _ _ _ h=>by cases h),by kernel_rfl,(fun _ h=>by cases h)⟩
 . cases h
 . simp only[TX0]at h
   split at h
   . cases h;exact⟨Tryz.f88,Tryz.func88,YEl,Tryz.f88,Tryz.func88,by kernel_rfl,by kernel_rfl⟩
   . cases h
theorem YCD:pjnC.ok YEC 60:=by
 refine Yc Tryz.func60 YD6 YAX 600 pjnC fun args k h=>?_
 simp only[pjnC]at h
 split at h
 . rename_i tt z n sz get x tt' z' n' sz' get' y
   obtain⟨a,b,⟨⟨rfl,rfl,hg⟩,⟨rfl,rfl,hg'⟩,hn,hn'⟩,h⟩:=h
   refine⟨[.vs tt z a.length 2 (fun k=>enc2 (a.getD k default)),.int .i64 x,.vs tt' z' b.length 2 (fun k=>enc2 (b.getD k default)),.int .i64 y],⟨⟨id,rfl,rfl,rfl,hg⟩,⟨rfl,rfl⟩,⟨id,rfl,rfl,rfl,hg'⟩,⟨rfl,rfl⟩,trivial⟩,?_⟩
   have h:∀z,k (.vs true z (pjnF a x b y).length 2 (fun k=>enc2 ((pjnF a x b y).getD k default))) []:=h
   dsimp only[v60,YdE,YdF,v88,enc2,go_sem,reduceIte,YEx]
   simp only[Yd,YEx,YEz,reduceCtorEq,YEy]
   refine Loop.keep [0,0,0,0,5,0,5,0] (Nat×Bool) (fun s=>[(18,.int .i64 s.1)]) (fun s=>[(0,.box [.own 1 0 (jnL x (a.take s.1) []).length 2]),(1,.own s.2 2 (jnL x (a.take s.1) []).length (fun k=>enc2 ((jnL x (a.take s.1) []).getD k default)))]) [.gone] (fun s=>s.1<=a.length/\(s.2=true->(jnL x (a.take s.1) []).length=0)) (fun s=>a.length-s.1) ?_ ?_
   . refine⟨(0,true),⟨Nat.zero_le _,fun _=>rfl⟩,?_⟩
     dsimp only[enc2,go_sem,reduceIte,YEx]
     simp only[Ya]
     exact⟨⟨by decide,by decide,rfl⟩,⟨by decide,by decide,rfl⟩,rfl⟩
   rintro⟨i,z⟩ ⟨hi,hz⟩
   replace hi:i<=a.length:=hi
   replace hz:z=true->(jnL x (a.take i) []).length=0:=hz
   obtain⟨o,ho⟩:∃o,o=jnL x (a.take i) []:=⟨_,rfl⟩
   have hol:o.length<=2000:=by
     have h1:=YbO x (a.take i) []
     rw[YFd]at h1
     skip
     rw[ho];try simp only[YFh]at h1
     omega
   rw[<-ho]at hz
   dsimp only[YdE,YdF,v88,enc2,YEB,go_sem,reduceIte,YEx]
   simp only[Yd,YEx,YEz,reduceCtorEq,YEy]
   rw[<-ho]
   refine⟨fun hlt=>⟨⟨by omega,by omega⟩,?_⟩,fun hge=>?_⟩
   . have hil:i<a.length:=by omega
     obtain⟨⟨n,v⟩,hnv⟩:∃t,t=a.getD i default:=⟨_,rfl⟩
     obtain⟨num,hnum⟩:∃t,t=IntKind.i64.wrap (x*v):=⟨_,rfl⟩
     have hsu:jnL x (a.take (i+1)) []=addJ n num o:=by rw[Yf9 x hil,<-ho,<-hnv,hnum]
     rw[<-hnv]
     simp only
     rw[<-hnum]
     refine Loop.keep [0,0,0,3,0] Nat (fun r=>[(8,.int .i64 r)]) (fun _=>[]) [] (fun r=>r<=o.length/\∀j,j<r->(o.getD j default).1≠n) (fun r=>o.length-r) ?_ ?_
     . refine⟨0,⟨Nat.zero_le _,fun j hj=>absurd hj (Nat.not_lt_zero _)⟩,?_⟩
       dsimp only[go_sem,reduceIte,YEx]
       simp only[Ya]
       exact⟨⟨by decide,by decide,rfl⟩,by decide,by decide⟩
     rintro r ⟨hr,hno⟩
     replace hr:r<=o.length:=hr
     replace hno:∀j,j<r->(o.getD j default).1≠n:=hno
     dsimp only[enc2,YEB,go_sem,reduceIte,YEx]
     simp only[Yd,YEx,YEz,reduceCtorEq,YEy]
     refine⟨fun hlt2=>?_,fun hge2=>?_⟩
     . have hrr:0<=(r:Int)/\(r:Int)<(o.length:Int):=by omega
       have hrn:r<o.length:=by omega
       refine⟨hrr,hrn,fun heq=>⟨hrr,hrn,hrr,hrn,(i+1,z),⟨?_,fun hh=>?_⟩,?_,?_⟩,fun hne=>⟨r+1,⟨hrn,fun j hj=>?_⟩,by omega,?_⟩⟩
       . show i+1<=a.length;omega
       . have:=hz hh;omega
       . show a.length-(i+1)<a.length-i;omega
       . obtain⟨h1,h2⟩:=Ygw (num:=num) hrn hno heq
         simp only
         rw[hsu,h1,YaQ hil (by omega)]
         simp only[Ya]
         refine⟨by decide,by decide,fun q hq=>?_⟩
         rw[h2 q]
         by_cases hc:q=r
         . rw[if_pos hc,if_pos hc];exact Ye _ ⟨trivial,trivial,trivial⟩
         . rw[if_neg hc,if_neg hc];exact Ye _ ⟨trivial,trivial,trivial⟩
       . rcases YFf j r with h1|h1
         . exact hno j h1
         . obtain rfl:j=r:=by omega
           exact hne
       . rw[YaQ hrn (by omega)]
         simp only[Ya]
         exact⟨by decide,by decide,by decide⟩
     obtain rfl:r=o.length:=by omega
     have hsu2:addJ n num o=o++[(n,num)]:=Ygx hno
     refine⟨by decide,⟨by unfold YW;omega,fun q hq=>one2 hq⟩,(i+1,false),⟨?_,fun hh=>?_⟩,?_,?_⟩
     . show i+1<=a.length;omega
     . exact absurd (show false=true from hh) (by decide)
     . show a.length-(i+1)<a.length-i;omega
     . simp only
       rw[hsu,hsu2,YaQ hil (by omega)]
       simp only[YE8,YFb,YFh]
       simp only[Ya]
       refine⟨by decide,by decide,by simp,fun q hq=>?_⟩
       by_cases hc:q<o.length
       . rw[if_pos hc,YL hc];exact Ye _ ⟨trivial,trivial,trivial⟩
       . rw[if_neg hc,YM (by omega),show q-o.length=0 by omega];exact Ye _ ⟨trivial,trivial,trivial⟩
   obtain rfl:i=a.length:=by omega
   rw[YFF]at ho
   clear hge
   obtain⟨O1,hO1⟩:∃O1,O1=o:=⟨_,rfl⟩
   obtain⟨z1,hz1⟩:∃z1,z1=z:=⟨_,rfl⟩
   rw[<-hO1,<-hz1]at hz⊢
   have hO2:O1=jnL x a []:=by rw[hO1,ho]
   have hOl:O1.length<=1000:=by
     have h1:=YbO x a []
     rw[<-hO2]at h1
     simp only[YFh]at h1;omega
   refine Loop.keep [3,5,0,20,0] (Nat×Bool) (fun s=>[(33,.int .i64 s.1)]) (fun s=>[(0,.box [.own 1 0 (jnL y (b.take s.1) O1).length 2]),(1,.own s.2 2 (jnL y (b.take s.1) O1).length (fun k=>enc2 ((jnL y (b.take s.1) O1).getD k default)))]) [] (fun s=>s.1<=b.length/\(s.2=true->(jnL y (b.take s.1) O1).length=0)) (fun s=>b.length-s.1) ?_ ?_
   . refine⟨(0,z1),⟨Nat.zero_le _,hz⟩,?_⟩
     dsimp only[enc2,go_sem,reduceIte,YEx]
     simp only[Ya]
     exact⟨⟨by decide,by decide,rfl⟩,⟨rfl,by decide⟩,rfl,fun q _=>⟨rfl,rfl⟩⟩
   rintro⟨i,z⟩ ⟨hi,hz⟩
   replace hi:i<=b.length:=hi
   replace hz:z=true->(jnL y (b.take i) O1).length=0:=hz
   obtain⟨o,ho⟩:∃o,o=jnL y (b.take i) O1:=⟨_,rfl⟩
   have hol:o.length<=2000:=by
     have h1:=YbO y (b.take i) O1
     rw[YFd]at h1
     skip
     rw[ho];try simp only[YFh]at h1
     omega
   rw[<-ho]at hz
   dsimp only[YdE,YdF,v88,enc2,YEB,go_sem,reduceIte,YEx]
   simp only[Yd,YEx,YEz,reduceCtorEq,YEy]
   rw[<-ho]
   refine⟨fun hlt=>⟨⟨by omega,by omega⟩,?_⟩,fun hge=>?_⟩
   . have hil:i<b.length:=by omega
     obtain⟨⟨n,v⟩,hnv⟩:∃t,t=b.getD i default:=⟨_,rfl⟩
     obtain⟨num,hnum⟩:∃t,t=IntKind.i64.wrap (y*v):=⟨_,rfl⟩
     have hsu:jnL y (b.take (i+1)) O1=addJ n num o:=by rw[Yf9 y hil,<-ho,<-hnv,hnum]
     rw[<-hnv]
     simp only
     rw[<-hnum]
     refine Loop.keep [0,0,0,3,0] Nat (fun r=>[(8,.int .i64 r)]) (fun _=>[]) [] (fun r=>r<=o.length/\∀j,j<r->(o.getD j default).1≠n) (fun r=>o.length-r) ?_ ?_
     . refine⟨0,⟨Nat.zero_le _,fun j hj=>absurd hj (Nat.not_lt_zero _)⟩,?_⟩
       dsimp only[go_sem,reduceIte,YEx]
       simp only[Ya]
       exact⟨⟨by decide,by decide,rfl⟩,by decide,by decide⟩
     rintro r ⟨hr,hno⟩
     replace hr:r<=o.length:=hr
     replace hno:∀j,j<r->(o.getD j default).1≠n:=hno
     dsimp only[enc2,YEB,go_sem,reduceIte,YEx]
     simp only[Yd,YEx,YEz,reduceCtorEq,YEy]
     refine⟨fun hlt2=>?_,fun hge2=>?_⟩
     . have hrr:0<=(r:Int)/\(r:Int)<(o.length:Int):=by omega
       have hrn:r<o.length:=by omega
       refine⟨hrr,hrn,fun heq=>⟨hrr,hrn,hrr,hrn,(i+1,z),⟨?_,fun hh=>?_⟩,?_,?_⟩,fun hne=>⟨r+1,⟨hrn,fun j hj=>?_⟩,by omega,?_⟩⟩
       . show i+1<=b.length;omega
       . have:=hz hh;omega
       . show b.length-(i+1)<b.length-i;omega
       . obtain⟨h1,h2⟩:=Ygw (num:=num) hrn hno heq
         simp only
         rw[hsu,h1,YaQ hil (by omega)]
         simp only[Ya]
         refine⟨by decide,by decide,fun q hq=>?_⟩
         rw[h2 q]
         by_cases hc:q=r
         . rw[if_pos hc,if_pos hc];exact Ye _ ⟨trivial,trivial,trivial⟩
         . rw[if_neg hc,if_neg hc];exact Ye _ ⟨trivial,trivial,trivial⟩
       . rcases YFf j r with h1|h1
         . exact hno j h1
         . obtain rfl:j=r:=by omega
           exact hne
       . rw[YaQ hrn (by omega)]
         simp only[Ya]
         exact⟨by decide,by decide,by decide⟩
     obtain rfl:r=o.length:=by omega
     have hsu2:addJ n num o=o++[(n,num)]:=Ygx hno
     refine⟨by decide,⟨by unfold YW;omega,fun q hq=>one2 hq⟩,(i+1,false),⟨?_,fun hh=>?_⟩,?_,?_⟩
     . show i+1<=b.length;omega
     . exact absurd (show false=true from hh) (by decide)
     . show b.length-(i+1)<b.length-i;omega
     . simp only
       rw[hsu,hsu2,YaQ hil (by omega)]
       simp only[YE8,YFb,YFh]
       simp only[Ya]
       refine⟨by decide,by decide,by simp,fun q hq=>?_⟩
       by_cases hc:q<o.length
       . rw[if_pos hc,YL hc];exact Ye _ ⟨trivial,trivial,trivial⟩
       . rw[if_neg hc,YM (by omega),show q-o.length=0 by omega];exact Ye _ ⟨trivial,trivial,trivial⟩
   obtain rfl:i=b.length:=by omega
   rw[YFF]at ho
   have hf:pjnF a x b y=o:=by rw[ho,hO2];rfl
   have h:=h z
   rw[hf]at h
   refine YI h ?_ (fun _=>by simp [Ym,Yo,enc2])
   dsimp only[expo,go_sem,reduceIte,YEx]
   simp only[Ya]
   exact fun q hq=>Yb _
 . rename_i tt z n sz get x y
   obtain⟨a,⟨⟨rfl,rfl,hg⟩,hn⟩,h⟩:=h
   obtain⟨b,hb⟩:∃b:List (Int×Int),b=[]:=⟨_,rfl⟩
   have hn':b.length<=1000:=by rw[hb];decide
   refine⟨[.vs tt z a.length 2 (fun k=>enc2 (a.getD k default)),.int .i64 x,.vs true true b.length 2 (fun k=>enc2 (b.getD k default)),.int .i64 y],⟨⟨id,rfl,rfl,rfl,hg⟩,⟨rfl,rfl⟩,by rw[hb];exact⟨rfl,rfl⟩,⟨rfl,rfl⟩,trivial⟩,?_⟩
   have h:∀z,k (.vs true z (pjnF a x b y).length 2 (fun k=>enc2 ((pjnF a x b y).getD k default))) []:=by rw[hb];exact h
   dsimp only[v60,YdE,YdF,v88,enc2,go_sem,reduceIte,YEx]
   simp only[Yd,YEx,YEz,reduceCtorEq,YEy]
   refine Loop.keep [0,0,0,0,5,0,5,0] (Nat×Bool) (fun s=>[(18,.int .i64 s.1)]) (fun s=>[(0,.box [.own 1 0 (jnL x (a.take s.1) []).length 2]),(1,.own s.2 2 (jnL x (a.take s.1) []).length (fun k=>enc2 ((jnL x (a.take s.1) []).getD k default)))]) [.gone] (fun s=>s.1<=a.length/\(s.2=true->(jnL x (a.take s.1) []).length=0)) (fun s=>a.length-s.1) ?_ ?_
   . refine⟨(0,true),⟨Nat.zero_le _,fun _=>rfl⟩,?_⟩
     dsimp only[enc2,go_sem,reduceIte,YEx]
     simp only[Ya]
     exact⟨⟨by decide,by decide,rfl⟩,⟨by decide,by decide,rfl⟩,rfl⟩
   rintro⟨i,z⟩ ⟨hi,hz⟩
   replace hi:i<=a.length:=hi
   replace hz:z=true->(jnL x (a.take i) []).length=0:=hz
   obtain⟨o,ho⟩:∃o,o=jnL x (a.take i) []:=⟨_,rfl⟩
   have hol:o.length<=2000:=by
     have h1:=YbO x (a.take i) []
     rw[YFd]at h1
     skip
     rw[ho];try simp only[YFh]at h1
     omega
   rw[<-ho]at hz
   dsimp only[YdE,YdF,v88,enc2,YEB,go_sem,reduceIte,YEx]
   simp only[Yd,YEx,YEz,reduceCtorEq,YEy]
   rw[<-ho]
   refine⟨fun hlt=>⟨⟨by omega,by omega⟩,?_⟩,fun hge=>?_⟩
   . have hil:i<a.length:=by omega
     obtain⟨⟨n,v⟩,hnv⟩:∃t,t=a.getD i default:=⟨_,rfl⟩
     obtain⟨num,hnum⟩:∃t,t=IntKind.i64.wrap (x*v):=⟨_,rfl⟩
     have hsu:jnL x (a.take (i+1)) []=addJ n num o:=by rw[Yf9 x hil,<-ho,<-hnv,hnum]
     rw[<-hnv]
     simp only
     rw[<-hnum]
     refine Loop.keep [0,0,0,3,0] Nat (fun r=>[(8,.int .i64 r)]) (fun _=>[]) [] (fun r=>r<=o.length/\∀j,j<r->(o.getD j default).1≠n) (fun r=>o.length-r) ?_ ?_
     . refine⟨0,⟨Nat.zero_le _,fun j hj=>absurd hj (Nat.not_lt_zero _)⟩,?_⟩
       dsimp only[go_sem,reduceIte,YEx]
       simp only[Ya]
       exact⟨⟨by decide,by decide,rfl⟩,by decide,by decide⟩
     rintro r ⟨hr,hno⟩
     replace hr:r<=o.length:=hr
     replace hno:∀j,j<r->(o.getD j default).1≠n:=hno
     dsimp only[enc2,YEB,go_sem,reduceIte,YEx]
     simp only[Yd,YEx,YEz,reduceCtorEq,YEy]
     refine⟨fun hlt2=>?_,fun hge2=>?_⟩
     . have hrr:0<=(r:Int)/\(r:Int)<(o.length:Int):=by omega
       have hrn:r<o.length:=by omega
       refine⟨hrr,hrn,fun heq=>⟨hrr,hrn,hrr,hrn,(i+1,z),⟨?_,fun hh=>?_⟩,?_,?_⟩,fun hne=>⟨r+1,⟨hrn,fun j hj=>?_⟩,by omega,?_⟩⟩
       . show i+1<=a.length;omega
       . have:=hz hh;omega
       . show a.length-(i+1)<a.length-i;omega
       . obtain⟨h1,h2⟩:=Ygw (num:=num) hrn hno heq
         simp only
         rw[hsu,h1,YaQ hil (by omega)]
         simp only[Ya]
         refine⟨by decide,by decide,fun q hq=>?_⟩
         rw[h2 q]
         by_cases hc:q=r
         . rw[if_pos hc,if_pos hc];exact Ye _ ⟨trivial,trivial,trivial⟩
         . rw[if_neg hc,if_neg hc];exact Ye _ ⟨trivial,trivial,trivial⟩
       . rcases YFf j r with h1|h1
         . exact hno j h1
         . obtain rfl:j=r:=by omega
           exact hne
       . rw[YaQ hrn (by omega)]
         simp only[Ya]
         exact⟨by decide,by decide,by decide⟩
     obtain rfl:r=o.length:=by omega
     have hsu2:addJ n num o=o++[(n,num)]:=Ygx hno
     refine⟨by decide,⟨by unfold YW;omega,fun q hq=>one2 hq⟩,(i+1,false),⟨?_,fun hh=>?_⟩,?_,?_⟩
     . show i+1<=a.length;omega
     . exact absurd (show false=true from hh) (by decide)
     . show a.length-(i+1)<a.length-i;omega
     . simp only
       rw[hsu,hsu2,YaQ hil (by omega)]
       simp only[YE8,YFb,YFh]
       simp only[Ya]
       refine⟨by decide,by decide,by simp,fun q hq=>?_⟩
       by_cases hc:q<o.length
       . rw[if_pos hc,YL hc];exact Ye _ ⟨trivial,trivial,trivial⟩
       . rw[if_neg hc,YM (by omega),show q-o.length=0 by omega];exact Ye _ ⟨trivial,trivial,trivial⟩
   obtain rfl:i=a.length:=by omega
   rw[YFF]at ho
   clear hge
   obtain⟨O1,hO1⟩:∃O1,O1=o:=⟨_,rfl⟩
   obtain⟨z1,hz1⟩:∃z1,z1=z:=⟨_,rfl⟩
   rw[<-hO1,<-hz1]at hz⊢
   have hO2:O1=jnL x a []:=by rw[hO1,ho]
   have hOl:O1.length<=1000:=by
     have h1:=YbO x a []
     rw[<-hO2]at h1
     simp only[YFh]at h1;omega
   refine Loop.keep [3,5,0,20,0] (Nat×Bool) (fun s=>[(33,.int .i64 s.1)]) (fun s=>[(0,.box [.own 1 0 (jnL y (b.take s.1) O1).length 2]),(1,.own s.2 2 (jnL y (b.take s.1) O1).length (fun k=>enc2 ((jnL y (b.take s.1) O1).getD k default)))]) [] (fun s=>s.1<=b.length/\(s.2=true->(jnL y (b.take s.1) O1).length=0)) (fun s=>b.length-s.1) ?_ ?_
   . refine⟨(0,z1),⟨Nat.zero_le _,hz⟩,?_⟩
     dsimp only[enc2,go_sem,reduceIte,YEx]
     simp only[Ya]
     exact⟨⟨by decide,by decide,rfl⟩,⟨rfl,by decide⟩,rfl,fun q _=>⟨rfl,rfl⟩⟩
   rintro⟨i,z⟩ ⟨hi,hz⟩
   replace hi:i<=b.length:=hi
   replace hz:z=true->(jnL y (b.take i) O1).length=0:=hz
   obtain⟨o,ho⟩:∃o,o=jnL y (b.take i) O1:=⟨_,rfl⟩
   have hol:o.length<=2000:=by
     have h1:=YbO y (b.take i) O1
     rw[YFd]at h1
     skip
     rw[ho];try simp only[YFh]at h1
     omega
   rw[<-ho]at hz
   dsimp only[YdE,YdF,v88,enc2,YEB,go_sem,reduceIte,YEx]
   simp only[Yd,YEx,YEz,reduceCtorEq,YEy]
   rw[<-ho]
   refine⟨fun hlt=>⟨⟨by omega,by omega⟩,?_⟩,fun hge=>?_⟩
   . have hil:i<b.length:=by omega
     obtain⟨⟨n,v⟩,hnv⟩:∃t,t=b.getD i default:=⟨_,rfl⟩
     obtain⟨num,hnum⟩:∃t,t=IntKind.i64.wrap (y*v):=⟨_,rfl⟩
     have hsu:jnL y (b.take (i+1)) O1=addJ n num o:=by rw[Yf9 y hil,<-ho,<-hnv,hnum]
     rw[<-hnv]
     simp only
     rw[<-hnum]
     refine Loop.keep [0,0,0,3,0] Nat (fun r=>[(8,.int .i64 r)]) (fun _=>[]) [] (fun r=>r<=o.length/\∀j,j<r->(o.getD j default).1≠n) (fun r=>o.length-r) ?_ ?_
     . refine⟨0,⟨Nat.zero_le _,fun j hj=>absurd hj (Nat.not_lt_zero _)⟩,?_⟩
       dsimp only[go_sem,reduceIte,YEx]
       simp only[Ya]
       exact⟨⟨by decide,by decide,rfl⟩,by decide,by decide⟩
     rintro r ⟨hr,hno⟩
     replace hr:r<=o.length:=hr
     replace hno:∀j,j<r->(o.getD j default).1≠n:=hno
     dsimp only[enc2,YEB,go_sem,reduceIte,YEx]
     simp only[Yd,YEx,YEz,reduceCtorEq,YEy]
     refine⟨fun hlt2=>?_,fun hge2=>?_⟩
     . have hrr:0<=(r:Int)/\(r:Int)<(o.length:Int):=by omega
       have hrn:r<o.length:=by omega
       refine⟨hrr,hrn,fun heq=>⟨hrr,hrn,hrr,hrn,(i+1,z),⟨?_,fun hh=>?_⟩,?_,?_⟩,fun hne=>⟨r+1,⟨hrn,fun j hj=>?_⟩,by omega,?_⟩⟩
       . show i+1<=b.length;omega
       . have:=hz hh;omega
       . show b.length-(i+1)<b.length-i;omega
       . obtain⟨h1,h2⟩:=Ygw (num:=num) hrn hno heq
         simp only
         rw[hsu,h1,YaQ hil (by omega)]
         simp only[Ya]
         refine⟨by decide,by decide,fun q hq=>?_⟩
         rw[h2 q]
         by_cases hc:q=r
         . rw[if_pos hc,if_pos hc];exact Ye _ ⟨trivial,trivial,trivial⟩
         . rw[if_neg hc,if_neg hc];exact Ye _ ⟨trivial,trivial,trivial⟩
       . rcases YFf j r with h1|h1
         . exact hno j h1
         . obtain rfl:j=r:=by omega
           exact hne
       . rw[YaQ hrn (by omega)]
         simp only[Ya]
         exact⟨by decide,by decide,by decide⟩
     obtain rfl:r=o.length:=by omega
     have hsu2:addJ n num o=o++[(n,num)]:=Ygx hno
     refine⟨by decide,⟨by unfold YW;omega,fun q hq=>one2 hq⟩,(i+1,false),⟨?_,fun hh=>?_⟩,?_,?_⟩
     . show i+1<=b.length;omega
     . exact absurd (show false=true from hh) (by decide)
     . show b.length-(i+1)<b.length-i;omega
     . simp only
       rw[hsu,hsu2,YaQ hil (by omega)]
       simp only[YE8,YFb,YFh]
       simp only[Ya]
       refine⟨by decide,by decide,by simp,fun q hq=>?_⟩
       by_cases hc:q<o.length
       . rw[if_pos hc,YL hc];exact Ye _ ⟨trivial,trivial,trivial⟩
       . rw[if_neg hc,YM (by omega),show q-o.length=0 by omega];exact Ye _ ⟨trivial,trivial,trivial⟩
   obtain rfl:i=b.length:=by omega
   rw[YFF]at ho
   have hf:pjnF a x b y=o:=by rw[ho,hO2];rfl
   have h:=h z
   rw[hf]at h
   refine YI h ?_ (fun _=>by simp [Ym,Yo,enc2])
   dsimp only[expo,go_sem,reduceIte,YEx]
   simp only[Ya]
   exact fun q hq=>Yb _
 . exact h.1.elim
def v57:VF:=⟨43,[.tmp 6,.tmp 7],(ZR [u1 6 .mov [.cn .nil],Zi 7 0] (ZR [Zm 11 0,Zm 12 2,Zd 13 49 11 12,Zm 10 13,Ze 14 0 10,Ze 15 1 10,Zm 6 14,Zm 7 15] (.seq (.drawT [] (.ops [Zu 16 6] (.ops [Zu 18 1] (.ops [Zu 19 7] (.ops [w1 20 (.build [(.int .i64 0),(.int .i64 0)] [(0,1),(1,1)]) [.tm 18,.tm 19]] (.ops [Zu 21 0] (.ops [w1 22 .nilCheck [.tm 21]] (.ops [Zy 23 0 22] (.ops [Zy 24 0 23] (.ops [Zv 25 1 24] (.ops [Zu 26 7] (.ops [w1 27 .neg [.tm 26]] (.ops [w1 28 (.build [(.int .i64 0),(.int .i64 0)] [(0,1),(1,1)]) [.tm 25,.tm 27]] (.br (.ops [w1 17 (.call 51) [.tm 16]] (.ops [w1 29 (.buildSlice 2 2 [(.int .i64 0),(.int .i64 0)] [(0,2),(2,2)]) [.tm 20,.tm 28]] (.ops [w1 30 (.append 2 16 [(.int .i64 0),(.int .i64 0)]) [.tm 17,.tm 29]] (.ops [Zu 6 30] .leaf)))) (.ops [w1 29 (.buildSlice 2 2 [(.int .i64 0),(.int .i64 0)] [(0,2),(2,2)]) [.tm 20,.tm 28]] (.ops [w1 17 (.call 51) [.tm 16]] (.ops [w1 30 (.append 2 16 [(.int .i64 0),(.int .i64 0)]) [.tm 17,.tm 29]] (.ops [Zu 6 30] .leaf)))))))))))))))))) (.seq (ZR [Zm 32 6,u1 33 (.call 60) [.tm 32,.cn (.int .i64 1),.cn .nil,.cn (.int .i64 0)],Zc 34 59 33,Zm 31 34,Ze 35 0 31,Ze 36 1 31,Zm 8 35,Zm 9 36] (ZR [Zm 37 8,Zq 38 .lss 37 0] (ZC 38 (.region [Zm 39 6,Zc 40 51 39,Zm 6 40]) .skip))) (ZR [Zm 41 6,Zm 42 7,Zm 6 41,Zm 7 42] .ret)))))⟩
theorem YD3:Yi YEC Tryz.f57=some v57:=by kernel_rfl
def Y9(L:Nat->Rt)(a t0 t f note:Int):List (Int×Int):=(Yn L t0 t note).1.map ngT++[(f,(Yn L t0 t note).2),(a,IntKind.i64.wrap (0-(Yn L t0 t note).2))]
def farL(L:Nat->Rt)(a t0 t f note:Int):List (Int×Int):=if(sgnF (pjnF (Y9 L a t0 t f note) 1 [] 0)).1<0 then(Y9 L a t0 t f note).map ngT else Y9 L a t0 t f note
theorem Yja(L:Nat->Rt)(a t0 t f note:Int):(farL L a t0 t f note).length<=11/\(Y9 L a t0 t f note).length<=11:=by
 have h1:=YdA L t0 t note
 have h2:(Y9 L a t0 t f note).length<=11:=by unfold Y9;simp only[YE8,List.length_map,YFb,YFh];omega
 refine⟨?_,h2⟩
 unfold farL;split
 . rw[List.length_map];exact h2
 . exact h2
def farC:Ctr:={ alias:=false,of:=fun l=>match l with
 | [.xp _ [.int .i64 a,.int .i64 t0,.int .i64 t,.vs _ _ n sz get],.int .i64 f,.int .i64 note]=> .ex (Nat->Rt) fun L=> .pre ((n=12/\sz=7/\∀k,k<12->leXL (get k) (encR (L k)))/\(0<=note/\note<=139)/\YH t0=true/\YH t=true)
     (.fin (.tup [.vs true false (farL L a t0 t f note).length 2 (fun k=>enc2 ((farL L a t0 t f note).getD k default)),.int .i64 (Yn L t0 t note).2]) [])
 |_=>noC}
theorem two2{a b c d:Int}{k:Nat}(hk:k<2):lenL (Yx 2 (Yt (k*2) [SV.int .i64 a,SV.int .i64 b,SV.int .i64 c,SV.int .i64 d]))=2/\ones (Yx 2 (Yt (k*2) [SV.int .i64 a,SV.int .i64 b,SV.int .i64 c,SV.int .i64 d])):=by
 rcases(show k=0\/k=1 by omega)with rfl|rfl <;> exact⟨rfl,trivial,trivial,trivial⟩
def TY0:Env:={ ct:=fun n=>match n with|49=>some termC|51=>some invC|60=>some pjnC|59=>some sgnC|_=>none,fn:=fun _=>none,meth:=fun _ _=>none}
theorem Ytq:TY0.ct 49=some termC:=rfl
theorem Ytr:TY0.ct 51=some invC:=rfl
theorem Ytt:TY0.ct 60=some pjnC:=rfl
theorem Yts:TY0.ct 59=some sgnC:=rfl
theorem YAY:Ys YEC TY0:=by
 refine⟨fun f c h=>?_,fun f vf h=>?_,(fun _ _ _ h=>by cases h),by kernel_rfl,(fun _ h=>by cases h)⟩
 . simp only[TY0]at h
   split at h
   . cases h;exact⟨Yos,Tryz.f49,Tryz.func49,by kernel_rfl,by kernel_rfl⟩
   . cases h;exact⟨YBS,Tryz.f51,Tryz.func51,by kernel_rfl,by kernel_rfl⟩
   . cases h;exact⟨YCD,Tryz.f60,Tryz.func60,by kernel_rfl,by kernel_rfl⟩
   . cases h;exact⟨YDx,Tryz.f59,Tryz.func59,by kernel_rfl,by kernel_rfl⟩
   . cases h
 . cases h
theorem far_c:farC.ok YEC 57:=by
 refine Yc Tryz.func57 YD3 YAY 600 farC fun args k h=>?_
 simp only[farC]at h
 split at h
 . rename_i tt a t0 t tv zv n sz get f note
   obtain⟨L,⟨⟨rfl,rfl,hg⟩,hn,h0,h1⟩,h⟩:=h
   refine⟨[.xp tt [.int .i64 a,.int .i64 t0,.int .i64 t,.vs tv zv 12 7 (fun k=>encR (L k))],.int .i64 f,.int .i64 note],?_,?_⟩
   . simp only[Ygc,Yjo,YuB,YnT,and_true,true_and]
     exact⟨id,⟨rfl,rfl⟩,⟨rfl,rfl⟩,⟨rfl,rfl⟩,⟨id,rfl,rfl,rfl,hg⟩,trivial⟩
   have h:k (.tup [.vs true false (farL L a t0 t f note).length 2 (fun k=>enc2 ((farL L a t0 t f note).getD k default)),.int .i64 (Yn L t0 t note).2]) []:=h
   have hl:=YdA L t0 t note
   dsimp only[v57,Ytq,termC,Ytr,invC,Ytt,pjnC,Yts,sgnC,go_sem,reduceIte,YEx]
   simp only[Yd,YEx,YEz,reduceCtorEq,YEy]
   have hL0:(Y9 L a t0 t f note).length=(Yn L t0 t note).1.length+2:=by simp [Y9]
   have hpl:(pjnF (Y9 L a t0 t f note) 1 [] 0).length<=11:=by
     have e1:=YbO 0 [] (jnL 1 (Y9 L a t0 t f note) [])
     have e2:=YbO 1 (Y9 L a t0 t f note) []
     have e3:(pjnF (Y9 L a t0 t f note) 1 [] 0).length=(jnL 0 [] (jnL 1 (Y9 L a t0 t f note) [])).length:=rfl
     simp only[YFh]at e1 e2
     omega
   refine⟨L,⟨fun q _=>Yb _,hn,h0,h1⟩,by decide,by decide,?_,?_⟩
   . refine⟨(Yn L t0 t note).1,⟨⟨rfl,rfl,fun q _=>Yb _⟩,by omega⟩,by decide,⟨by unfold YW;omega,fun q hq=>two2 hq⟩,Y9 L a t0 t f note,⟨⟨rfl,hL0.symm,fun q hq=>?_⟩,by omega⟩,pjnF (Y9 L a t0 t f note) 1 [] 0,⟨⟨rfl,rfl,fun q _=>Yb _⟩,by omega⟩,?_⟩
     . have em:((Yn L t0 t note).1.map ngT).length=(Yn L t0 t note).1.length:=by simp
       by_cases hc:q<(Yn L t0 t note).1.length
       . simp only[if_pos hc]
         rw[Y9,YL (by omega)]
         exact Yb _
       . simp only[if_neg hc]
         rw[Y9,YM (by omega),em]
         rcases(show q-(Yn L t0 t note).1.length=0\/q-(Yn L t0 t note).1.length=1 by omega)with e|e
         . rw[e];exact Yb _
         . rw[e];exact Yb _
     refine⟨by decide,by decide,fun hc=>⟨Y9 L a t0 t f note,⟨⟨rfl,hL0.symm,fun q hq=>?_⟩,by omega⟩,?_⟩,fun hc=>?_⟩
     . have em:((Yn L t0 t note).1.map ngT).length=(Yn L t0 t note).1.length:=by simp
       by_cases hc:q<(Yn L t0 t note).1.length
       . simp only[if_pos hc]
         rw[Y9,YL (by omega)]
         exact Yb _
       . simp only[if_neg hc]
         rw[Y9,YM (by omega),em]
         rcases(show q-(Yn L t0 t note).1.length=0\/q-(Yn L t0 t note).1.length=1 by omega)with e|e
         . rw[e];exact Yb _
         . rw[e];exact Yb _
     . have e:farL L a t0 t f note=(Y9 L a t0 t f note).map ngT:=if_pos hc
       rw[e,List.length_map]at h
       refine YI h ?_ (fun _=>by simp [Ym,Yo,enc2])
       dsimp only[expo,go_sem,reduceIte,YEx]
       simp only[Ya]
       exact fun q _=>Yb _
     . have e:farL L a t0 t f note=Y9 L a t0 t f note:=if_neg hc
       rw[e]at h
       refine YI h ?_ (fun _=>by simp [Ym,Yo,enc2])
       dsimp only[expo,go_sem,reduceIte,YEx]
       simp only[Ya]
       refine⟨by simp,hL0.symm,fun q hq=>?_⟩
       . have em:((Yn L t0 t note).1.map ngT).length=(Yn L t0 t note).1.length:=by simp
         by_cases hc:q<(Yn L t0 t note).1.length
         . simp only[if_pos hc]
           rw[Y9,YL (by omega)]
           exact Yb _
         . simp only[if_neg hc]
           rw[Y9,YM (by omega),em]
           rcases(show q-(Yn L t0 t note).1.length=0\/q-(Yn L t0 t note).1.length=1 by omega)with e|e
           . rw[e];exact Yb _
           . rw[e];exact Yb _
   . refine⟨by decide,(Yn L t0 t note).1,⟨⟨rfl,rfl,fun q _=>Yb _⟩,by omega⟩,⟨by unfold YW;omega,fun q hq=>two2 hq⟩,Y9 L a t0 t f note,⟨⟨rfl,hL0.symm,fun q hq=>?_⟩,by omega⟩,pjnF (Y9 L a t0 t f note) 1 [] 0,⟨⟨rfl,rfl,fun q _=>Yb _⟩,by omega⟩,?_⟩
     . have em:((Yn L t0 t note).1.map ngT).length=(Yn L t0 t note).1.length:=by simp
       by_cases hc:q<(Yn L t0 t note).1.length
       . simp only[if_pos hc]
         rw[Y9,YL (by omega)]
         exact Yb _
       . simp only[if_neg hc]
         rw[Y9,YM (by omega),em]
         rcases(show q-(Yn L t0 t note).1.length=0\/q-(Yn L t0 t note).1.length=1 by omega)with e|e
         . rw[e];exact Yb _
         . rw[e];exact Yb _
     refine⟨by decide,by decide,fun hc=>⟨Y9 L a t0 t f note,⟨⟨rfl,hL0.symm,fun q hq=>?_⟩,by omega⟩,?_⟩,fun hc=>?_⟩
     . have em:((Yn L t0 t note).1.map ngT).length=(Yn L t0 t note).1.length:=by simp
       by_cases hc:q<(Yn L t0 t note).1.length
       . simp only[if_pos hc]
         rw[Y9,YL (by omega)]
         exact Yb _
       . simp only[if_neg hc]
         rw[Y9,YM (by omega),em]
         rcases(show q-(Yn L t0 t note).1.length=0\/q-(Yn L t0 t note).1.length=1 by omega)with e|e
         . rw[e];exact Yb _
         . rw[e];exact Yb _
     . have e:farL L a t0 t f note=(Y9 L a t0 t f note).map ngT:=if_pos hc
       rw[e,List.length_map]at h
       refine YI h ?_ (fun _=>by simp [Ym,Yo,enc2])
       dsimp only[expo,go_sem,reduceIte,YEx]
       simp only[Ya]
       exact fun q _=>Yb _
     . have e:farL L a t0 t f note=Y9 L a t0 t f note:=if_neg hc
       rw[e]at h
       refine YI h ?_ (fun _=>by simp [Ym,Yo,enc2])
       dsimp only[expo,go_sem,reduceIte,YEx]
       simp only[Ya]
       refine⟨by simp,hL0.symm,fun q hq=>?_⟩
       . have em:((Yn L t0 t note).1.map ngT).length=(Yn L t0 t note).1.length:=by simp
         by_cases hc:q<(Yn L t0 t note).1.length
         . simp only[if_pos hc]
           rw[Y9,YL (by omega)]
           exact Yb _
         . simp only[if_neg hc]
           rw[Y9,YM (by omega),em]
           rcases(show q-(Yn L t0 t note).1.length=0\/q-(Yn L t0 t note).1.length=1 by omega)with e|e
           . rw[e];exact Yb _
           . rw[e];exact Yb _
 . exact h.1.elim
def v22:VF:=⟨69,[.cell 6 false 1,.tmp 7,.tmp 8],(ZR [u1 3 .box [.tm 0],u1 4 .box [.tm 1],u1 5 .box [.tm 2],u1 6 (.alloc [(.int .i64 0)]) [],Zi 7 0,Zi 8 0] (ZR [Zt 16 3 3,Zt 17 27 4,Zd 18 56 16 17,Zm 15 18,Ze 19 0 15,Ze 20 1 15,u1 9 (.alloc [(.val (.pointer none))]) [],Zs 1 9 19,Zm 8 20] (.seq (ZR [Zm 21 8,Zq 22 .neq 21 0] (ZC 22 (ZR [Zm 23 8,u0 (.store 1) [.tm 6,.cn (.int .i64 0)],Zi 7 0,Zm 8 23] .ret) .skip)) (.seq (ZR [Zf 24 1 5,Zq 25 .lss 24 1,Zm 26 25,Zh 27 26 false 1 5,u2 28 26 false (.cmp .gtr) [.tm 27,.cn (.int .i64 1000000000)],u1 29 .or [.tm 26,.tm 28]] (ZC 29 (ZR [u0 (.store 1) [.tm 6,.cn (.int .i64 0)],Zi 7 0,Zi 8 2] .ret) .skip)) (ZR [Zf 31 1 9,Zf 32 1 5,u1 33 (.call 57) [.tm 31,.tm 32,.cn (.int .i64 0)],Zm 30 33,Ze 34 0 30,Ze 35 1 30,u1 10 (.alloc [.nil]) [],u1 11 (.alloc [(.int .i64 0)]) [],Zs 1 10 34,Zs 1 11 35] (ZR [u1 36 (.mkfn (.func 58) 0) [.tm 9,.tm 5,.tm 11,.tm 10,.tm 6],Zm 12 36] (.seq (ZR [Zi 13 1] (.block 0 (.loop (.seq (ZR [Zm 37 13,Zq 38 .leq 37 139] (ZC 38 .skip (.exit 0))) (.seq (.block 1 (.region [Zm 41 12,Zm 42 13,u1 43 .callv [.tm 41,.tm 42]])) (.region [Zm 39 13,Zp 40 39 1,Zm 13 40])))))) (ZR [Zf 45 1 9,Zf 46 1 6,Zd 47 49 45 46,Zm 44 47,Ze 48 0 44,Ze 49 1 44,Zm 14 48,Zs 1 11 49] (.seq (.draw [] [Zu 51 14,Zv 52 1 5,Zv 53 1 11,w1 54 (.build [(.int .i64 0),(.int .i64 0)] [(0,1),(1,1)]) [.tm 52,.tm 53],Zy 55 0 3,Zv 56 1 55,Zv 57 1 11,w1 58 .neg [.tm 57],w1 59 (.build [(.int .i64 0),(.int .i64 0)] [(0,1),(1,1)]) [.tm 56,.tm 58],Zv 62 1 11,w1 60 (.buildSlice 2 2 [(.int .i64 0),(.int .i64 0)] [(0,2),(2,2)]) [.tm 54,.tm 59],w1 61 (.call 60) [.tm 51,.cn (.int .i64 (-1)),.tm 60,.cn (.int .i64 1)],w1 63 (.call 54) [.tm 61,.tm 62,.cn (.int .i64 1200000)],Zu 50 63,ZE 64 0 50,ZE 65 1 50,ZE 66 2 50,Zu 7 64]) (ZR [Zf 67 1 6,Zm 68 7,Zs 1 6 67,Zm 7 68,Zi 8 0] .ret))))))))))⟩
theorem YDQ:Yi YEC Tryz.f22=some v22:=by kernel_rfl
def v58:VF:=⟨33,[],(ZR [Zf 12 1 1,Zf 13 1 2,Zm 14 0,u1 15 (.call 57) [.tm 12,.tm 13,.tm 14],Zm 11 15,Ze 16 0 11,Ze 17 1 11,Zm 7 16,Zm 8 17] (ZR [Zm 19 7,Zf 20 1 3,Zf 21 1 4,Zm 22 8,u1 23 .neg [.tm 22],u1 24 (.call 60) [.tm 19,.tm 20,.tm 21,.tm 23],Zc 25 59 24,Zm 18 25,Ze 26 0 18,Ze 27 1 18,Zm 9 26,Zm 10 27] (ZR [Zm 28 9,Zq 29 .lss 28 0] (ZC 29 (.region [Zm 30 0,Zm 31 7,Zm 32 8,Zs 1 5 30,Zs 1 4 31,Zs 1 3 32]) .skip))))⟩
theorem YD4:Yi YEC Tryz.f58=some v58:=by kernel_rfl
structure Nrs where
 note:Int
 l:List (Int×Int)
 d:Int
def nrL(L:Nat->Rt)(a t0 t f:Int):Nat->Nrs
 |0=>⟨0,farL L a t0 t f 0,(Yn L t0 t 0).2⟩
 |m+1=>if(sgnF (pjnF (farL L a t0 t f ((m+1:Nat):Int)) (nrL L a t0 t f m).d (nrL L a t0 t f m).l (IntKind.i64.wrap (0-(Yn L t0 t ((m+1:Nat):Int)).2)))).1<0 then⟨((m+1:Nat):Int),farL L a t0 t f ((m+1:Nat):Int),(Yn L t0 t ((m+1:Nat):Int)).2⟩else nrL L a t0 t f m
theorem Ywe(L:Nat->Rt)(a t0 t f:Int):∀m,(nrL L a t0 t f m).l.length<=11/\0<=(nrL L a t0 t f m).note/\(nrL L a t0 t f m).note<=m
 |0=>⟨(Yja L a t0 t f 0).1,Int.le_refl _,Int.le_refl _⟩
 |m+1=>by
   have ih:=Ywe L a t0 t f m
   rw[nrL]
   split
   . exact⟨(Yja L a t0 t f _).1,by simp only;omega,by simp only;omega⟩
   . exact⟨ih.1,ih.2.1,by omega⟩
theorem Yr1(a:List (Int×Int))(x:Int)(b:List (Int×Int))(y:Int):(pjnF a x b y).length<=a.length+b.length:=by
 have e1:=YbO y b (jnL x a [])
 have e2:=YbO x a []
 have e3:(pjnF a x b y).length=(jnL y b (jnL x a [])).length:=rfl
 simp only[YFh]at e2
 omega
def offL(L:Nat->Rt)(a t0 t f n:Int):Int:=
 (flrF (pjnF (Yn L t0 t n).1 (-1) [(f,(Yn L t0 t n).2),(a,IntKind.i64.wrap (0-(Yn L t0 t n).2))] 1) (Yn L t0 t n).2 1200000).1
def Yg1(L:Nat->Rt)(a t0 t f:Int):Int×Int:=((nrL L a t0 t f 139).note,offL L a t0 t f (nrL L a t0 t f 139).note)
def nearC:Ctr:={ alias:=false,of:=fun l=>match l with
 | [.agg [.int .i64 a,.int .i64 t0,.int .i64 t],.agg cs,.int .i64 f]=> .ex Tm fun T=> .pre (cs=encT T/\T.nm.size<=9223372036854775807/\chkS a t0 t=0/\Y4 T=0/\1<=f/\f<=1000000000) (.fin (.tup [.int .i64 (Yg1 (Yj T) a t0 t f).1,.int .i64 (Yg1 (Yj T) a t0 t f).2,.int .i64 0]) [])
 |_=>noC}
def TZ0:Env:={ ct:=fun n=>match n with|49=>some termC|57=>some farC|60=>some pjnC|59=>some sgnC|54=>some flrC|53=>some chkSC|87=>some NotC|_=>none,fn:=fun n=>match n with|56=>some v56|58=>some v58|_=>none,meth:=fun _ _=>none}
theorem Yiy:TZ0.ct 49=some termC:=rfl
theorem YiC:TZ0.ct 57=some farC:=rfl
theorem YiF:TZ0.ct 60=some pjnC:=rfl
theorem YiE:TZ0.ct 59=some sgnC:=rfl
theorem YiA:TZ0.ct 54=some flrC:=rfl
theorem Yiz:TZ0.ct 53=some chkSC:=rfl
theorem YiG:TZ0.ct 87=some NotC:=rfl
theorem YiB:TZ0.ct 56=none:=rfl
theorem YiH:TZ0.fn 56=some v56:=rfl
theorem YiD:TZ0.ct 58=none:=rfl
theorem YiI:TZ0.fn 58=some v58:=rfl
theorem YAZ:Ys YEC TZ0:=by
 refine⟨fun f c h=>?_,fun f vf h=>?_,(fun _ _ _ h=>by cases h),by kernel_rfl,(fun _ h=>by cases h)⟩
 . simp only[TZ0]at h
   split at h
   . cases h;exact⟨Yos,Tryz.f49,Tryz.func49,by kernel_rfl,by kernel_rfl⟩
   . cases h;exact⟨far_c,Tryz.f57,Tryz.func57,by kernel_rfl,by kernel_rfl⟩
   . cases h;exact⟨YCD,Tryz.f60,Tryz.func60,by kernel_rfl,by kernel_rfl⟩
   . cases h;exact⟨YDx,Tryz.f59,Tryz.func59,by kernel_rfl,by kernel_rfl⟩
   . cases h;exact⟨Yxu,Tryz.f54,Tryz.func54,by kernel_rfl,by kernel_rfl⟩
   . cases h;exact⟨Yno,Tryz.f53,Tryz.func53,by kernel_rfl,by kernel_rfl⟩
   . cases h;exact⟨YwI,Tryz.f87,Tryz.func87,by kernel_rfl,by kernel_rfl⟩
   . cases h
 . simp only[TZ0]at h
   split at h
   . cases h;exact⟨Tryz.f56,Tryz.func56,YsQ,Tryz.f56,Tryz.func56,by kernel_rfl,by kernel_rfl⟩
   . cases h;exact⟨Tryz.f58,Tryz.func58,YD4,Tryz.f58,Tryz.func58,by kernel_rfl,by kernel_rfl⟩
   . cases h
theorem YCn:nearC.ok YEC 22:=by
 refine Yc Tryz.func22 YDQ YAZ 900 nearC fun args k h=>?_
 simp only[nearC]at h
 split at h
 . rename_i a t0 t cs f
   obtain⟨T,⟨rfl,hnm,hS,hT,hf0,hf1⟩,h⟩:=h
   refine⟨[.agg [.int .i64 a,.int .i64 t0,.int .i64 t],.agg (encT T),.int .i64 f],⟨⟨⟨rfl,rfl⟩,⟨rfl,rfl⟩,⟨rfl,rfl⟩,trivial⟩,Ye _ (YK T _),⟨rfl,rfl⟩,trivial⟩,?_⟩
   dsimp only[v22,YfX,lenT,Yiy,termC,YiC,farC,YiF,pjnC,YiE,sgnC,YiA,flrC,Yiz,chkSC,YiG,NotC,YiB,YiH,v56,YiD,YiI,v58,go_sem,reduceIte,YEx]
   simp only[Yd,YEx,YEz,reduceCtorEq,YEy]
   refine⟨YaO T,YaO T,fun hs=>absurd hS hs,fun hs=>⟨T,⟨rfl,hnm⟩,?_⟩⟩
   rw[if_neg (fun hh=>hh hT)]
   dsimp only[YfX,lenT,Yiy,termC,YiC,farC,YiF,pjnC,YiE,sgnC,YiA,flrC,Yiz,chkSC,YiG,NotC,YiB,YiH,v56,YiD,YiI,v58,go_sem,reduceIte,YEx]
   simp only[Yd,YEx,YEz,reduceCtorEq,YEy]
   obtain⟨ha,hb0,hb1⟩:=Ybi hS
   obtain⟨L,hL⟩:∃L,L=Yj T:=⟨_,rfl⟩
   have h:k (.tup [.int .i64 (Yg1 (Yj T) a t0 t f).1,.int .i64 (Yg1 (Yj T) a t0 t f).2,.int .i64 0]) []:=h
   rw[<-hL]at h⊢
   refine⟨by decide,by decide,fun hh=>absurd trivial hh,by decide,by decide,fun hh=>absurd trivial hh,fun hc=>?_,fun hc=>⟨L,⟨fun q _=>Yb _,by decide,hb0,hb1⟩,by decide,by decide,?_⟩⟩
   . simp only[YFn,decide_eq_true_eq]at hc;omega
   refine Loop.keep [3,1,0,2,0,0,0] Nat (fun m=>[(13,.int .i64 ((m+1:Nat):Int))]) (fun m=>[(3,.box [.int .i64 (nrL L a t0 t f m).note]),(8,.box [.vs true false (nrL L a t0 t f m).l.length 2 (fun k=>enc2 ((nrL L a t0 t f m).l.getD k default))]),(9,.box [.int .i64 (nrL L a t0 t f m).d])]) [] (fun m=>m<=139) (fun m=>139-m) ?_ ?_
   . refine⟨0,Nat.zero_le _,?_⟩
     dsimp only[nrL,go_sem,reduceIte,YEx]
     simp only[Ya]
     exact⟨⟨by decide,by decide,by decide,by decide,by decide,by decide,by decide,rfl⟩,Ye _ (YK T _),Ye _ (YK T _),by decide⟩
   rintro m hm
   replace hm:m<=139:=hm
   have hok:=Ywe L a t0 t f m
   obtain⟨S,hSd⟩:∃S,S=nrL L a t0 t f m:=⟨_,rfl⟩
   rw[<-hSd]at hok
   dsimp only[YfX,lenT,Yiy,termC,YiC,farC,YiF,pjnC,YiE,sgnC,YiA,flrC,Yiz,chkSC,YiG,NotC,YiB,YiH,v56,YiD,YiI,v58,YEB,go_sem,reduceIte,YEx]
   simp only[Yd,YEx,YEz,reduceCtorEq,YEy]
   rw[<-hSd]
   refine⟨fun hlt=>?_,fun hge=>?_⟩
   . obtain⟨N,hN⟩:∃N:Int,N=((m+1:Nat):Int):=⟨_,rfl⟩
     have hN1:0<=N/\N<=139:=by omega
     rw[<-hN]
     obtain⟨l1,hl1⟩:∃l,l=farL L a t0 t f N:=⟨_,rfl⟩
     obtain⟨d1,hd1⟩:∃d,d=(Yn L t0 t N).2:=⟨_,rfl⟩
     have hll:=(Yja L a t0 t f N).1
     rw[<-hl1]at hll
     have hpl:=Yr1 l1 S.d S.l (IntKind.i64.wrap (0-d1))
     have hsu:nrL L a t0 t f (m+1)=if(sgnF (pjnF l1 S.d S.l (IntKind.i64.wrap (0-d1)))).1<0 then⟨N,l1,d1⟩else S:=by rw[nrL,<-hSd,<-hN,<-hl1,<-hd1]
     refine⟨L,⟨fun q _=>Yb _,hN1,hb0,hb1⟩,by decide,by decide,?_⟩
     rw[<-hl1,<-hd1]
     refine⟨l1,S.l,⟨⟨rfl,rfl,fun q _=>Yb _⟩,⟨rfl,rfl,fun q _=>Yb _⟩,by omega,by omega⟩,pjnF l1 S.d S.l (IntKind.i64.wrap (0-d1)),⟨⟨rfl,rfl,fun q _=>Yb _⟩,by omega⟩,by decide,by decide,fun hc=>⟨m+1,by omega,by omega,?_⟩,fun hc=>⟨m+1,by omega,by omega,?_⟩⟩
     . rw[hsu,if_pos hc,YED (N+1) (by omega)]
       simp only[Ya]
       exact⟨⟨by decide,by decide,by decide,by decide,by decide,by decide,by decide,by omega⟩,Ye _ (YK T _),Ye _ (YK T _),by decide⟩
     . rw[hsu,if_neg hc,YED (N+1) (by omega)]
       simp only[Ya]
       exact⟨⟨by decide,by decide,by decide,by decide,by decide,by decide,by decide,by omega⟩,Ye _ (YK T _),Ye _ (YK T _),by decide⟩
   obtain rfl:m=139:=by omega
   have hl:=YdA L t0 t S.note
   have hnr:Yg1 L a t0 t f=(S.note,offL L a t0 t f S.note):=by rw[Yg1,<-hSd]
   rw[hnr]at h
   have hpl:=Yr1 (Yn L t0 t S.note).1 (-1) [(f,(Yn L t0 t S.note).2),(a,IntKind.i64.wrap (0-(Yn L t0 t S.note).2))] 1
   simp only[YFb,YFh]at hpl
   refine⟨L,⟨fun q _=>Yb _,⟨hok.2.1,by omega⟩,hb0,hb1⟩,by decide,by decide,by decide,(Yn L t0 t S.note).1,[(f,(Yn L t0 t S.note).2),(a,IntKind.i64.wrap (0-(Yn L t0 t S.note).2))],⟨⟨rfl,rfl,fun q _=>Yb _⟩,⟨rfl,rfl,fun q hq=>?_⟩,by omega⟩,pjnF (Yn L t0 t S.note).1 (-1) [(f,(Yn L t0 t S.note).2),(a,IntKind.i64.wrap (0-(Yn L t0 t S.note).2))] 1,⟨⟨rfl,rfl,fun q _=>Yb _⟩,by omega⟩,?_⟩
   . rcases(show q=0\/q=1 by omega)with rfl|rfl <;> exact Yb _
   exact⟨by decide,by decide,by decide,YI h ⟨⟨rfl,rfl⟩,⟨rfl,rfl⟩,⟨rfl,rfl⟩,trivial⟩ (fun _=>by simp [Ym,Yo])⟩
 . exact h.1.elim
end Go.Proofs.YtfjodiojchknmaaGreatDoor
