/- Many logarithms at once: the numbers below N in the lanes of one. -/
import Derived.Test.YtlhmikjnholpnaaGreatDoorMgX53h
open Bool renaming and->Qi,and_eq_true->YS
open Nat renaming add->Kg,add_assoc->Zk,add_mul->YM,add_zero->KO,beq->YJ,ble->Y7,div->Jb,div_add_mod->KP,div_div_eq_div_mul->K8,div_eq_of_lt->QN,div_le_self->XD,div_mul_le_self->XE,dvd_trans->JY,eq_of_beq_eq_true->Jy,eq_zero_or_pos->Jc,le_of_ble_eq_true->KC,le_of_eq->Yx,le_of_mul_le_mul_left->Vg,le_of_mul_le_mul_right->Ki,le_refl->Yt,le_trans->Yh,lt_of_le_of_lt->JC,lt_or_ge->YY,mod_eq_of_lt->QB,mod_lt->Kj,mul->K2,mul_add->Ka,mul_assoc->YA,mul_comm->Yl,mul_le_mul->YX,mul_le_mul_left->Yz,mul_le_mul_right->Yp,mul_one->Y0,mul_pos->Y1,mul_pow->Yq,mul_zero->ZD,not_lt_zero->J8,one_mul->Y2,pow->KI,pow_add->Yo,pow_le_pow_left->YG,pow_le_pow_right->Kp,pow_mul->Ym,pow_one->QO,pow_pos->YB,pow_succ->YH,pow_zero->Jk,two_pow_pos->QC,zero_add->KJ,zero_mul->JP
open Or renaming inr->KK
set_option linter.all false
set_option maxRecDepth 100000
namespace Go.Proofs.YtlhmikjnholpnaaGreatDoor.LT
open Go.Proofs.YtlhmikjnholpnaaGreatDoor.LS
def pk(w:Nat)(f:Nat->Nat):Nat->Nat
 |0=>0
 |n+1=>pk w f n+f n*2^(w*n)
theorem Aa(w:Nat)(f g:Nat->Nat):∀n,pk w f n+pk w g n=pk w (fun i=>f i+g i) n
 |0=>rfl
 |n+1=>by
  have:=Aa w f g n
  simp only[pk]
  rw[YM,<-this]
  omega
theorem Ab(w c:Nat)(f:Nat->Nat):∀n,c*pk w f n=pk w (fun i=>c*f i) n
 |0=>by simp [pk]
 |n+1=>by
  have:=Ab w c f n
  simp only[pk]
  rw[Ka,this,YA]
theorem Nd{w:Nat}{f g:Nat->Nat}:∀{n},(∀i,i<n->f i=g i)->pk w f n=pk w g n
 |0,_=>rfl
 |n+1,h=>by simp only[pk];rw[Nd fun i hi=>h i (by omega),h n (by omega)]
theorem YkX{w:Nat}{f g:Nat->Nat}{n:Nat}(h:∀i,i<n->g i<=f i):pk w f n-pk w g n=pk w (fun i=>f i-g i) n:=by
 have h1:=Aa w (fun i=>f i-g i) g n
 have h2:pk w (fun i=>f i-g i+g i) n=pk w f n:=Nd fun i hi=>by have:=h i hi;omega
 omega
theorem Fo{w:Nat}{f:Nat->Nat}:∀{n},(∀i,i<n->f i<2^w)->pk w f n<2^(w*n)
 |0,_=>by simp [pk]
 |n+1,h=>by
  have h1:=Fo (f:=f) (n:=n) fun i hi=>h i (by omega)
  have h2:=Yp (2^(w*n)) (show f n+1<=2^w from h n (by omega))
  rw[show w*(n+1)=w+w*n by rw[Ka];omega,Yo]
  simp only[pk]
  rw[YM]at h2
  omega
theorem Yam(w:Nat)(f:Nat->Nat)(m:Nat):∀n,pk w f (m+n)=pk w f m+pk w (fun i=>f (m+i)) n*2^(w*m)
 |0=>by simp [pk]
 |n+1=>by
  rw[<-Zk,pk,pk,Yam w f m n,YM,Ka w,Yo,Yl (2^(w*m)),YA]
  omega
theorem Yn9{A a B b M:Nat}(hA:A<M)(hB:B<M)(h:A+a*M=B+b*M):A=B/\a=b:=by
 have h0:0<M:=by omega
 have h1:(A+a*M)/M=a:=by rw[Nat.add_mul_div_right _ _ h0,QN hA];omega
 have h2:(B+b*M)/M=b:=by rw[Nat.add_mul_div_right _ _ h0,QN hB];omega
 have h3:a=b:=by rw[<-h1,h,h2]
 subst h3
 exact⟨by omega,rfl⟩
theorem Yan{w:Nat}{f g:Nat->Nat}:∀{n},(∀i,i<n->f i<2^w)->(∀i,i<n->g i<2^w)->pk w f n=pk w g n->∀i,i<n->f i=g i
 |0,_,_,_,i,hi=>by omega
 |n+1,hf,hg,h,i,hi=>by
  simp only[pk]at h
  have:=Yn9 (Fo fun i hi=>hf i (by omega)) (Fo fun i hi=>hg i (by omega)) h
  by_cases c:i=n
  ·rw[c];exact this.2
  ·exact Yan (fun i hi=>hf i (by omega)) (fun i hi=>hg i (by omega)) this.1 i (by omega)
theorem Ye4{A a B b m:Nat}(hA:A<2^m)(hB:B<2^m):(A+a*2^m)&&&(B+b*2^m)=(A&&&B)+(a&&&b)*2^m:=by
 have h0:0<2^m:=QC m
 have m1:∀{X x:Nat},X<2^m->(X+x*2^m)%2^m=X:=fun h=>by rw[Nat.add_mul_mod_self_right,QB h]
 have d1:∀{X x:Nat},X<2^m->(X+x*2^m)/2^m=x:=fun {X x} h=>by rw[Nat.add_mul_div_right _ _ h0,QN h];omega
 have hm:((A+a*2^m)&&&(B+b*2^m))%2^m=A&&&B:=by rw[Nat.and_mod_two_pow,m1 hA,m1 hB]
 have hd:((A+a*2^m)&&&(B+b*2^m))/2^m=a&&&b:=by rw[Nat.and_div_two_pow,d1 hA,d1 hB]
 have:=KP ((A+a*2^m)&&&(B+b*2^m)) (2^m)
 rw[hm,hd,Yl]at this
 omega
theorem L7{w:Nat}{f g:Nat->Nat}:∀{n},(∀i,i<n->f i<2^w)->(∀i,i<n->g i<2^w)->pk w f n&&&pk w g n=pk w (fun i=>f i&&&g i) n
 |0,_,_=>by simp [pk]
 |n+1,hf,hg=>by
  simp only[pk]
  rw[Ye4 (Fo fun i hi=>hf i (by omega)) (Fo fun i hi=>hg i (by omega)),L7 (fun i hi=>hf i (by omega)) (fun i hi=>hg i (by omega))]
theorem Yiy{x p q:Nat}(h:((x&&&2^p*(2^q-1))+2^p*(2^q-1))&&&2^(p+q)=2^(p+q)):1<=x/2^p%2^q:=by
 have e1:(x&&&2^p*(2^q-1))=2^p*(x/2^p%2^q):=by
  have hm:(x&&&2^p*(2^q-1))%2^p=0:=by rw[Nat.and_mod_two_pow,Nat.mul_mod_right,Nat.and_zero]
  have hd:(x&&&2^p*(2^q-1))/2^p=x/2^p%2^q:=by
   rw[Nat.and_div_two_pow,Nat.mul_div_cancel_left _ (QC p),Nat.and_two_pow_sub_one_eq_mod]
  have:=KP (x&&&2^p*(2^q-1)) (2^p)
  rw[hm,hd]at this
  omega
 rcases Jc (x/2^p%2^q)with h0|h0
 ·exfalso
  rw[e1,h0,ZD,KJ]at h
  have lt:2^p*(2^q-1)<2^(p+q):=by
   rw[Yo]
   exact Nat.mul_lt_mul_of_pos_left (by have:=QC q;omega) (QC p)
  have z:(2^p*(2^q-1))&&&2^(p+q)=0:=by
   have hd:((2^p*(2^q-1))&&&2^(p+q))/2^(p+q)=0:=by rw[Nat.and_div_two_pow,QN lt,Nat.zero_and]
   have hm:((2^p*(2^q-1))&&&2^(p+q))%2^(p+q)=0:=by rw[Nat.and_mod_two_pow,Nat.mod_self,Nat.and_zero]
   have:=KP ((2^p*(2^q-1))&&&2^(p+q)) (2^(p+q))
   rw[hd,hm]at this
   omega
  have:=QC (p+q)
  omega
 ·exact h0
def cf(Z N i:Nat):Nat:=Z/N^i/i
def fv(Z N:Nat):Nat->Nat->Nat
 |0,_=>0
 |d+1,u=>fv Z N d u+cf Z N (d+1)*u^(d+1)
theorem Ib{Z L N u:Nat}:∀d,Mul L d->fv Z N d u*(L*N^d)<=Z*A L N d u
 |0,_=>by simp [fv]
 |d+1,hL=>by
  have ih:=Yp N (Ib (Z:=Z) (N:=N) (u:=u) d hL.pred)
  have ht:=hL d (by omega)
  have h1:=XE Z (N^(d+1))
  have h2:=XE (Z/N^(d+1)) (d+1)
  rw[fv,A,cf]
  generalize L/(d+1)=t at*
  generalize Z/N^(d+1)/(d+1)=q at*
  generalize Z/N^(d+1)=x at*
  have k1:=Yp (N^(d+1)) h2
  have k2:=Yz (t*u^(d+1)) (Yh k1 h1)
  rw[<-ht]
  rw[<-ht]at ih
  have e1:(fv Z N d u+q*u^(d+1))*(t*(d+1)*N^(d+1))=fv Z N d u*(t*(d+1)*N^d)*N+t*u^(d+1)*(q*(d+1)*N^(d+1)):=by
   rw[YM];congr 1
   ·rw[YH];ac_rfl
   ·ac_rfl
  have e2:Z*(A (t*(d+1)) N d u*N+t*u^(d+1))=Z*A (t*(d+1)) N d u*N+t*u^(d+1)*Z:=by rw[Ka,YA];congr 1;ac_rfl
  omega
def pw(u:Nat):Nat->Nat
 |0=>0
 |d+1=>pw u d+u^(d+1)
theorem Ia{Z L N u:Nat}(hN:0<N):∀d,Mul L d->Z*A L N d u<=(fv Z N d u+pw u d)*(L*N^d)
 |0,_=>by simp [A]
 |d+1,hL=>by
  have ih:=Yp N (Ia (Z:=Z) (N:=N) (u:=u) hN d hL.pred)
  have ht:=hL d (by omega)
  have hp:0<N^(d+1):=YB hN
  have h1:Z<=(Z/N^(d+1)+1)*N^(d+1):=by
   have:=KP Z (N^(d+1))
   have:=Kj Z hp
   rw[YM,Y2,Yl (Z/N^(d+1))];omega
  have h2:Z/N^(d+1)+1<=(Z/N^(d+1)/(d+1)+1)*(d+1):=by
   have:=KP (Z/N^(d+1)) (d+1)
   have:=Kj (Z/N^(d+1)) (show 0<d+1 by omega)
   rw[YM,Y2,Yl (Z/N^(d+1)/(d+1))];omega
  rw[fv,A,cf,pw]
  generalize L/(d+1)=t at*
  generalize Z/N^(d+1)/(d+1)=q at*
  generalize Z/N^(d+1)=x at*
  have k1:=Yp (N^(d+1)) h2
  have k2:=Yz (t*u^(d+1)) (Yh h1 k1)
  rw[<-ht]
  rw[<-ht]at ih
  have e1:(fv Z N d u+q*u^(d+1)+(pw u d+u^(d+1)))*(t*(d+1)*N^(d+1))=(fv Z N d u+pw u d)*(t*(d+1)*N^d)*N+t*u^(d+1)*((q+1)*(d+1)*N^(d+1)):=by
   have e0:fv Z N d u+q*u^(d+1)+(pw u d+u^(d+1))=fv Z N d u+pw u d+(q+1)*u^(d+1):=by rw[YM,Y2];omega
   rw[e0,YM];congr 1
   ·rw[YH];ac_rfl
   ·ac_rfl
  have e2:Z*(A (t*(d+1)) N d u*N+t*u^(d+1))=Z*A (t*(d+1)) N d u*N+t*u^(d+1)*Z:=by rw[Ka,YA];congr 1;ac_rfl
  omega
theorem YaU{u v:Nat}(h:u<=v):∀d,pw u d<=pw v d
 |0=>Yt _
 |d+1=>Nat.add_le_add (YaU h d) (YG h _)
theorem Ic{Z N u:Nat}(hN:0<N)(h:2*u<=N):∀d,fv Z N d u*2^d+Z<=Z*2^d
 |0=>by simp [fv]
 |d+1=>by
  have ih:=Ic (Z:=Z) hN h d
  have h1:=YG h (d+1)
  rw[Yq]at h1
  have h2:=XE Z (N^(d+1))
  have h3:=XD (Z/N^(d+1)) (d+1)
  have h4:cf Z N (d+1)*u^(d+1)*2^(d+1)<=Z:=by
   unfold cf
   have a:=Yz (Z/N^(d+1)/(d+1)) h1
   have b:=Yp (N^(d+1)) h3
   have e:Z/N^(d+1)/(d+1)*u^(d+1)*2^(d+1)=Z/N^(d+1)/(d+1)*(2^(d+1)*u^(d+1)):=by ac_rfl
   omega
  rw[fv,YM]
  have e1:fv Z N d u*2^(d+1)=2*(fv Z N d u*2^d):=by rw[YH];ac_rfl
  have e2:Z*2^(d+1)=2*(Z*2^d):=by rw[YH];ac_rfl
  omega
theorem Yhk{Z N u:Nat}(hN:0<N)(h:2*u<=N)(d:Nat):fv Z N d u<=Z:=by
 have:=Ic (Z:=Z) hN h d
 refine Ki (c:=2^d) ?_ (QC d)
 omega
theorem Rv{L N u:Nat}(hN:0<N)(h:2*u<=N):∀d,Mul L d->A L N d u*2^d+L*N^d<=L*N^d*2^d
 |0,_=>by simp [A]
 |d+1,hL=>by
  have ih:=Yp N (Rv (L:=L) hN h d hL.pred)
  have h1:=YG h (d+1)
  rw[Yq]at h1
  have h3:=YX (XD L (d+1)) h1
  rw[A]
  have e1:(A L N d u*N+L/(d+1)*u^(d+1))*2^(d+1)=2*(A L N d u*2^d*N)+L/(d+1)*(2^(d+1)*u^(d+1)):=by rw[YM];congr 1 <;> (rw[YH];ac_rfl)
  have e2:L*N^(d+1)*2^(d+1)=2*(L*N^d*2^d*N):=by rw[YH,YH 2];ac_rfl
  have e3:(A L N d u*2^d+L*N^d)*N=A L N d u*2^d*N+L*N^(d+1):=by rw[YM,YH];congr 1;ac_rfl
  omega
theorem A_le{L N u:Nat}(hN:0<N)(h:2*u<=N){d:Nat}(hL:Mul L d):A L N d u<=L*N^d:=by
 have:=Rv (L:=L) hN h d hL
 refine Ki (c:=2^d) ?_ (QC d)
 omega
def PL(Q n a:Nat):Prop:=2^a<=n^Q
def PH(Q n b:Nat):Prop:=n^Q<=2^b
theorem Ygr{B Q l2 L N d u f:Nat}(hB:0<B)(h0:0<L)(hL:Mul L d)(hu:u<N)(h2:Hi B 2 1 l2)(hf:f*l2*(L*N^d)<=Q*B*A L N d u):2^f*(N-u)^Q<=N^Q:=by
 have h1:=Ok (K:=B*B) hL hu
 have hW:0<L*N^d:=Y1 h0 (YB (by omega))
 have hK:0<B*B:=Y1 hB hB
 unfold Hi at h2
 rw[Y0]at h2
 refine GP hW ?_
 have k1:=YG h1 Q
 have k2:=YG h2 (f*(L*N^d))
 obtain⟨r,hr⟩:∃r,B*B*A L N d u*Q=B*l2*(f*(L*N^d))+r:=by
  have:=Yz B hf
  refine⟨B*B*A L N d u*Q-B*l2*(f*(L*N^d)),?_⟩
  have e1:B*(f*l2*(L*N^d))=B*l2*(f*(L*N^d)):=by ac_rfl
  have e2:B*(Q*B*A L N d u)=B*B*A L N d u*Q:=by ac_rfl
  omega
 generalize L*N^d=W at*
 generalize A L N d u=a at*
 generalize B*B=K at*
 rw[Yq,Yq,<-Ym,<-Ym,<-Ym,<-Ym,hr,Yo,Yo]at k1
 rw[Yq,<-Ym,<-Ym]at k2
 rw[Yq,<-Ym,<-Ym,<-Ym,Yl Q W]
 have hp:0<K^(B*l2*(f*W))*K^r:=Y1 (YB hK) (YB hK)
 refine Ki (c:=K^(B*l2*(f*W))*K^r) ?_ hp
 have k3:=YX k2 (YG (show K<=K+1 by omega) r)
 have k4:=Yp ((N-u)^(W*Q)) k3
 refine Yh (Yx ?_) (Yh k4 (Yh (Yx ?_) (Yh k1 (Yx ?_)))) <;> ac_rfl
theorem Ygs{B Q l2 L N d u t g:Nat}(hB:0<B)(h0:0<L)(hL:Mul L (d+1))(hu:u<N)(ht:L*u^(d+1)<=t*(N-u))(h2:Lo B 2 1 l2)(hg:Q*((B*B+1)*(A L N (d+1) u+t*u))<=B*l2*(g*(L*N^(d+1)))):N^Q<=2^g*(N-u)^Q:=by
 have h1:=Oj (K:=B*B) hL hu ht
 have hW:0<L*N^(d+1):=Y1 h0 (YB (by omega))
 have hK:0<B*B:=Y1 hB hB
 unfold Lo at h2
 rw[Y0]at h2
 refine GP hW ?_
 have k1:=YG h1 Q
 have k2:=YG h2 (g*(L*N^(d+1)))
 generalize A L N (d+1) u+t*u=a at*
 generalize L*N^(d+1)=W at*
 generalize B*B=K at*
 obtain⟨r,hr⟩:∃r,B*l2*(g*W)=(K+1)*a*Q+r:=⟨B*l2*(g*W)-(K+1)*a*Q,by rw[Yl Q]at hg;omega⟩
 rw[Yq,Yq,<-Ym,<-Ym,<-Ym,<-Ym]at k1
 rw[Yq,<-Ym,<-Ym,hr,Yo,Yo]at k2
 rw[Yq,<-Ym,<-Ym,<-Ym,Yl Q W]
 have hp:0<(K+1)^((K+1)*a*Q)*K^r:=Y1 (YB (by omega)) (YB hK)
 have k3:=Yz ((K+1)^((K+1)*a*Q)) (YG (show K<=K+1 by omega) r)
 have k4:=YX (Yh k3 k2) k1
 have hp2:0<(K+1)^((K+1)*a*Q)*K^r*(K^((K+1)*a*Q)):=Y1 hp (YB hK)
 refine Ki (c:=(K+1)^((K+1)*a*Q)*K^r*(K^((K+1)*a*Q))) ?_ hp2
 refine Yh (Yx ?_) (Yh k4 (Yx ?_)) <;> ac_rfl
end Go.Proofs.YtlhmikjnholpnaaGreatDoor.LT
set_option maxRecDepth 100000
namespace Go.Proofs.YtlhmikjnholpnaaGreatDoor.LT
open Go.Proofs.YtlhmikjnholpnaaGreatDoor.LS
theorem Yj0{L d:Nat}(h:Mul L d)(c:Nat):Mul (L*c) d:=fun i hi=>by
 have h1:=h i hi
 have:(i+1)∣L*c:=JY ⟨L/(i+1),by rw[Yl];exact h1.symm⟩ (Nat.dvd_mul_right _ _)
 exact Nat.div_mul_cancel this
structure Par (B Q l2 Z Zu e U d N1:Nat):Prop where
 hB:2<=B
 two:Two B l2
 hZ:Z*(l2+4)<=Q*B
 hu:Q*(B*B+1)<=B*l2*Zu
 hN:2*U<=N1/\0<N1
 he:∃δ et,Zu=Z+δ/\pw U (d+1)+δ+et<=e/\Zu*U^(d+2)<=et*((N1-U)*N1^(d+1))
theorem Par.ph{B Q l2 Z Zu e U d N1 N u b:Nat}(P:Par B Q l2 Z Zu e U d N1)(hN:N1<=N)(hu:u<=U)(h:PH Q N b)(hb:fv Z N (d+1) u<=b):PH Q (N-u) (b-fv Z N (d+1) u):=by
 obtain⟨L,h0,hL⟩:=Bk (d+1)
 have hNp:=P.hN
 have h1:=Ib (Z:=Z) (N:=N) (u:=u) (d+1) hL
 have h2:fv Z N (d+1) u*(l2+4)*(L*N^(d+1))<=Q*B*A L N (d+1) u:=by
  have a:=Yz (l2+4) h1
  have b:=Yp (A L N (d+1) u) P.hZ
  refine Yh (Yx ?_) (Yh a (Yh (Yx ?_) b)) <;> ac_rfl
 have h3:=Ygr (by have:=P.hB;omega) h0 hL (show u<N by have:=P.hN;omega) P.two.2 h2
 unfold PH at*
 refine Vg (c:=2^fv Z N (d+1) u) ?_ (QC _)
 rw[<-Yo,Nat.add_sub_cancel' hb]
 exact Yh h3 h
theorem Par.pl{B Q l2 Z Zu e U d N1 N u a:Nat}(P:Par B Q l2 Z Zu e U d N1)(hN:N1<=N)(hu:u<=U)(h:PL Q N a):PL Q (N-u) (a-(fv Z N (d+1) u+e)):=by
 obtain⟨L,h0,hL⟩:=Bk (d+1)
 obtain⟨n1,n2⟩:=P.hN
 obtain⟨δ,et,hδ,he,htail⟩:=P.he
 have huN:u<N:=by omega
 have hL':=Yj0 hL (N-u)
 have h0':0<L*(N-u):=Y1 h0 (by omega)
 have h1:=Ia (Z:=Z) (N:=N) (u:=u) (by omega) (d+1) hL'
 have h2:=A_le (N:=N) (u:=u) (by omega) (by omega) hL'
 have hpw:=YaU hu (d+1)
 have hg:Q*((B*B+1)*(A (L*(N-u)) N (d+1) u+L*u^(d+1)*u))<=B*l2*((fv Z N (d+1) u+e)*(L*(N-u)*N^(d+1))):=by
  have ht:Zu*(L*u^(d+1)*u)<=et*(L*(N-u)*N^(d+1)):=by
   have a1:=YG hu (d+2)
   have a2:=Yz Zu a1
   have a3:=YX (show N1-U<=N-u by omega) (YG hN (d+1))
   have a4:=Yz L (Yh a2 (Yh htail (Yz et a3)))
   refine Yh (Yx ?_) (Yh a4 (Yx ?_))
   ·rw[YH u (d+1)];ac_rfl
   ·ac_rfl
  have hA:Zu*A (L*(N-u)) N (d+1) u<=(fv Z N (d+1) u+pw U (d+1)+δ)*(L*(N-u)*N^(d+1)):=by
   rw[hδ,YM,YM _ δ]
   have a1:=Yz δ h2
   have a2:=Yp (L*(N-u)*N^(d+1)) (show fv Z N (d+1) u+pw u (d+1)<=fv Z N (d+1) u+pw U (d+1)by omega)
   omega
  have hs:Zu*(A (L*(N-u)) N (d+1) u+L*u^(d+1)*u)<=(fv Z N (d+1) u+e)*(L*(N-u)*N^(d+1)):=by
   rw[Ka]
   have a3:=Yp (L*(N-u)*N^(d+1)) (show fv Z N (d+1) u+pw U (d+1)+δ+et<=fv Z N (d+1) u+e by omega)
   rw[YM _ et]at a3
   omega
  have k1:=Yp (A (L*(N-u)) N (d+1) u+L*u^(d+1)*u) P.hu
  have k2:=Yz (B*l2) hs
  refine Yh (Yx ?_) (Yh k1 (Yh (Yx ?_) k2)) <;> ac_rfl
 have h3:=Ygs (by have:=P.hB;omega) h0' hL' huN (t:=L*u^(d+1)) (Yx (by ac_rfl)) P.two.1 hg
 unfold PL at*
 rcases YY a (fv Z N (d+1) u+e)with c|c
 ·rw[show a-(fv Z N (d+1) u+e)=0 by omega,Jk]
  exact YB (by omega)
 ·refine Vg (c:=2^(fv Z N (d+1) u+e)) ?_ (QC _)
  rw[<-Yo,Nat.add_sub_cancel' c]
  exact Yh h h3
def HD(w i k:Nat):Nat->Nat:=Nat.rec (fun lo=>KI lo i) (fun k ih lo=>Kg (ih lo) (Nat.shiftLeft (ih (Kg lo (KI 2 k))) (K2 w (KI 2 k)))) k
theorem Rh(w i:Nat):∀k lo,HD w i k lo=pk w (fun u=>(lo+u)^i) (2^k)
 |0,lo=>by
  have:HD w i 0 lo=lo^i:=rfl
  rw[this];simp [pk]
 |k+1,lo=>by
  have:HD w i (k+1) lo=HD w i k lo+HD w i k (lo+2^k) <<< (w*2^k):=rfl
  rw[this,Rh w i k,Rh w i k,Nat.shiftLeft_eq,YH,Nat.mul_two,Yam]
  congr 3
  funext u
  rw[Zk]
def V(w i k:Nat):Nat:=Kg (HD w i k 0) (Nat.shiftLeft (KI (KI 2 k) i) (K2 w (KI 2 k)))
theorem Cw(w i k:Nat):V w i k=pk w (fun u=>u^i) (2^k+1):=by
 have:V w i k=HD w i k 0+(2^k)^i <<< (w*2^k):=rfl
 rw[this,Rh,Nat.shiftLeft_eq,pk]
 congr 2
 funext u
 rw[KJ]
def fs(w k N:Nat)(d:Nat):Nat->Nat->Nat->Nat:=
 Nat.rec (fun _ _ s=>s) (fun _ ih i x s=>ih (Nat.succ i) (Jb x N) (Kg s (K2 (Jb x i) (V w i k)))) d
def sv(N u:Nat):Nat->Nat->Nat->Nat
 |0,_,_=>0
 |d+1,i,x=>x/i*u^i+sv N u d (i+1) (x/N)
theorem T9(w k N:Nat):∀d i x s,fs w k N d i x s=s+pk w (fun u=>sv N u d i x) (2^k+1)
 |0,i,x,s=>by
  have h:∀n,pk w (fun u=>sv N u 0 i x) n=0:=fun n=>by
   induction n with
   |zero=>rfl
   |succ n ih=>rw[pk,ih,sv,JP]
  rw[h];rfl
 |d+1,i,x,s=>by
  have h:fs w k N (d+1) i x s=fs w k N d (i+1) (x/N) (s+x/i*V w i k):=rfl
  rw[h,T9 w k N d,Cw,Ab,Zk,Aa]
  rfl
theorem Yck(Z N u:Nat):∀d j,sv N u d (j+1) (Z/N^(j+1))+fv Z N j u=fv Z N (j+d) u
 |0,j=>by rw[sv,KJ,KO]
 |d+1,j=>by
  have ih:=Yck Z N u d (j+1)
  have e:Z/N^(j+1)/N=Z/N^(j+1+1):=by rw[K8,<-YH]
  rw[sv,e,show j+(d+1)=j+1+d by omega,<-ih,fv,cf]
  omega
theorem Yhj(w k Z N d:Nat):fs w k N d 1 (Z/N) 0=pk w (fun u=>fv Z N d u) (2^k+1):=by
 rw[T9,KJ]
 refine Nd fun u _=>?_
 have h:=Yck Z N u d 0
 rw[fv,KO,KJ,KJ,QO]at h
 exact h
def blk(w k d Z ONE MASK SP:Nat)(n:Nat):Nat->Nat->Bool:=
 Nat.rec (fun _ _=>true) (fun _ ih N A=>Bool.casesOn (Y7 (Kg Z 2) A) false ((fun X=>Bool.casesOn (YJ (Nat.land (Kg (Nat.land X MASK) MASK) SP) SP) false (ih (Nat.sub N (KI 2 k)) (Nat.shiftRight X (K2 w (KI 2 k))))) (Nat.sub (K2 A ONE) (fs w k N d 1 (Jb Z N) 0)))) n
def Tgt(Q R m:Nat):Prop:=∃a b r,PL Q m a/\PH Q m b/\r*2^R+2<=a/\b+2<=(r+1)*2^R
theorem Yiz{Q p q m z l:Nat}(hl:l+2<=2^p)(h1:PL Q m (z-l))(h2:PH Q m (z-2))(hz:2<=z)(h:1<=z/2^p%2^q):Tgt Q (p+q) m:=by
 refine⟨z-l,z-2,z/2^(p+q),h1,h2,?_,?_⟩
 ·have e1:=KP z (2^p)
  have e2:=KP (z/2^p) (2^q)
  rw[K8,<-Yo]at e2
  have e3:z/2^(p+q)*2^(p+q)=2^p*(2^q*(z/2^(p+q))):=by rw[Yo];ac_rfl
  have e4:=Yz (2^p) (show 2^q*(z/2^(p+q))+1<=z/2^p by omega)
  rw[Ka]at e4
  omega
 ·have e1:=KP z (2^(p+q))
  have e2:=Kj z (QC (p+q))
  rw[YM,Y2,Yl (z/2^(p+q))]
  omega
theorem Sx{B Q l2 Z Zu e d N1 w k p q:Nat}(P:Par B Q l2 Z Zu e (2^k) d N1)(hpq:p+q<w):∀(n N A l:Nat),blk w k (d+1) Z (V w 0 k) (V w 0 k*(2^p*(2^q-1))) (V w 0 k*2^(p+q)) n N A=true->
 N1+n*2^k<=N+2^k->A<2^w->PL Q N (A-l)->PH Q N (A-2)->l+n*e+2<=2^p->∀m,N<=m+n*2^k->m<=N->m<N\/0<n->Tgt Q (p+q) m
 |0,N,A,l,_,_,_,_,_,_,m,hm,hm2,h3=>by omega
 |n+1,N,A,l,h,hN,hA,hl,hh,hle,m,hm,hm2,_=>by
  have h:Bool.casesOn (motive:=fun _=>Bool) (Y7 (Z+2) A) false (Bool.casesOn (YJ ((((A*V w 0 k-fs w k N (d+1) 1 (Z/N) 0)&&&(V w 0 k*(2^p*(2^q-1))))+V w 0 k*(2^p*(2^q-1)))&&&(V w 0 k*2^(p+q))) (V w 0 k*2^(p+q))) false
   (blk w k (d+1) Z (V w 0 k) (V w 0 k*(2^p*(2^q-1))) (V w 0 k*2^(p+q)) n (N-2^k) ((A*V w 0 k-fs w k N (d+1) 1 (Z/N) 0) >>> (w*2^k))))=true:=h
  cases hb:Y7 (Z+2) A with
  |false=>rw[hb]at h;cases h
  |true=>
   rw[hb]at h
   have hZA:=KC hb
   obtain⟨n1,n2⟩:=P.hN
   have hk0:=QC k
   rw[YM,Y2]at hN hm hle
   have hN1:N1<=N:=by omega
   have hfv:∀u,u<=2^k->fv Z N (d+1) u<=Z:=fun u hu=>Yhk (by omega) (by omega) _
   have hX:A*V w 0 k-fs w k N (d+1) 1 (Z/N) 0=pk w (fun u=>A-fv Z N (d+1) u) (2^k+1):=by
    rw[Yhj,Cw,Ab,YkX fun i hi=>?_]
    ·exact Nd fun i hi=>by rw[Jk,Y0]
    ·rw[Jk,Y0]
     have:=hfv i (by omega)
     omega
   rw[hX]at h
   have hone:∀c,V w 0 k*c=pk w (fun _=>c) (2^k+1):=fun c=>by
    rw[Cw,Yl,Ab]
    exact Nd fun i hi=>by rw[Jk,Y0]
   have hq1:2^p*(2^q-1)<2^(p+q):=by
    rw[Yo]
    exact Nat.mul_lt_mul_of_pos_left (by have:=QC q;omega) (QC p)
   have hw:2*2^(p+q)<=2^w:=by
    rw[<-Nat.pow_succ']
    exact Kp (by decide) hpq
   have lt1:∀u,A-fv Z N (d+1) u<2^w:=fun u=>by omega
   have land1:∀x,x&&&2^p*(2^q-1)<=2^p*(2^q-1):=fun x=>Nat.and_le_right
   have ht:(pk w (fun u=>A-fv Z N (d+1) u) (2^k+1)&&&V w 0 k*(2^p*(2^q-1)))+V w 0 k*(2^p*(2^q-1))&&&V w 0 k*2^(p+q)=
    pk w (fun u=>((A-fv Z N (d+1) u&&&2^p*(2^q-1))+2^p*(2^q-1))&&&2^(p+q)) (2^k+1):=by
    rw[hone,hone,L7 (fun i hi=>lt1 i) (fun i hi=>by omega),Aa,L7 (fun i hi=>by have:=land1 (A-fv Z N (d+1) i);omega) (fun i hi=>by omega)]
   rw[ht]at h
   cases hc:YJ (pk w (fun u=>((A-fv Z N (d+1) u&&&2^p*(2^q-1))+2^p*(2^q-1))&&&2^(p+q)) (2^k+1)) (V w 0 k*2^(p+q))with
   |false=>rw[hc]at h;cases h
   |true=>
    rw[hc]at h
    have heq:=Jy hc
    rw[hone]at heq
    have hlane:=Yan (fun i hi=>JC Nat.and_le_right (by omega)) (fun i hi=>by omega) heq
    have hst:∀u,u<=2^k->PL Q (N-u) (A-fv Z N (d+1) u-(l+e))/\PH Q (N-u) (A-fv Z N (d+1) u-2):=fun u hu=>by
     have g1:=P.pl hN1 hu hl
     have g2:=P.ph hN1 hu hh (by have:=hfv u hu;omega)
     rw[show A-l-(fv Z N (d+1) u+e)=A-fv Z N (d+1) u-(l+e)by omega]at g1
     rw[show A-2-fv Z N (d+1) u=A-fv Z N (d+1) u-2 by omega]at g2
     exact⟨g1,g2⟩
    rcases YY m (N-2^k)with c|c
    ·have hA':(pk w (fun u=>A-fv Z N (d+1) u) (2^k+1)) >>> (w*2^k)=A-fv Z N (d+1) (2^k):=by
      rw[Nat.shiftRight_eq_div_pow,pk,Nat.add_mul_div_right _ _ (QC _),QN (Fo fun i hi=>lt1 i),KJ]
     have h:blk w k (d+1) Z (V w 0 k) (V w 0 k*(2^p*(2^q-1))) (V w 0 k*2^(p+q)) n (N-2^k) ((pk w (fun u=>A-fv Z N (d+1) u) (2^k+1)) >>> (w*2^k))=true:=h
     rw[hA']at h
     obtain⟨g1,g2⟩:=hst (2^k) (Yt _)
     have hn:0<n:=by
      rcases Jc n with rfl|hn
      ·omega
      ·exact hn
     exact Sx P hpq n _ _ (l+e) h (by omega) (lt1 _) g1 g2 (by omega) m (by omega) (by omega) (KK hn)
    ·obtain⟨u,rfl⟩:∃u,m=N-u:=⟨N-m,by omega⟩
     have hu:N-(N-u)<=2^k:=by omega
     obtain⟨v,hv⟩:∃v,v=N-(N-u):=⟨_,rfl⟩
     rw[show N-u=N-v by omega]
     rw[<-hv]at hu
     obtain⟨g1,g2⟩:=hst v hu
     have hvZ:=hfv v hu
     exact Yiz (by omega) g1 g2 (by omega) (Yiy (hlane v (by omega)))
end Go.Proofs.YtlhmikjnholpnaaGreatDoor.LT
set_option maxRecDepth 100000
namespace Go.Proofs.YtlhmikjnholpnaaGreatDoor.LT
open Go.Proofs.YtlhmikjnholpnaaGreatDoor.LS
theorem Lh{y:Nat}(x:Nat)(hy:0<y):x<=y*(x/y+1):=by
 have h1:=KP x y
 have h2:=Kj x hy
 generalize x/y=z at*
 rw[Ka,Y0];omega
def pwK(U:Nat)(d:Nat):Nat:=Nat.rec 0 (fun d ih=>Kg ih (KI U (Nat.succ d))) d
theorem YaT(U:Nat):∀d,pwK U d=pw U d
 |0=>rfl
 |d+1=>by
  have:pwK U (d+1)=pwK U d+U^(d+1):=rfl
  rw[this,YaT U d,pw]
def run(B c J p q w k d n s N:Nat):Bool:=
 ser B 300 2 (fun l2=>Ek B c l2 100 s N (fun la _ e0=>
  (fun Q=>(fun Z=>(fun Zu=>(fun N1=>(fun et=>(fun e=>(fun a=>(fun A=>
    Qi (Qi (Qi (Qi (Y7 1 l2) (Y7 1 n)) (Qi (Y7 (K2 2 (KI 2 k)) N1) (Y7 (Kg (K2 n (KI 2 k)) 1) N))) (Qi (Qi (Y7 Z Zu) (Nat.blt A (KI 2 w))) (Qi (Y7 a A) (Y7 (Kg (Kg (Nat.sub A a) (K2 n e)) 2) (KI 2 p)))))
     (blk w k (Nat.succ d) Z (V w 0 k) (K2 (V w 0 k) (K2 (KI 2 p) (Nat.sub (KI 2 q) 1))) (K2 (V w 0 k) (KI 2 (Kg p q))) n N A))
    (Kg (Nat.succ (Jb (K2 (Kg la e0) Q) l2)) 2)) (Jb (K2 la Q) (Kg l2 4))) (Kg (Kg (pwK (KI 2 k) (Nat.succ d)) (Nat.sub Zu Z)) et))
    (Nat.succ (Jb (K2 Zu (KI (KI 2 k) (Kg d 2))) (K2 (Nat.sub N1 (KI 2 k)) (KI N1 (Nat.succ d)))))) (Nat.sub (Kg N (KI 2 k)) (K2 n (KI 2 k)))) (Nat.succ (Jb (K2 Q (Nat.succ (K2 B B))) (K2 B l2)))) (Jb (K2 Q B) (Kg l2 4))) (KI 2 (Kg J (Kg p q)))))
theorem Ynz{B c J p q w k d n s N:Nat}(hB:2<=B)(hpq:p+q<w)(hN0:1<=N)(h:run B c J p q w k d n s N=true):∀m,N<=m+n*2^k->m<=N->Tgt (2^(J+(p+q))) (p+q) m:=by
 obtain⟨l2,h1,h2,h⟩:=YbM hB (by decide) h
 obtain⟨la,lb,e0,hs,h⟩:=Td hB ⟨h1,h2⟩ _ _ _ _ hN0 h
 have htwo:Two B l2:=⟨h1,h2⟩
 obtain⟨Q,hQ⟩:∃Q,Q=2^(J+(p+q)):=⟨_,rfl⟩
 obtain⟨Z,hZ⟩:∃Z,Z=Q*B/(l2+4):=⟨_,rfl⟩
 obtain⟨Zu,hZu⟩:∃Zu,Zu=Q*(B*B+1)/(B*l2)+1:=⟨_,rfl⟩
 obtain⟨N1,hN1⟩:∃N1,N1=N+2^k-n*2^k:=⟨_,rfl⟩
 obtain⟨et,het⟩:∃et,et=Zu*(2^k)^(d+2)/((N1-2^k)*N1^(d+1))+1:=⟨_,rfl⟩
 obtain⟨e,he⟩:∃e,e=pwK (2^k) (d+1)+(Zu-Z)+et:=⟨_,rfl⟩
 obtain⟨a,ha⟩:∃a,a=la*Q/(l2+4):=⟨_,rfl⟩
 obtain⟨A,hA⟩:∃A,A=(la+e0)*Q/l2+1+2:=⟨_,rfl⟩
 have h:(((Y7 1 l2&&Y7 1 n)&&(Y7 (2*2^k) N1&&Y7 (n*2^k+1) N))&&((Y7 Z Zu&&Nat.blt A (2^w))&&(Y7 a A&&Y7 (A-a+n*e+2) (2^p)))&&
  blk w k (d+1) Z (V w 0 k) (V w 0 k*(2^p*(2^q-1))) (V w 0 k*2^(p+q)) n N A)=true:=by
  rw[hA,ha,he,het,hN1,hZu,hZ,hQ]
  exact h
 simp only[YS]at h
 obtain⟨⟨⟨⟨c1,c2⟩,c3,c4⟩,⟨c5,c6⟩,c7,c8⟩,hblk⟩:=h
 have c1:=KC c1
 have c2:=KC c2
 have c3:=KC c3
 have c4:=KC c4
 have c5:=KC c5
 have c6:A<2^w:=KC c6
 have c7:=KC c7
 have c8:=KC c8
 have hk0:=QC k
 have P:Par B Q l2 Z Zu e (2^k) d N1:=by
  refine⟨hB,htwo,?_,?_,⟨c3,by omega⟩,Zu-Z,et,by omega,?_,?_⟩
  ·rw[hZ];exact XE _ _
  ·rw[hZu]
   exact Lh _ (Y1 (by omega) c1)
  ·rw[he,YaT];exact Yt _
  ·rw[het]
   have h0:0<(N1-2^k)*N1^(d+1):=Y1 (by omega) (YB (by omega))
   rw[Yl (_+1)]
   exact Lh _ h0
 have hPL:PL Q N (A-(A-a)):=by
  rw[show A-(A-a)=a by omega]
  have:=cmp (by omega) (Hi.pow htwo.2 a) (Lo.pow hs.1.1 Q) (by
   rw[ha];exact Nat.mul_div_le _ _)
  exact this
 have hPH:PH Q N (A-2):=by
  have:=cmp (by omega) (Hi.pow hs.1.2 Q) (Lo.pow htwo.1 ((la+e0)*Q/l2+1)) (Lh _ c1)
  rw[hA,Nat.add_sub_cancel]
  exact this
 rw[<-hQ]
 intro m hm1 hm2
 exact Sx P hpq n N A (A-a) hblk (by omega) c6 hPL hPH c8 m hm1 hm2 (KK c2)
end Go.Proofs.YtlhmikjnholpnaaGreatDoor.LT
set_option maxRecDepth 100000
namespace Go.Proofs.YtlhmikjnholpnaaGreatDoor.LT
def tP(n:Nat):Nat:=KI 2 n
def tB:Nat:=tP 560
def r1(n N:Nat):Bool:=run tB 40 274 166 44 490 9 16 n 28 N
def rR(i:Nat):Bool:=r1 1000 (Nat.sub 536870911 (K2 512000 i))
def rP(a n:Nat):Prop:=∀i,i<n->rR (a+i)=true
theorem rN(a:Nat):rP a 0:=fun i h=>absurd h (J8 i)
theorem rS{a n:Nat}(h:rP a n)(h1:rR (a+n)=true):rP a (n+1):=fun i hi=>by
 rcases YY i n with h2|h2
 ·exact h i h2
 ·rw[show i=n by omega];exact h1
def rQ(a n:Nat):Bool:=Nat.rec true (fun i ih=>Qi (rR (Kg a i)) ih) n
theorem Ya7{a:Nat}:∀n,rQ a n=true->rP a n
 |0,_=>rN a
 |n+1,h=>by
  have h:Qi (rR (a+n)) (rQ a n)=true:=h
  obtain⟨h1,h2⟩:=Bool.and_eq_true_iff.1 h
  exact rS (Ya7 n h2) h1
theorem rT{a n:Nat}(k:Nat)(h:rP a n)(h1:rQ (a+n) k=true):rP a (n+k):=fun i hi=>by
 rcases YY i n with h2|h2
 ·exact h i h2
 ·have g:=Ya7 k h1 (i-n) (by omega)
  rwa [show a+n+(i-n)=a+i by omega]at g
theorem tP_2(n:Nat):2<=tP (n+1):=by
 have:tP (n+1)=tP n*2:=rfl
 have:0<tP n:=QC n
 omega
theorem tB_2:2<=tB:=tP_2 559
theorem r1_is{n N:Nat}(hN:1<=N)(h:r1 n N=true){m:Nat}(h1:N<=m+n*512)(h2:m<=N):Tgt (2^(274+(166+44))) (166+44) m:=
 Ynz tB_2 (by decide) hN h m h1 h2
end Go.Proofs.YtlhmikjnholpnaaGreatDoor.LT
