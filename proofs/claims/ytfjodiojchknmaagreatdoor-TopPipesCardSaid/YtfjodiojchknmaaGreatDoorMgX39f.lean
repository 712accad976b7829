/- Logarithms in whole numbers: powers of 1 + 1/k against quotients; many numbers in the lanes of one. -/
import Derived.Test.YtfjodiojchknmaaGreatDoorMgX39d
open Int renaming mul_le_mul_of_nonneg_left->YHb,mul_le_mul_of_nonneg_right->YHj,mul_nonneg->YG7,pow_nonneg->YH3
open Nat renaming add_mul->YHr,beq->YHC,div_add_mod->YHH,div_div_eq_div_mul->YHK,div_mul_le_self->YHU,eq_of_beq_eq_true->YHk,eq_zero_or_pos->YHR,le_trans->YHc,lt_of_le_of_lt->YHG,mul_add->YH7,mul_assoc->YG6,mul_comm->YG4,mul_le_mul->YHi,mul_le_mul_left->YG5,mul_le_mul_right->YG3,mul_pos->YHX,pow_add->YHa,pow_le_pow_left->YHe,zero_add->YH0
set_option linter.all false
set_option maxRecDepth 100000
namespace Go.Proofs.YtfjodiojchknmaaGreatDoor.LB
theorem id31(K d:Int):K*((24*K^3+18*K^2*(d+1)+6*K*(d+1)^2+(d+1)^3)*(24*K^3-6*K^2*d))-(K+1)*((24*K^3+18*K^2*d+6*K*d^2+d^3)*(24*K^3-6*K^2*(d+1)))=
  6*d^4*K^2+(288*K^5+144*K^4*d+18*K^3*d^2+6*K^2*d^3)+(24*K^4-6*K^3*d):=by grind
theorem id22(K d:Int):K*((12*K^2+6*K*d+d^2)*(12*K^2-6*K*(d+1)+(d+1)^2))-(K-1)*((12*K^2+6*K*(d+1)+(d+1)^2)*(12*K^2-6*K*d+d^2))=d^4+12*K^2*d+(12*K^2-6*K*d+d^2)*(6*K+2*d)+(12*K^2-6*K*d+d^2):=by grind
theorem sq_nn(a:Int):0<=a*a:=by
 rcases Int.le_total 0 a with h|h
 . exact YG7 h h
 . have:=YG7 (show 0<= -a by omega) (show 0<= -a by omega)
   grind
theorem YJ{a b c:Int}(h:a<=b)(hc:0<=c):a*c<=b*c:=YHj h hc
theorem up31{K:Int}(hK:1<=K):∀d:Nat,(d:Int)<=4*K->(K+1)^d*(24*K^3-6*K^2*d)<=K^d*(24*K^3+18*K^2*d+6*K*(d:Int)^2+(d:Int)^3)
 |0,_=>by simp
 |d+1,h=>by
   have ih:=up31 hK d (by omega)
   have hd0:(0:Int)<=d:=Int.natCast_nonneg d
   have h1:((d+1:Nat):Int)=(d:Int)+1:=by omega
   rw[h1]at h⊢
   generalize(d:Int)=e at*
   have hk:(0:Int)<=K^d:=YH3 (by omega)
   have hg:(0:Int)<=(K+1)^d:=YH3 (by omega)
   have hD:0<24*K^3-6*K^2*e:=by
     have:24*K^3-6*K^2*e=6*K^2*(4*K-e):=by grind
     rw[this]
     exact Int.mul_pos (Int.mul_pos (by decide) (Int.pow_pos (by omega))) (by omega)
   have hD1:0<=24*K^3-6*K^2*(e+1):=by
     have:24*K^3-6*K^2*(e+1)=6*K^2*(4*K-(e+1)):=by grind
     rw[this]
     exact YG7 (YG7 (by decide) (YH3 (by omega))) (by omega)
   have hid:=id31 K e
   have hnn:0<=6*e^4*K^2+(288*K^5+144*K^4*e+18*K^3*e^2+6*K^2*e^3)+(24*K^4-6*K^3*e):=by
     have e1:24*K^4-6*K^3*e=6*K^3*(4*K-e):=by grind
     have p:∀i j:Nat,0<=K^i*e^j:=fun i j=>YG7 (YH3 (by omega)) (YH3 hd0)
     have q1:0<=6*K^3*(4*K-e):=YG7 (YG7 (by decide) (YH3 (by omega))) (by omega)
     have:=p 2 4;have:=p 5 0;have:=p 4 1;have:=p 3 2;have:=p 2 3
     grind
   generalize hDd:24*K^3-6*K^2*e=D at*
   generalize hDe:24*K^3-6*K^2*(e+1)=D1 at*
   generalize 24*K^3+18*K^2*e+6*K*e^2+e^3=P at*
   generalize 24*K^3+18*K^2*(e+1)+6*K*(e+1)^2+(e+1)^3=P1 at*
   rw[Int.pow_succ,Int.pow_succ]
   generalize(K+1)^d=g at*
   generalize K^d=k at*
   refine Int.le_of_mul_le_mul_right (a:=D) ?_ hD
   have s1:g*D*((K+1)*D1)<=k*P*((K+1)*D1):=YJ ih (YG7 (by omega) hD1)
   have s2:k*((K+1)*(P*D1))<=k*(K*(P1*D)):=YHb (by omega) hk
   grind
theorem up22{K:Int}(hK:1<=K):∀d:Nat,(K-1)^d*(12*K^2+6*K*(d:Int)+(d:Int)^2)<=K^d*(12*K^2-6*K*(d:Int)+(d:Int)^2)
 |0=>by simp
 |d+1=>by
   have ih:=up22 hK d
   have hd0:(0:Int)<=d:=Int.natCast_nonneg d
   have h1:((d+1:Nat):Int)=(d:Int)+1:=by omega
   rw[h1]
   generalize(d:Int)=e at*
   have hk:(0:Int)<=K^d:=YH3 (by omega)
   have hg:(0:Int)<=(K-1)^d:=YH3 (by omega)
   have pos:∀x:Int,0<12*K^2-6*K*x+x^2:=fun x=>by
     have e1:12*K^2-6*K*x+x^2=(3*K-x)^2+3*K^2:=by grind
     have e2:0<=(3*K-x)^2:=by
       have:(3*K-x)^2=(3*K-x)*(3*K-x):=by grind
       rw[this];exact sq_nn _
     have e3:0<K^2:=Int.pow_pos (by omega)
     omega
   have hid:=id22 K e
   have hB:=pos e
   have hA:0<12*K^2+6*K*e+e^2:=by
     have:0<K^2:=Int.pow_pos (by omega)
     have:0<=K*e:=YG7 (by omega) hd0
     have:0<=e^2:=YH3 hd0
     grind
   have hA1:0<=12*K^2+6*K*(e+1)+(e+1)^2:=by
     have:0<K^2:=Int.pow_pos (by omega)
     have:0<=K*(e+1):=YG7 (by omega) (by omega)
     have:0<=(e+1)^2:=YH3 (by omega)
     grind
   have hnn:0<=e^4+12*K^2*e+(12*K^2-6*K*e+e^2)*(6*K+2*e)+(12*K^2-6*K*e+e^2):=by
     have:=YG7 (Int.le_of_lt hB) (show 0<=6*K+2*e by omega)
     have:0<=K^2*e:=YG7 (YH3 (by omega)) hd0
     have:0<=e^4:=YH3 hd0
     grind
   generalize 12*K^2-6*K*e+e^2=B at*
   generalize 12*K^2-6*K*(e+1)+(e+1)^2=B1 at*
   generalize 12*K^2+6*K*e+e^2=A at*
   generalize 12*K^2+6*K*(e+1)+(e+1)^2=A1 at*
   rw[Int.pow_succ,Int.pow_succ]
   generalize(K-1)^d=g at*
   generalize K^d=k at*
   refine Int.le_of_mul_le_mul_right (a:=A) ?_ hA
   have s1:g*A*((K-1)*A1)<=k*B*((K-1)*A1):=YJ ih (YG7 (by omega) hA1)
   have s2:k*((K-1)*(A1*B))<=k*(K*(A*B1)):=YHb (by omega) hk
   grind
theorem YvM{K N u:Int}{Q:Nat}(hK:1<=K)(hN:1<=N)(hu:0<=u)(hQ:(Q:Int)<4*K)
   (h:(Q:Int)*(24*K^2*N+6*u*K^2+6*Q*K*N+(Q:Int)^2*N)<=24*u*K^3):(K+1)^Q*N<=K^Q*(N+u):=by
 have h0:=up31 hK Q (by omega)
 have hq:(0:Int)<=Q:=Int.natCast_nonneg Q
 generalize(Q:Int)=q at*
 have hD:0<24*K^3-6*K^2*q:=by
   have:24*K^3-6*K^2*q=6*K^2*(4*K-q):=by grind
   rw[this]
   exact Int.mul_pos (Int.mul_pos (by decide) (Int.pow_pos (by omega))) (by omega)
 have hk:(0:Int)<=K^Q:=YH3 (by omega)
 have h2:N*(24*K^3+18*K^2*q+6*K*q^2+q^3)<=(N+u)*(24*K^3-6*K^2*q):=by grind
 refine Int.le_of_mul_le_mul_right (a:=24*K^3-6*K^2*q) ?_ hD
 have s1:=YJ h0 (show 0<=N by omega)
 have s2:=YHb h2 hk
 grind
theorem Ynr{K N u:Int}{Q:Nat}(hK:1<=K)(hN:1<=N)(hu:0<=u)
   (h:12*u*K^2+u*(Q:Int)^2<=12*N*K*(Q:Int)+6*u*K*(Q:Int)):(N+u)*(K-1)^Q<=N*K^Q:=by
 have h0:=up22 hK Q
 have hq:(0:Int)<=Q:=Int.natCast_nonneg Q
 generalize(Q:Int)=q at*
 have hA:0<12*K^2+6*K*q+q^2:=by
   have:0<K^2:=Int.pow_pos (by omega)
   have:0<=K*q:=YG7 (by omega) hq
   have:0<=q^2:=YH3 hq
   grind
 have hk:(0:Int)<=K^Q:=YH3 (by omega)
 have h2:(N+u)*(12*K^2-6*K*q+q^2)<=N*(12*K^2+6*K*q+q^2):=by grind
 refine Int.le_of_mul_le_mul_right (a:=12*K^2+6*K*q+q^2) ?_ hA
 have s1:=YJ h0 (show 0<=N+u by omega)
 have s2:=YHb h2 hk
 grind
theorem YsQ{u N:Int}(hu:0<=u)(hN:1<=N)(h:100*u<=N)(i j:Nat):100*(u^(i+1)*N^j)<=u^i*N^(j+1):=by
 have h1:=YJ h (YG7 (show 0<=u^i from YH3 hu) (show 0<=N^j from YH3 (by omega)))
 rw[Int.pow_succ,Int.pow_succ]
 generalize u^i=a at*
 generalize N^j=b at*
 clear h hu hN
 grind
theorem Yzh{K N u g C1 C2 C3 C4 Q:Int}(hK:1<=K)(hu:0<=u)(hN:1<=N)(hNu:100*u<=N)(hg:0<g)(hQ0:0<=Q)
   (h1:C1*N<=K*g)(h2:K*g<=2*C2*N^2)(h3:3*C3*N^3<=K*g)(h4:K*g<=4*C4*N^4)
   (h:Q*g<=C1*u+C3*u^3-C2*u^2-C4*u^4):Q*(24*K^2*N+6*u*K^2+6*Q*K*N+Q^2*N)<=24*u*K^3:=by
 have pw:∀(a:Int)(i:Nat),0<=a->0<=a^i:=fun a i ha=>YH3 ha
 have hN4:0<N^4:=Int.pow_pos (by omega)
 have hQM:Q*(12*N^4)<=K*(12*u*N^3-6*u^2*N^2+4*u^3*N-3*u^4):=by
   refine Int.le_of_mul_le_mul_right (a:=g) ?_ hg
   have a1:=YJ h1 (YG7 hu (pw N 3 (by omega)))
   have a2:=YJ h2 (YG7 (pw u 2 hu) (pw N 2 (by omega)))
   have a3:=YJ h3 (YG7 (pw u 3 hu) (show 0<=N by omega))
   have a4:=YJ h4 (pw u 4 hu)
   have a5:=YJ h (show 0<=12*N^4 by omega)
   grind
 have hpoly:(12*u*N^3-6*u^2*N^2+4*u^3*N-3*u^4)*(24*N*(12*N^4)^2+6*u*(12*N^4)^2+6*(12*u*N^3-6*u^2*N^2+4*u^3*N-3*u^4)*N*(12*N^4)+(12*u*N^3-6*u^2*N^2+4*u^3*N-3*u^4)^2*N)<=24*u*(12*N^4)^3:=by
   have m:∀i j:Nat,100*(u^(i+1)*N^j)<=u^i*N^(j+1):=YsQ hu hN hNu
   have n:∀i j:Nat,0<=u^i*N^j:=fun i j=>YG7 (pw u i hu) (pw N j (by omega))
   have m5:=m 5 7
   have m6:=m 6 6
   have m7:=m 7 5
   have m8:=m 8 4
   have m9:=m 9 3
   have m10:=m 10 2
   have m11:=m 11 1
   have n5:=n 5 8
   have n12:=n 12 1
   grind
 have hP:0<=12*u*N^3-6*u^2*N^2+4*u^3*N-3*u^4:=by
   have m:∀i j:Nat,100*(u^(i+1)*N^j)<=u^i*N^(j+1):=YsQ hu hN hNu
   have n:∀i j:Nat,0<=u^i*N^j:=fun i j=>YG7 (pw u i hu) (pw N j (by omega))
   have:=m 1 2
   have:=m 3 0
   have:=n 1 3
   have:=n 3 1
   grind
 have hM:0<12*N^4:=by omega
 generalize 12*u*N^3-6*u^2*N^2+4*u^3*N-3*u^4=P at*
 generalize 12*N^4=M at*
 refine Int.le_of_mul_le_mul_right (a:=M^3) ?_ (Int.pow_pos hM)
 have r0:0<=Q*M:=YG7 hQ0 (by omega)
 have s0:0<=K*P:=YG7 (by omega) hP
 have e1:Q*(24*K^2*N+6*u*K^2+6*Q*K*N+Q^2*N)*M^3=(Q*M)*(24*K^2*N*M^2+6*u*K^2*M^2+6*(Q*M)*K*N*M+(Q*M)^2*N):=by grind
 have e2:(K*P)*(24*K^2*N*M^2+6*u*K^2*M^2+6*(K*P)*K*N*M+(K*P)^2*N)=K^3*(P*(24*N*M^2+6*u*M^2+6*P*N*M+P^2*N)):=by grind
 rw[e1]
 generalize Q*M=r at*
 have i1:r^2<=(K*P)^2:=by
   have:=Int.mul_le_mul hQM hQM r0 s0
   grind
 have i2:6*r*K*N*M<=6*(K*P)*K*N*M:=by
   have:=YJ hQM (show 0<=6*K*N*M from YG7 (YG7 (by omega) (by omega)) (by omega))
   grind
 have i3:r^2*N<=(K*P)^2*N:=YJ i1 (by omega)
 have b0:0<=24*K^2*N*M^2+6*u*K^2*M^2+6*r*K*N*M+r^2*N:=by
   have z1:0<=K^2*N*M^2:=YG7 (YG7 (pw K 2 (by omega)) (by omega)) (pw M 2 (by omega))
   have z2:0<=u*K^2*M^2:=YG7 (YG7 hu (pw K 2 (by omega))) (pw M 2 (by omega))
   have z3:0<=r*K*N*M:=YG7 (YG7 (YG7 r0 (by omega)) (by omega)) (by omega)
   have z4:0<=r^2*N:=YG7 (pw r 2 r0) (by omega)
   grind
 have i4:=Int.mul_le_mul hQM (show 24*K^2*N*M^2+6*u*K^2*M^2+6*r*K*N*M+r^2*N<=24*K^2*N*M^2+6*u*K^2*M^2+6*(K*P)*K*N*M+(K*P)^2*N by omega) b0 s0
 have i5:=YHb hpoly (pw K 3 (by omega))
 rw[e2]at i4
 grind
theorem Yzg{K N u g C1 C2 C3 C4 Q R ε:Int}(hK:1<=K)(hu:0<=u)(hN:1<=N)(hNu:100*u<=N)(hg:0<g)(hgu:u+u^2+u^3+u^4<=g)
   (h1:K*g<=(C1+1)*N)(h2:2*(C2-1)*N^2<=K*g)(h3:K*g<=3*(C3+1)*N^3)(h4:4*(C4-1)*N^4<=K*g)
   (h:C1*u+C3*u^3-C2*u^2-C4*u^4<=(Q+1)*g)(hR:Q+ε<=R)(hε:(K+2)*u^5<=4*(ε-4)*N^5)(hRK:R<=4*(K+2))(hR0:0<=R):
   12*u*(K+2)^2+u*R^2<=12*N*(K+2)*R+6*u*(K+2)*R:=by
 have pw:∀(a:Int)(i:Nat),0<=a->0<=a^i:=fun a i ha=>YH3 ha
 have hN4:0<N^4:=Int.pow_pos (by omega)
 have hN5:0<N^5:=Int.pow_pos (by omega)
 have m:∀i j:Nat,100*(u^(i+1)*N^j)<=u^i*N^(j+1):=YsQ hu hN hNu
 have n:∀i j:Nat,0<=u^i*N^j:=fun i j=>YG7 (pw u i hu) (pw N j (by omega))
 have hQM:K*(12*u*N^3-6*u^2*N^2+4*u^3*N-3*u^4)<=(Q+2)*(12*N^4):=by
   refine Int.le_of_mul_le_mul_right (a:=g) ?_ hg
   have a1:=YJ h1 (YG7 hu (pw N 3 (by omega)))
   have a2:=YJ h2 (YG7 (pw u 2 hu) (pw N 2 (by omega)))
   have a3:=YJ h3 (YG7 (pw u 3 hu) (show 0<=N by omega))
   have a4:=YJ h4 (pw u 4 hu)
   have a5:=YJ h (show 0<=12*N^4 by omega)
   have a6:=YJ hgu (show 0<=12*N^4 by omega)
   clear h h1 h2 h3 h4 hgu pw m n hε hR hRK
   grind
 have hP:0<=12*u*N^3-6*u^2*N^2+4*u^3*N-3*u^4:=by
   have:=m 1 2
   have:=m 3 0
   have:=n 1 3
   have:=n 3 1
   clear h h1 h2 h3 h4 hgu pw m n hε hR hRK hQM
   grind
 have hr:(K+2)*((12*u*N^3-6*u^2*N^2+4*u^3*N-3*u^4)*N+3*u^5)<=12*N^5*R:=by
   have a1:=YJ hQM (show 0<=N by omega)
   have a2:=YHb hR (show 0<=12*N^5 by omega)
   have a3:(12*u*N^3-6*u^2*N^2+4*u^3*N-3*u^4)*N<=N^5:=by
     have:=m 0 4
     have:=m 1 3
     have:=m 2 2
     have:=m 3 1
     have:=n 1 4
     have:=n 2 3
     have:=n 3 2
     have:=n 4 1
     clear h h1 h2 h3 h4 hgu pw m n hε hR hRK hQM a1 a2
     grind
   clear h h1 h2 h3 h4 hgu pw m n hRK hP
   grind
 have hpoly:12*u*(12*N^5)^2+u*((12*u*N^3-6*u^2*N^2+4*u^3*N-3*u^4)*N+3*u^5)^2<=12*N*(12*N^5)*((12*u*N^3-6*u^2*N^2+4*u^3*N-3*u^4)*N+3*u^5)+6*u*(12*N^5)*((12*u*N^3-6*u^2*N^2+4*u^3*N-3*u^4)*N+3*u^5):=by
   have:=m 5 5
   have:=m 6 4
   have:=m 7 3
   have:=m 8 2
   have:=m 9 1
   have:=m 10 0
   have:=n 5 6
   have:=n 6 5
   have:=n 8 3
   have:=n 10 1
   clear h h1 h2 h3 h4 hgu pw m n hε hR hRK hQM hr
   grind
 have hM:0<12*N^5:=by omega
 have hS:0<=(12*u*N^3-6*u^2*N^2+4*u^3*N-3*u^4)*N+3*u^5:=by
   have:=YG7 hP (show 0<=N by omega)
   have:=pw u 5 hu
   omega
 generalize(12*u*N^3-6*u^2*N^2+4*u^3*N-3*u^4)*N+3*u^5=S at*
 generalize 12*N^5=M at*
 clear h h1 h2 h3 h4 hgu hε hR hQM hP m n hN4 hN5
 have hL:1<=K+2:=by omega
 generalize K+2=L at*
 refine Int.le_of_mul_le_mul_right (a:=M^2) ?_ (Int.pow_pos hM)
 have b1:=YHb hpoly (pw L 2 (by omega))
 --(r-s)(12 N L M+6 u L M-u (r+s)) is at least 0
 have d0:0<=M*R-L*S:=by omega
 have d1:L*S<=4*(L*M):=by
   have:=YHb hRK (show 0<=M by omega)
   grind
 have d2:M*R<=4*(L*M):=by
   have:=YHb hRK (show 0<=M by omega)
   grind
 have d3:0<=L*M:=YG7 (by omega) (by omega)
 have d4:u*(M*R+L*S)<=12*N*(L*M):=by
   have e1:=YHb (show M*R+L*S<=8*(L*M)by omega) hu
   have e2:=YJ (show u<=N by omega) d3
   have e3:=YJ (show 0<=N by omega) d3
   grind
 have d5:0<=(M*R-L*S)*(12*N*(L*M)+6*(u*(L*M))-u*(M*R+L*S)):=by
   refine YG7 d0 ?_
   have:=YG7 hu d3
   omega
 clear d0 d1 d2 d3 d4 hpoly hr hRK
 grind
def pk(f:Nat->Nat):Nat->Nat
 |0=>0
 |n+1=>pk f n+f n*2^(144*n)
theorem Yi1(f g:Nat->Nat):∀n,pk f n+pk g n=pk (fun i=>f i+g i) n
 |0=>rfl
 |n+1=>by
   have:=Yi1 f g n
   simp only[pk]
   rw[YHr,<-this]
   omega
theorem Yi2(c:Nat)(f:Nat->Nat):∀n,c*pk f n=pk (fun i=>c*f i) n
 |0=>by simp [pk]
 |n+1=>by
   have:=Yi2 c f n
   simp only[pk]
   rw[YH7,this,YG6]
theorem Yku{f g:Nat->Nat}:∀{n},(∀i,i<n->f i=g i)->pk f n=pk g n
 |0,_=>rfl
 |n+1,h=>by simp only[pk];rw[Yku fun i hi=>h i (by omega),h n (by omega)]
theorem YEx{f g:Nat->Nat}{n:Nat}(h:∀i,i<n->g i<=f i):pk f n-pk g n=pk (fun i=>f i-g i) n:=by
 have h1:=Yi1 (fun i=>f i-g i) g n
 have h2:pk (fun i=>f i-g i+g i) n=pk f n:=Yku fun i hi=>by have:=h i hi;omega
 omega
theorem YpF{f:Nat->Nat}:∀{n},(∀i,i<n->f i<2^144)->pk f n<2^(144*n)
 |0,_=>by simp [pk]
 |n+1,h=>by
   have h1:=YpF (f:=f) (n:=n) fun i hi=>h i (by omega)
   have h2:=YG3 (2^(144*n)) (show f n+1<=2^144 from h n (by omega))
   rw[show 144*(n+1)=144+144*n by omega,YHa]
   simp only[pk]
   rw[YHr]at h2
   omega
theorem Ywi{A a B b M:Nat}(hA:A<M)(hB:B<M)(h:A+a*M=B+b*M):A=B/\a=b:=by
 have h0:0<M:=by omega
 have h1:(A+a*M)/M=a:=by rw[Nat.add_mul_div_right _ _ h0,Nat.div_eq_of_lt hA];omega
 have h2:(B+b*M)/M=b:=by rw[Nat.add_mul_div_right _ _ h0,Nat.div_eq_of_lt hB];omega
 have h3:a=b:=by rw[<-h1,h,h2]
 subst h3
 exact⟨by omega,rfl⟩
theorem Yxc{f g:Nat->Nat}:∀{n},(∀i,i<n->f i<2^144)->(∀i,i<n->g i<2^144)->pk f n=pk g n->∀i,i<n->f i=g i
 |0,_,_,_,i,hi=>by omega
 |n+1,hf,hg,h,i,hi=>by
   simp only[pk]at h
   have:=Ywi (YpF fun i hi=>hf i (by omega)) (YpF fun i hi=>hg i (by omega)) h
   by_cases c:i=n
   . rw[c];exact this.2
   . exact Yxc (fun i hi=>hf i (by omega)) (fun i hi=>hg i (by omega)) this.1 i (by omega)
theorem YqW{A a B b m:Nat}(hA:A<2^m)(hB:B<2^m):(A+a*2^m)&&&(B+b*2^m)=(A&&&B)+(a&&&b)*2^m:=by
 have h0:0<2^m:=Nat.two_pow_pos m
 have m1:∀{X x:Nat},X<2^m->(X+x*2^m)%2^m=X:=fun h=>by rw[Nat.add_mul_mod_self_right,Nat.mod_eq_of_lt h]
 have d1:∀{X x:Nat},X<2^m->(X+x*2^m)/2^m=x:=fun {X x} h=>by rw[Nat.add_mul_div_right _ _ h0,Nat.div_eq_of_lt h];omega
 have hm:((A+a*2^m)&&&(B+b*2^m))%2^m=A&&&B:=by rw[Nat.and_mod_two_pow,m1 hA,m1 hB]
 have hd:((A+a*2^m)&&&(B+b*2^m))/2^m=a&&&b:=by rw[Nat.and_div_two_pow,d1 hA,d1 hB]
 have:=YHH ((A+a*2^m)&&&(B+b*2^m)) (2^m)
 rw[hm,hd,YG4]at this
 omega
theorem Ys8{f g:Nat->Nat}:∀{n},(∀i,i<n->f i<2^144)->(∀i,i<n->g i<2^144)->pk f n&&&pk g n=pk (fun i=>f i&&&g i) n
 |0,_,_=>by simp [pk]
 |n+1,hf,hg=>by
   simp only[pk]
   rw[YqW (YpF fun i hi=>hf i (by omega)) (YpF fun i hi=>hg i (by omega)),Ys8 (fun i hi=>hf i (by omega)) (fun i hi=>hg i (by omega))]
theorem YvB{x p q:Nat}(h:((x&&&2^p*(2^q-1))+2^p*(2^q-1))&&&2^(p+q)=2^(p+q)):1<=x/2^p%2^q:=by
 have e1:(x&&&2^p*(2^q-1))=2^p*(x/2^p%2^q):=by
   have hm:(x&&&2^p*(2^q-1))%2^p=0:=by rw[Nat.and_mod_two_pow,Nat.mul_mod_right,Nat.and_zero]
   have hd:(x&&&2^p*(2^q-1))/2^p=x/2^p%2^q:=by
     rw[Nat.and_div_two_pow,Nat.mul_div_cancel_left _ (Nat.two_pow_pos p),Nat.and_two_pow_sub_one_eq_mod]
   have:=YHH (x&&&2^p*(2^q-1)) (2^p)
   rw[hm,hd]at this
   omega
 rcases YHR (x/2^p%2^q)with h0|h0
 . exfalso
   rw[e1,h0,Nat.mul_zero,YH0]at h
   have lt:2^p*(2^q-1)<2^(p+q):=by
     rw[YHa]
     exact Nat.mul_lt_mul_of_pos_left (by have:=Nat.two_pow_pos q;omega) (Nat.two_pow_pos p)
   have z:(2^p*(2^q-1))&&&2^(p+q)=0:=by
     have hd:((2^p*(2^q-1))&&&2^(p+q))/2^(p+q)=0:=by rw[Nat.and_div_two_pow,Nat.div_eq_of_lt lt,Nat.zero_and]
     have hm:((2^p*(2^q-1))&&&2^(p+q))%2^(p+q)=0:=by rw[Nat.and_mod_two_pow,Nat.mod_self,Nat.and_zero]
     have:=YHH ((2^p*(2^q-1))&&&2^(p+q)) (2^(p+q))
     rw[hd,hm]at this
     omega
   have:=Nat.two_pow_pos (p+q)
   omega
 . exact h0
def kap:Nat:=7490900928631539394323262730195513
def kg:Nat:=2010823406628030733297128842387837501308928
theorem kg_is:kg=kap*2^28:=by decide+kernel
def blk(W0 W1 W2 W3 W4 MASK TOP KG m:Nat)(n:Nat):Nat->Nat->Nat->Nat->Bool:=
 Nat.rec (fun N A eN eA=>Bool.and (YHC N eN) (YHC A eA))
   (fun _ ih N A eN eA=>
     (fun N2=>(fun V=>Bool.casesOn (YHC (Nat.land (Nat.add (Nat.land V MASK) MASK) TOP) TOP) false (ih (Nat.add N 127) (Nat.shiftRight V (Nat.add m 28)) eN eA))
       (Nat.sub (Nat.add (Nat.add (Nat.mul A W0) (Nat.mul (Nat.div KG N) W1)) (Nat.mul (Nat.div KG (Nat.mul 3 (Nat.mul N2 N))) W3))
         (Nat.add (Nat.mul (Nat.succ (Nat.div KG (Nat.mul 2 N2))) W2) (Nat.mul (Nat.succ (Nat.div KG (Nat.mul 4 (Nat.mul N2 N2)))) W4))))
     (Nat.mul N N)) n
def Lo(N a:Nat):Prop:=2^28*(kap+1)^a<=N*kap^a
def Hi(N b:Nat):Prop:=N*(kap+1)^b<=2^28*(kap+2)^b
def Good(n:Nat):Prop:=∃a b q,Lo n a/\Hi n b/\q*2^64+2<=a/\b+2<=(q+1)*2^64
theorem Lo.add{N u a Q:Nat}(h:Lo N a)(hs:(kap+1)^Q*N<=kap^Q*(N+u)):Lo (N+u) (a+Q):=by
 unfold Lo at*
 rw[YHa,YHa]
 have h1:=YG3 ((kap+1)^Q) h
 have h2:=YG3 (kap^a) hs
 generalize(kap+1)^a=x at*
 generalize(kap+1)^Q=y at*
 generalize kap^a=z at*
 generalize kap^Q=w at*
 grind
theorem Hi.add{N u b R:Nat}(h:Hi N b)(hs:(N+u)*(kap+1)^R<=N*(kap+2)^R):Hi (N+u) (b+R):=by
 unfold Hi at*
 rw[YHa,YHa]
 have h1:=YG3 ((kap+2)^R) h
 have h2:=YG3 ((kap+1)^b) hs
 generalize(kap+1)^b=x at*
 generalize(kap+1)^R=y at*
 generalize(kap+2)^b=z at*
 generalize(kap+2)^R=w at*
 grind
def c1(N:Nat):Nat:=kg/N
def c2(N:Nat):Nat:=kg/(2*(N*N))+1
def c3(N:Nat):Nat:=kg/(3*(N*N*N))
def c4(N:Nat):Nat:=kg/(4*(N*N*(N*N)))+1
def upv(N u:Nat):Nat:=c1 N*u+c3 N*u^3
def dnv(N u:Nat):Nat:=c2 N*u^2+c4 N*u^4
theorem sz{N:Nat}(h0:2^28<=N)(h1:N<2^29):2^111<=c1 N/\c1 N<=2^113/\c2 N<=2^84/\c3 N<=2^57/\c4 N<=2^29:=by
 have a1:(2:Nat)^28*2^28<=N*N:=YHi h0 h0
 have a2:(2:Nat)^28*2^28*2^28<=N*N*N:=YHi a1 h0
 have a3:(2:Nat)^28*2^28*(2^28*2^28)<=N*N*(N*N):=YHi a1 a1
 unfold c1 c2 c3 c4
 refine⟨YHc (by decide+kernel) (Nat.div_le_div_left (a:=kg) (Nat.le_of_lt h1) (by omega)),YHc (Nat.div_le_div_left (a:=kg) h0 (by decide)) (by decide+kernel),?_,?_,?_⟩
 . exact YHc (Nat.succ_le_succ (Nat.div_le_div_left (a:=kg) (YG5 2 a1) (by decide))) (by decide+kernel)
 . exact YHc (Nat.div_le_div_left (a:=kg) (YG5 3 a2) (by decide)) (by decide+kernel)
 . exact YHc (Nat.succ_le_succ (Nat.div_le_div_left (a:=kg) (YG5 4 a3) (by decide))) (by decide+kernel)
theorem upw{u:Nat}(h:u<=127):u^2<=127*u/\u^3<=16129*u/\u^4<=2048383*u/\u^5<=127^5:=by
 have e2:u^2=u*u:=by grind
 have e3:u^3=u^2*u:=by grind
 have e4:u^4=u^3*u:=by grind
 have b2:u^2<=127*u:=by rw[e2];exact YG3 u h
 have b3:u^3<=16129*u:=by rw[e3];have:=YHi b2 h;omega
 have b4:u^4<=2048383*u:=by rw[e4];have:=YHi b3 h;omega
 exact⟨b2,b3,b4,YHe h 5⟩
theorem YrI{N u:Nat}(h0:2^28<=N)(h1:N<2^29)(hu:u<=127):dnv N u<=upv N u/\upv N u<=2^120*u:=by
 obtain⟨s1,s1',s2,s3,s4⟩:=sz h0 h1
 obtain⟨p2,p3,p4,_⟩:=upw hu
 unfold dnv upv
 have m2:=YHi s2 p2
 have m4:=YHi s4 p4
 have m1:=YG3 u s1
 have m1':=YG3 u s1'
 have m3:=YHi s3 p3
 generalize c1 N*u=x at*
 generalize c3 N*u^3=y at*
 generalize c2 N*u^2=z at*
 generalize c4 N*u^4=w at*
 constructor
 . omega
 . omega
def qv(N u:Nat):Nat:=(upv N u-dnv N u)/2^28
theorem YsV{K N u g C1 C2 C3 C4 Q kg:Nat}(hK:100<=K)(hN:1<=N)(hNu:100*u<=N)(hg0:0<g)(hg:u+u^2+u^3+u^4<=g)(hkg:K*g=kg)
   (k1:C1*N<=kg)(k1':kg<(C1+1)*N)(k2:kg<C2*(2*(N*N)))(k2':(C2-1)*(2*(N*N))<=kg)
   (k3:C3*(3*(N*N*N))<=kg)(k3':kg<(C3+1)*(3*(N*N*N)))(k4:kg<C4*(4*(N*N*(N*N))))(k4':(C4-1)*(4*(N*N*(N*N)))<=kg)
   (g2:1<=C2)(g4:1<=C4)(d0:C2*u^2+C4*u^4<=C1*u+C3*u^3)(hq1:Q*g<=C1*u+C3*u^3-(C2*u^2+C4*u^4))
   (hq2:C1*u+C3*u^3-(C2*u^2+C4*u^4)<(Q+1)*g)(hu5:(K+2)*u^5<=384*N^5)(hqK:Q<=K):
   (K+1)^Q*N<=K^Q*(N+u)/\(N+u)*(K+1)^(Q+100)<=N*(K+2)^(Q+100):=by
 obtain⟨D2,rfl⟩:∃x,C2=x+1:=⟨C2-1,by omega⟩
 obtain⟨D4,rfl⟩:∃x,C4=x+1:=⟨C4-1,by omega⟩
 rw[Nat.add_sub_cancel]at k2' k4'
 have e1:Q*g+((D2+1)*u^2+(D4+1)*u^4)<=C1*u+C3*u^3:=by omega
 have e2:C1*u+C3*u^3<(Q+1)*g+((D2+1)*u^2+(D4+1)*u^4):=by omega
 clear hq1 hq2 d0 g2 g4
 subst hkg
 have L:=Yzh (K:=K) (N:=N) (u:=u) (g:=g) (C1:=C1) (C2:=(D2:Int)+1) (C3:=C3) (C4:=(D4:Int)+1) (Q:=Q) (by omega) (by omega) (by omega) (by omega) (by omega) (by omega)
   (by exact_mod_cast k1) (by have:((K*g:Nat):Int)<(((D2+1)*(2*(N*N)):Nat):Int):=by exact_mod_cast k2
                              push_cast at this;clear e1 e2 k1 k1' k2 k2' k3 k3' k4 k4' hu5 hg;grind)
   (by have:((C3*(3*(N*N*N)):Nat):Int)<=((K*g:Nat):Int):=by exact_mod_cast k3
       push_cast at this;clear e1 e2 k1 k1' k2 k2' k3 k3' k4 k4' hu5 hg;grind)
   (by have:((K*g:Nat):Int)<(((D4+1)*(4*(N*N*(N*N))):Nat):Int):=by exact_mod_cast k4
       push_cast at this;clear e1 e2 k1 k1' k2 k2' k3 k3' k4 k4' hu5 hg;grind)
   (by have:((Q*g+((D2+1)*u^2+(D4+1)*u^4):Nat):Int)<=((C1*u+C3*u^3:Nat):Int):=by exact_mod_cast e1
       push_cast at this;omega)
 have H:=Yzg (K:=K) (N:=N) (u:=u) (g:=g) (C1:=C1) (C2:=(D2:Int)+1) (C3:=C3) (C4:=(D4:Int)+1) (Q:=Q) (R:=(Q:Int)+100) (ε:=100) (by omega) (by omega) (by omega) (by omega) (by omega) (by exact_mod_cast hg)
   (by have:((K*g:Nat):Int)<(((C1+1)*N:Nat):Int):=by exact_mod_cast k1'
       push_cast at this;omega)
   (by have:((D2*(2*(N*N)):Nat):Int)<=((K*g:Nat):Int):=by exact_mod_cast k2'
       push_cast at this;clear e1 e2 k1 k1' k2 k2' k3 k3' k4 k4' hu5 hg L;grind)
   (by have:((K*g:Nat):Int)<(((C3+1)*(3*(N*N*N)):Nat):Int):=by exact_mod_cast k3'
       push_cast at this;clear e1 e2 k1 k1' k2 k2' k3 k3' k4 k4' hu5 hg L;grind)
   (by have:((D4*(4*(N*N*(N*N))):Nat):Int)<=((K*g:Nat):Int):=by exact_mod_cast k4'
       push_cast at this;clear e1 e2 k1 k1' k2 k2' k3 k3' k4 k4' hu5 hg L;grind)
   (by have:((C1*u+C3*u^3:Nat):Int)<(((Q+1)*g+((D2+1)*u^2+(D4+1)*u^4):Nat):Int):=by exact_mod_cast e2
       push_cast at this;omega)
   (by omega) (by rw[show(4:Int)*(100-4)=384 from rfl];exact_mod_cast hu5) (by omega) (by omega)
 have l:=YvM (K:=K) (N:=N) (u:=u) (Q:=Q) (by omega) (by omega) (by omega) (by omega) L
 have h:=Ynr (K:=(K:Int)+2) (N:=N) (u:=u) (Q:=Q+100) (by omega) (by omega) (by omega) (by push_cast;exact H)
 rw[show(K:Int)+2-1=(K:Int)+1 by omega]at h
 exact⟨by exact_mod_cast l,by exact_mod_cast h⟩
theorem YvN(a:Nat){b:Nat}(h:0<b):a<(a/b+1)*b:=by
 have:=Nat.lt_div_mul_add (a:=a) (b:=b) h
 rw[YHr]
 omega
theorem steps{N u:Nat}(h0:2^28<=N)(h1:N<2^29)(hu:u<=127):
   (kap+1)^qv N u*N<=kap^qv N u*(N+u)/\(N+u)*(kap+1)^(qv N u+100)<=N*(kap+2)^(qv N u+100):=by
 obtain⟨d0,d1⟩:=YrI h0 h1 hu
 obtain⟨p2,p3,p4,p5⟩:=upw hu
 have hq1:qv N u*2^28<=upv N u-dnv N u:=YHU _ _
 have hq2:upv N u-dnv N u<(qv N u+1)*2^28:=by
   have:=Nat.lt_div_mul_add (a:=upv N u-dnv N u) (b:=2^28) (by decide)
   unfold qv;rw[YHr];omega
 have hqK:qv N u<=kap:=by
   have:qv N u*2^28<=2^120*127:=by omega
   unfold kap;omega
 have k1:c1 N*N<=kg:=YHU _ _
 have k1':kg<(c1 N+1)*N:=YvN kg (by omega)
 have pN:0<N*N:=YHX (by omega) (by omega)
 have pN3:0<N*N*N:=YHX pN (by omega)
 have pN4:0<N*N*(N*N):=YHX pN pN
 have k2:kg<c2 N*(2*(N*N)):=YvN kg (by omega)
 have k2':(c2 N-1)*(2*(N*N))<=kg:=by unfold c2;rw[Nat.add_sub_cancel];exact YHU _ _
 have k3:c3 N*(3*(N*N*N))<=kg:=YHU _ _
 have k3':kg<(c3 N+1)*(3*(N*N*N)):=YvN kg (by omega)
 have k4:kg<c4 N*(4*(N*N*(N*N))):=YvN kg (by omega)
 have k4':(c4 N-1)*(4*(N*N*(N*N)))<=kg:=by unfold c4;rw[Nat.add_sub_cancel];exact YHU _ _
 have g2:1<=c2 N:=by unfold c2;exact Nat.le_add_left 1 _
 have g4:1<=c4 N:=by unfold c4;exact Nat.le_add_left 1 _
 have hu5:(kap+2)*u^5<=384*N^5:=by
   have b1:=YG5 (kap+2) p5
   have b2:=YG5 384 (YHe h0 5)
   exact YHc b1 (YHc (by decide+kernel) b2)
 have hg:u+u^2+u^3+u^4<=2^28:=by omega
 exact YsV (by decide) (by omega) (by omega) (by decide) hg kg_is.symm k1 k1' k2 k2' k3 k3' k4 k4' g2 g4 d0 hq1 hq2 hu5 hqK
theorem Yvi{N A X W0 W1 W2 W3 W4 KG:Nat}(hW0:W0=pk (fun _=>2^28) 127)(hW1:W1=pk (fun i=>i+1) 127)(hW2:W2=pk (fun i=>(i+1)^2) 127)(hW3:W3=pk (fun i=>(i+1)^3) 127)(hW4:W4=pk (fun i=>(i+1)^4) 127)(hKG:KG=kg)
   (h0:2^28<=N)(h1:N<2^29)
   (hX:X=A*W0+KG/N*W1+KG/(3*(N*N*N))*W3-((KG/(2*(N*N))+1)*W2+(KG/(4*(N*N*(N*N)))+1)*W4)):
   X=pk (fun i=>A*2^28+(upv N (i+1)-dnv N (i+1))) 127:=by
 rw[hX,hW0,hW1,hW2,hW3,hW4,hKG,Yi2,Yi2,Yi2,Yi2,Yi2,Yi1,Yi1,Yi1,YEx]
 . refine Yku fun i hi=>?_
   have:=(YrI h0 h1 (u:=i+1) (by omega)).1
   unfold upv dnv c1 c2 c3 c4 at*
   omega
 . intro i hi
   have:=(YrI h0 h1 (u:=i+1) (by omega)).1
   unfold upv dnv c1 c2 c3 c4 at*
   omega
theorem Ywq{f:Nat->Nat}{n m:Nat}(hm:m=144*n)(h:∀i,i<n->f i<2^144)(g:Nat):pk f (n+1)/2^(m+g)=f n/2^g:=by
 subst hm
 have h1:=YpF (f:=f) (n:=n) fun i hi=>h i (by omega)
 rw[YHa,<-YHK]
 congr 1
 rw[pk,Nat.add_mul_div_right _ _ (Nat.two_pow_pos _),Nat.div_eq_of_lt h1,YH0]
theorem Yw0(N A u:Nat):(A*2^28+(upv N u-dnv N u))/2^28=A+qv N u:=by
 rw[Nat.add_comm,Nat.add_mul_div_right _ _ (Nat.two_pow_pos _),Nat.add_comm];rfl
theorem qv_le{N u:Nat}(h0:2^28<=N)(h1:N<2^29)(hu:u<=127):qv N u<=2^99:=by
 obtain⟨_,d1⟩:=YrI h0 h1 hu
 have hq1:qv N u*2^28<=upv N u-dnv N u:=YHU _ _
 omega
theorem YzM{N A e X MK TP m:Nat}(hm:m=144*126)(hMK:MK=pk (fun _=>2^57*(2^35-1)) 127)(hTP:TP=pk (fun _=>2^92) 127)(h0:2^28<=N)(h1:N<2^29)(hA:220000000<=A)(hA2:A<2^114)(hL:Lo N (A-220000000))(hH:Hi N (A-220000000+e))(he:e+200<=220000000)
   (hX:X=pk (fun i=>A*2^28+(upv N (i+1)-dnv N (i+1))) 127)
   (hc:((X&&&MK)+MK)&&&TP=TP):
   X/2^(m+28)=A+qv N 127/\∀u,1<=u->u<=127->Lo (N+u) (A-220000000+qv N u)/\Hi (N+u) (A-220000000+e+(qv N u+100))/\Good (N+u):=by
 have hlt:∀i,i<127->A*2^28+(upv N (i+1)-dnv N (i+1))<2^144:=fun i hi=>by
   have:=(YrI h0 h1 (u:=i+1) (by omega)).2
   omega
 constructor
 . rw[hX,Ywq hm (fun i hi=>hlt i (by omega)) 28]
   exact Yw0 ..
 intro u hu1 hu2
 obtain⟨i,rfl⟩:∃i,u=i+1:=⟨u-1,by omega⟩
 rw[hMK,hTP,hX,Ys8 hlt (fun _ _=>by decide),Yi1,Ys8 (fun i _=>by
   have:(A*2^28+(upv N (i+1)-dnv N (i+1)))&&&2^57*(2^35-1)<=2^57*(2^35-1):=Nat.and_le_right
   omega) (fun _ _=>by decide)]at hc
 have hb:=Yxc (fun i _=>YHG Nat.and_le_right (by decide)) (fun _ _=>by decide) hc i (by omega)
 have hbit:=YvB (p:=57) (q:=35) hb
 have hst:=steps h0 h1 hu2
 have l:=hL.add hst.1
 have r:=hH.add hst.2
 have hy:=Yw0 N A (i+1)
 refine⟨l,r,⟨_,_,(A+qv N (i+1))/2^64,l,r,?_,?_⟩⟩
 all_goals
   have hbit2:1<=(A+qv N (i+1))/2^29%2^35:=by
     rw[<-hy,YHK];exact hbit
   generalize qv N (i+1)=Q at*
   clear hbit hb hc hX hlt hst l r hy hL hH
   omega
theorem YC2{W0 W1 W2 W3 W4 KG MK TP m:Nat}(hW0:W0=pk (fun _=>2^28) 127)(hW1:W1=pk (fun i=>i+1) 127)(hW2:W2=pk (fun i=>(i+1)^2) 127)(hW3:W3=pk (fun i=>(i+1)^3) 127)(hW4:W4=pk (fun i=>(i+1)^4) 127)(hKG:KG=kg)
   (hm:m=144*126)(hMK:MK=pk (fun _=>2^57*(2^35-1)) 127)(hTP:TP=pk (fun _=>2^92) 127)(n:Nat):∀N A e eN eA,blk W0 W1 W2 W3 W4 MK TP KG m n N A eN eA=true->
   2^28<=N->N+127*n<2^29->220000000<=A->A+n*2^100<2^114->Lo N (A-220000000)->Hi N (A-220000000+e)->e+100*n+200<=220000000->
   eN=N+127*n/\220000000<=eA/\Lo eN (eA-220000000)/\Hi eN (eA-220000000+(e+100*n))/\∀i,1<=i->i<=127*n->Good (N+i):=by
 induction n with
 |zero=>
   intro N A e eN eA h h0 h1 hA _ hL hH he
   have h':Bool.and (YHC N eN) (YHC A eA)=true:=h
   obtain⟨a,b⟩:=Bool.and_eq_true_iff.1 h'
   obtain rfl:=YHk a
   obtain rfl:=YHk b
   exact⟨by omega,hA,hL,hH,fun i a b=>by omega⟩
 |succ n ih=>
   intro N A e eN eA h h0 h1 hA hA2 hL hH he
   obtain⟨X,hX0⟩:∃X,X=A*W0+KG/N*W1+KG/(3*(N*N*N))*W3-((KG/(2*(N*N))+1)*W2+(KG/(4*(N*N*(N*N)))+1)*W4):=⟨_,rfl⟩
   have hX:=Yvi hW0 hW1 hW2 hW3 hW4 hKG h0 (by omega) hX0
   have h2:(Bool.casesOn (motive:=fun _=>Bool) (YHC (((X&&&MK)+MK)&&&TP) TP) false (blk W0 W1 W2 W3 W4 MK TP KG m n (N+127) (X >>> (m+28)) eN eA))=true:=by
     rw[hX0];exact h
   cases hc:YHC (((X&&&MK)+MK)&&&TP) TP with
   |false=>rw[hc]at h2;cases h2
   |true=>
     rw[hc]at h2
     have h3:=YHk hc
     obtain⟨t1,t2⟩:=YzM hm hMK hTP h0 (by omega) hA (by omega) hL hH (by omega) hX h3
     have q1:=qv_le (N:=N) (u:=127) h0 (by omega) (by decide)
     obtain⟨l,r,_⟩:=t2 127 (by decide) (by decide)
     have t3:X >>> (m+28)=A+qv N 127:=by rw[Nat.shiftRight_eq_div_pow];exact t1
     rw[t3]at h2
     obtain⟨a,b,c,d,f⟩:=ih (N+127) (A+qv N 127) (e+100) eN eA h2 (by omega) (by omega) (by omega) (by omega) (by rw[show A+qv N 127-220000000=A-220000000+qv N 127 by omega];exact l)
       (by rw[show A+qv N 127-220000000+(e+100)=A-220000000+e+(qv N 127+100)by omega];exact r) (by omega)
     refine⟨by omega,b,c,by rw[show e+100*(n+1)=e+100+100*n by omega];exact d,fun i i1 i2=>?_⟩
     by_cases hi:i<=127
     . exact(t2 i i1 hi).2.2
     . have:=f (i-127) (by omega) (by omega)
       rwa [show N+127+(i-127)=N+i by omega]at this
end Go.Proofs.YtfjodiojchknmaaGreatDoor.LB
