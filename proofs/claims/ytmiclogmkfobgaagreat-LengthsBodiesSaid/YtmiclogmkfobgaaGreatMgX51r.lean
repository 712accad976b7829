/- Roots of 2 that no fraction with a small denominator is near: the table is whole (noasync). -/
import Derived.Test.YtmiclogmkfobgaaGreatMgX51q
open Nat renaming add->YHc,beq->YGS,ble->YHG,div->YHH,eq_of_beq_eq_true->YGD,eq_zero_or_pos->YGI,gcd->YHa,le_of_ble_eq_true->YG2,le_refl->YGr,mod->YHB
set_option linter.all false
set_option maxRecDepth 100000
namespace Go.Proofs.YtmiclogmkfobgaaGreat.LB
def eCls(q:Nat):Bool:=Bool.casesOn (eBit q) true (Yi0 (fun e=>Bool.casesOn (YGS (YHB q e) 0) true (Bool.casesOn (YGS e 0) (eBit e) true)) (Nat.succ q))
theorem ec1:zUp eCls 1000:=zUS 1000 (zU0 _)
theorem ec2:zUp eCls 2000:=zUS 1000 ec1
theorem ec3:zUp eCls 3000:=zUS 1000 ec2
theorem ec4:zUp eCls 4000:=zUS 1000 ec3
theorem ec5:zUp eCls 5000:=zUS 1000 ec4
theorem ec6:zUp eCls 6000:=zUS 1000 ec5
theorem ec7:zUp eCls 7000:=zUS 1000 ec6
theorem ec8:zUp eCls 8000:=zUS 1000 ec7
theorem ec9:zUp eCls 9000:=zUS 1000 ec8
theorem ec10:zUp eCls 10000:=zUS 1000 ec9
theorem ec11:zUp eCls 11000:=zUS 1000 ec10
theorem ec12:zUp eCls 12000:=zUS 1000 ec11
theorem ec13:zUp eCls 13000:=zUS 1000 ec12
theorem ec14:zUp eCls 14000:=zUS 1000 ec13
theorem ec15:zUp eCls 15000:=zUS 1000 ec14
theorem ec16:zUp eCls 16000:=zUS 1000 ec15
theorem ec17:zUp eCls 17000:=zUS 1000 ec16
theorem ec18:zUp eCls 18000:=zUS 1000 ec17
theorem ec19:zUp eCls 18001:=zUS 1 ec18
theorem Yul{q:Nat}(h:eBit q=true)(hq:q<18001):eAll q:=by
 refine YxY (fun c hc=>?_) (by omega)
 have h1:=eg753.1 q hq h c (by omega)
 have hb:Nat.blt (Nat.succ (Nat.mul 1000 c)) q=true:=Nat.ble_eq_true_of_le hc
 unfold zCk at h1
 rw[hb]at h1
 exact h1
theorem Yum{q e:Nat}(h:eBit q=true)(hq:q<18001)(hq0:0<q)(he:e∣q):eAll e:=by
 have h1:=ec19 q hq
 unfold eCls at h1
 rw[h]at h1
 have hle:=Nat.le_of_dvd hq0 he
 have h2:=YcJ h1 e (by omega)
 have hm:YGS (YHB q e) 0=true:=by
  have e1:YHB q e=0:=Nat.mod_eq_zero_of_dvd he
  rw[e1];rfl
 have he0:YGS e 0=false:=by
  cases hb:YGS e 0 with
  |false=>rfl
  |true=>
   have:=YGD hb
   subst this
   have:=Nat.eq_zero_of_zero_dvd he
   omega
 simp only[hm,he0]at h2
 exact Yul h2 (by omega)
def YqJ(L n:Nat):Bool:=Nat.rec false (fun i ih=>Bool.casesOn (YGS (YHB L (Nat.succ i)) 0) ih (Bool.casesOn (Bool.and (eBit (YHH L (Nat.succ i))) (YHG (YHH L (Nat.succ i)) 18000)) ih true)) n
theorem Ynf{L:Nat}:∀{n:Nat},YqJ L n=true->∃d q,L=d*q/\1<=d/\d<=n/\eBit q=true/\q<18001
 |0,h=>by cases h
 |n+1,h=>by
  have h:Bool.casesOn (motive:=fun _=>Bool) (YGS (YHB L (Nat.succ n)) 0) (YqJ L n) (Bool.casesOn (motive:=fun _=>Bool) (Bool.and (eBit (YHH L (Nat.succ n))) (YHG (YHH L (Nat.succ n)) 18000)) (YqJ L n) true)=true:=h
  have rec':YqJ L n=true->∃d q,L=d*q/\1<=d/\d<=n+1/\eBit q=true/\q<18001:=fun h=>by
   obtain⟨d,q,h1,h2,h3,h4⟩:=Ynf h
   exact⟨d,q,h1,h2,by omega,h4⟩
  cases hb:YGS (YHB L (Nat.succ n)) 0 with
  |false=>rw[hb]at h;exact rec' h
  |true=>
   rw[hb]at h
   cases hc:Bool.and (eBit (YHH L (Nat.succ n))) (YHG (YHH L (Nat.succ n)) 18000)with
   |false=>rw[hc]at h;exact rec' h
   |true=>
    have hc:=Bool.and_eq_true_iff.1 hc
    have hd:L%(n+1)=0:=YGD hb
    have hm:(n+1)*(L/(n+1))=L:=Nat.mul_div_cancel' (Nat.dvd_of_mod_eq_zero hd)
    exact⟨n+1,L/(n+1),hm.symm,by omega,YGr _,hc.1,Nat.lt_succ_of_le (YG2 hc.2)⟩
def eLcm(a b:Nat):Nat:=YHH (Nat.mul a b) (YHa a b)
def eTri(a:Nat):Bool:=Yi0 (fun b=>Yi0 (fun c=>YqJ (eLcm (eLcm a (YHc 8 b)) (YHc 8 c)) 53) 57) 57
theorem et1:zUp (fun a=>eTri (YHc 8 a)) 3:=zUS 3 (zU0 _)
theorem et2:zUp (fun a=>eTri (YHc 8 a)) 6:=zUS 3 et1
theorem et3:zUp (fun a=>eTri (YHc 8 a)) 9:=zUS 3 et2
theorem et4:zUp (fun a=>eTri (YHc 8 a)) 12:=zUS 3 et3
theorem et5:zUp (fun a=>eTri (YHc 8 a)) 15:=zUS 3 et4
theorem et6:zUp (fun a=>eTri (YHc 8 a)) 18:=zUS 3 et5
theorem et7:zUp (fun a=>eTri (YHc 8 a)) 21:=zUS 3 et6
theorem et8:zUp (fun a=>eTri (YHc 8 a)) 24:=zUS 3 et7
theorem et9:zUp (fun a=>eTri (YHc 8 a)) 27:=zUS 3 et8
theorem et10:zUp (fun a=>eTri (YHc 8 a)) 30:=zUS 3 et9
theorem et11:zUp (fun a=>eTri (YHc 8 a)) 33:=zUS 3 et10
theorem et12:zUp (fun a=>eTri (YHc 8 a)) 36:=zUS 3 et11
theorem et13:zUp (fun a=>eTri (YHc 8 a)) 39:=zUS 3 et12
theorem et14:zUp (fun a=>eTri (YHc 8 a)) 42:=zUS 3 et13
theorem et15:zUp (fun a=>eTri (YHc 8 a)) 45:=zUS 3 et14
theorem et16:zUp (fun a=>eTri (YHc 8 a)) 48:=zUS 3 et15
theorem et17:zUp (fun a=>eTri (YHc 8 a)) 51:=zUS 3 et16
theorem et18:zUp (fun a=>eTri (YHc 8 a)) 54:=zUS 3 et17
theorem et19:zUp (fun a=>eTri (YHc 8 a)) 57:=zUS 3 et18
theorem eLcm_dvd{a b:Nat}:a∣eLcm a b/\b∣eLcm a b:=⟨Nat.dvd_lcm_left a b,Nat.dvd_lcm_right a b⟩
theorem Yuo{a:Nat}(h1:8<=a)(h2:a<=64):eTri a=true:=by
 have h:=et19 (a-8) (by omega)
 have e:YHc 8 (a-8)=a:=by show 8+(a-8)=a;omega
 simp only[e]at h
 exact h
theorem tri_ok{a b c:Nat}(ha:8<=a/\a<=64)(hb:8<=b/\b<=64)(hc:8<=c/\c<=64):∃L d q,L=d*q/\(a∣L/\b∣L/\c∣L)/\(1<=d/\d<=53)/\0<q/\∀e,e∣q->eAll e:=by
 have h:=YcJ (YcJ (Yuo ha.1 ha.2) (b-8) (by omega)) (c-8) (by omega)
 have e1:YHc 8 (b-8)=b:=by show 8+(b-8)=b;omega
 have e2:YHc 8 (c-8)=c:=by show 8+(c-8)=c;omega
 simp only[e1,e2]at h
 obtain⟨d,q,h1,h2,h3,h4,h5⟩:=Ynf h
 have hL:a∣eLcm (eLcm a b) c/\b∣eLcm (eLcm a b) c/\c∣eLcm (eLcm a b) c:=⟨Nat.dvd_trans eLcm_dvd.1 eLcm_dvd.1,Nat.dvd_trans eLcm_dvd.2 eLcm_dvd.1,eLcm_dvd.2⟩
 have hpos:0<eLcm (eLcm a b) c:=Nat.lcm_pos (Nat.lcm_pos (by omega) (by omega)) (by omega)
 have hq0:0<q:=by
  rcases YGI q with e|e
  ·rw[h1,e]at hpos;omega
  ·exact e
 exact⟨_,d,q,h1,hL,⟨h2,h3⟩,hq0,fun e he=>Yum h4 h5 hq0 he⟩
end Go.Proofs.YtmiclogmkfobgaaGreat.LB
