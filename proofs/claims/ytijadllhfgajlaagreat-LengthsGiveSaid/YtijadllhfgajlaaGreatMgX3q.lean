/- The speed of sound, exactly, in plain Lean. -/
import Derived.Test.YtijadllhfgajlaaGreatMgX3p
open Bool renaming and_eq_true->YGA,eq_iff_iff->YHK,false_or->YHv
open Go.IntWalk renaming i64_in->YGy
open Nat renaming lt_of_le_of_lt->YGU,mul_assoc->YGE,mul_le_mul_right->YGD,mul_pos->YHP,reduceMul->YHI
open Or renaming inr->YHT
set_option linter.all false
namespace Go.Proofs.YtijadllhfgajlaaGreat
open Go Go.Vx
set_option maxRecDepth 100000
theorem PthG.mono{P P':Nat->Prop}{t:Nat->Bool}(h:∀m,P m->P' m):∀{f a b:Nat},PthG P t f a b->PthG P' t f a b
 |0,_,_,hp=>hp
 |f+1,a,b,hp=>by
   rcases hp with hp| ⟨h1,h2⟩
   . exact Or.inl hp
   . refine YHT ⟨h _ h1,?_⟩
     by_cases c:t ((a+b)/2)=true
     . rw[if_pos c]at h2⊢;exact PthG.mono h h2
     . rw[if_neg c]at h2⊢;exact PthG.mono h h2
def spT(t:Int):List (Int×Int):=[(273150+t,1),(273150, -1)]++[(331300000,2)]
theorem YxZ{t:Int}(ht: -20000<=t/\t<=50000)(k:Nat):atF (spT t) 2 (k:Int)=spL (273150+t).toNat k:=by
 have hNI:(((273150+t).toNat:Nat):Int)=273150+t:=by omega
 rw[spL,hNI];rfl
theorem YDW:oneF (spL 273150 331300000)=true:=by decide+kernel
def spR(N:Nat):Nat:=bisN (tstN N) 41 0 1000000000001
theorem YsC{N:Nat}(hN:253150<=N/\N<=323150):spR N<=1000000000000/\(273150*spR N^2=N*331300000^2->N=273150/\spR N=331300000):=by
 obtain⟨s1,s2,s3,s4⟩:=YeQ 41 0 1000000000001 (by decide) (YmI hN)
 rw[show bisN (tstN N) 41 0 1000000000001=spR N from rfl]at s1 s2 s3 s4
 refine⟨by omega,fun he=>?_⟩
 rcases s1 with h0| ⟨h1,h2⟩
 . rw[h0]at he
   have:0<N*331300000^2:=YHP (by omega) (by decide)
   simp at he
   omega
 . have hR:=h1.2 he
   rw[hR]at he
   refine⟨?_,hR⟩
   simp only[Nat.reducePow,YHI]at he
   omega
theorem YmK{N:Nat}(hN:253150<=N/\N<=323150):AskP N 1000000000001/\tstN N 1000000000001=false:=by
 have hlt:N*331300000^2*64<273150*1000000000001^2*1:=by
   have:=YGD (331300000^2*64) hN.2
   rw[YGE]
   exact YGU this (by decide)
 refine⟨YgZ hN (by decide) (YgH hN.1 hN.2) (YgH (by decide) (by decide)) YnS (Or.inl ⟨rfl,rfl⟩) (Or.inl hlt),?_⟩
 exact decide_eq_false (by omega)
theorem Yop{t:Int}(ht: -20000<=t/\t<=50000):YY t=((((spR (273150+t).toNat:Nat):Int),if 273150*spR (273150+t).toNat^2=(273150+t).toNat*331300000^2 then((spR (273150+t).toNat:Nat):Int)else((spR (273150+t).toNat:Nat):Int)+1),0):=by
 have hat:=YxZ ht
 obtain⟨N,hN⟩:∃N:Nat,N=(273150+t).toNat:=⟨_,rfl⟩
 rw[<-hN]at hat⊢
 have hNr:253150<=N/\N<=323150:=by omega
 have hpth:=YmI hNr
 obtain⟨r1,r2⟩:=YsC hNr
 have htest:∀m:Nat,1<=m->m<=1000000000001->AskP N m->isF (spT t) 2 (m:Int)=tstN N m:=fun m h1 h2 hp=>by
   rw[isF,hat,decide_eq_false (by omega:¬(m:Int)=0),YHv]
   unfold tstN
   rw[decide_eq_decide,YvC (YAn (by omega) ⟨h1,h2⟩) (by simp [spL]) hp.1,YmG,YmH]
 have htop:isF (spT t) 2 1000000000001=false:=by
   have:=htest 1000000000001 (by decide) (by decide) (YmK hNr).1
   rw[(YmK hNr).2]at this
   exact this
 have hb:=Yi5 (s:=isF (spT t) 2) htest 41 64 0 1000000000001 (by decide) (by decide) (by decide) hpth
 have hb:bisL 64 (isF (spT t) 2) 0 1000000000001=(spR N:Nat):=hb
 have hflag:(decide (0<((spR N:Nat):Int))&&oneF (atF (spT t) 2 ((spR N:Nat):Int)))=decide (273150*spR N^2=N*331300000^2):=by
   rw[hat,YHK,YGA,decide_eq_true_eq,decide_eq_true_eq]
   constructor
   . rintro⟨h0,h1⟩
     have:=Ylk (YAn (by omega) (by omega)) (by simp [spL]) h1
     rw[YmH,YmG]at this
     exact this.symm
   . intro h
     obtain⟨e1,e2⟩:=r2 h
     rw[e2,e1]
     exact⟨by decide,YDW⟩
 have hprod:YeM 331300000 [(273150+t,1),(273150, -1)] 2=(((spR N:Nat):Int),decide (273150*spR N^2=N*331300000^2),0):=by
   unfold YeM
   rw[show [(273150+t,(1:Int)),(273150, -1)]++[((331300000:Int),(2:Int))]=spT t from rfl,if_neg (by rw[htop];decide),hb,hflag]
 unfold YY
 rw[if_pos (by unfold YhI;rw[decide_eq_true ht.1,decide_eq_true ht.2];rfl)]
 unfold pspF
 rw[hprod]
 simp only[decide_eq_true_eq]
 by_cases he:273150*spR N^2=N*331300000^2
 . rw[if_pos he,if_pos he]
 . rw[if_neg he,if_neg he,YGy _ (by omega)]
theorem Yss{t:Int}(ht: -20000<=t/\t<=50000):(Dec (atF (spT t) 2 1000000000001)/\decide (dnP (atF (spT t) 2 1000000000001)<=upP (atF (spT t) 2 1000000000001))=false)/\(fun k:Nat=>decide (dnP (atF (spT t) 2 (k:Int))<=upP (atF (spT t) 2 (k:Int))))=tstN (273150+t).toNat/\PthG (fun k=>Dec (atF (spT t) 2 (k:Int))) (tstN (273150+t).toNat) 41 0 1000000000001:=by
 have hat:=YxZ ht
 obtain⟨N,hN⟩:∃N:Nat,N=(273150+t).toNat:=⟨_,rfl⟩
 rw[<-hN]at hat⊢
 have hNr:253150<=N/\N<=323150:=by omega
 have htop:=YmK hNr
 have e1:atF (spT t) 2 1000000000001=spL N 1000000000001:=hat 1000000000001
 refine⟨⟨e1▸htop.1.1,?_⟩,?_,(YmI hNr).mono fun m hm=>by rw[hat];exact hm.1⟩
 . rw[e1,YmG,YmH];exact htop.2
 . funext k
   rw[hat,YmG,YmH];rfl
end Go.Proofs.YtijadllhfgajlaaGreat
