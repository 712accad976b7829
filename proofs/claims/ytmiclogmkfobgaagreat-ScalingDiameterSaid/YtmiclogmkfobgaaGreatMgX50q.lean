/- Scales: roots are exact, for the program and for the reference; in plain Lean. -/
import Derived.Test.YtmiclogmkfobgaaGreatMgX50e
import Derived.Test.YtmiclogmkfobgaaGreatMgX50i
import Derived.Test.YtmiclogmkfobgaaGreatMgX50p
import Derived.Test.YtmiclogmkfobgaaGreatMgX50c
import Derived.Test.YtmiclogmkfobgaaGreatMgX50d
import Derived.Test.YtmiclogmkfobgaaGreatProg
import Derived.Test.YtmiclogmkfobgaaGreatMgX50f
open Bool renaming and_eq_false_iff->YFZ,and_eq_true->YFd,false_and->YGi,false_eq_true->YFx,not_eq_true'->YFI,or_eq_true->YF5,true_and->YGm
open Int renaming eq_ofNat_of_zero_le->YFW,mul_le_mul_of_nonneg_right->YFz,natCast_mul->YFU,toNat_natCast->YE4
open Go.IntWalk renaming i64_in->YE7,u64_in->YFN,up_tdiv->YGg,up_tmod->YGr
open List renaming getD_eq_getElem?_getD->YFf,length_cons->YF6,mem_cons->YFA,mem_cons_of_mem->YFp,mem_cons_self->YFs,mem_singleton->YFO,take_length->YF4
open Nat renaming add_mul->YFw,add_zero->YF8,div_add_mod->YFH,div_div_eq_div_mul->YFn,div_eq_of_lt->YGc,div_le_self->YGd,div_lt_iff_lt_mul->YFE,eq_zero_or_pos->YFB,gcd->YF1,le_div_iff_mul_le->YF0,le_of_eq->YFr,le_of_lt->YGa,le_of_not_lt->YGk,le_refl->YFk,le_trans->YFa,lt_of_le_of_lt->YFG,lt_of_lt_of_le->YFS,lt_or_ge->YFu,mod_eq_of_lt->YFT,mod_lt->YFC,mul_add->YFJ,mul_assoc->YFg,mul_comm->YFc,mul_le_mul->YFt,mul_le_mul_left->YFe,mul_le_mul_right->YE9,mul_one->YGb,mul_pos->YF3,not_lt_zero->YGe,one_mul->YFR,pow_add->YFi,pow_le_pow_right->YFq,pow_mul->YFh,pow_pos->YFF,pow_succ->YFm,reduceAdd->YE5,reduceEqDiff->YE2,reduceLeDiff->YE3,succ_mul->YGp,zero_add->YGh,zero_le->YGj
open Go.Proofs.Tryz renaming prog->YE8
set_option linter.all false
namespace Go.Proofs.YtmiclogmkfobgaaGreat
open Go Go.Vx
set_option maxRecDepth 100000
def Whl(L:Int)(p:Int×Int):Prop:=∃n,p.1*L=n*p.2
theorem Whl.add{L:Int}{e:Exn}(h:Whl L (e.n,e.d))(hh:0<e.h->e.h∣L)(to:Int):Whl L (e.add to):=by
 obtain⟨n,hn⟩:=h
 simp only at hn
 unfold Exn.add
 split
 ·rename_i c
  obtain⟨x,hx⟩:=hh c
  refine⟨n+(to-e.f)*x,?_⟩
  simp only
  rw[Int.add_mul,Int.add_mul]
  have e1:e.n*e.h*L=n*(e.d*e.h):=by rw[Int.mul_right_comm,hn];ac_rfl
  have e2:(to-e.f)*e.d*L=(to-e.f)*x*(e.d*e.h):=by rw[hx];ac_rfl
  rw[e1,e2]
 ·exact⟨n,hn⟩
theorem Whl.exE{L note:Int}:∀(r:List (Int×Int))(e:Exn),Whl L (e.n,e.d)->(0<e.h->e.h∣L)->(∀b,b∈r->b.2∣L)->Whl L (exE note r e)
 | [],e,h,hh,_=>h.add hh note
 |b::r,e,h,hh,hb=>by
  rw[Go.Proofs.YtmiclogmkfobgaaGreat.exE]
  split
  ·exact h.add hh note
  ·exact Whl.exE r _ (h.add hh b.1) (fun _=>hb b (YFs ..)) fun x hx=>hb x (YFp _ hx)
theorem Ymk:∀{r:List (Int×Int)}{last:Int},benL r last=true->∀b,b∈r->8<=b.2/\b.2<=64
 | [],_,_,b,hb=>by cases hb
 |c::r,last,h,b,hb=>by
  simp only[benL,inS,YFd,decide_eq_true_eq]at h
  rcases YFA.1 hb with rfl|hb
  ·omega
  ·exact Ymk h.2 b hb
theorem Yw7{h L:Nat}{x:Int}(hx:x=(h:Int))(hd:h∣L):x∣(L:Int):=by rw[hx];exact Int.ofNat_dvd.2 hd
theorem Yzd{s:Scl}(hs:chkL s=0){note:Int}(hn:0<=note/\note<=139):Thr (expF s.bs note).1.toNat (expF s.bs note).2.toNat:=by
 obtain⟨h1,h2,h3⟩:=Ya5 hs
 simp only[okS,YFd]at h3
 have hm:=Ymk h3.1.2
 obtain⟨x0,x1,x2,x3,x4⟩:=Yif hs hn
 have hrng:∀i:Nat,i<s.bs.length->8<=(s.bs.getD i default).2/\(s.bs.getD i default).2<=64:=fun i hi=>hm _ (Yl hi)
 obtain⟨t,ht⟩:∃t:Nat->Nat,t=fun i=>if i<s.bs.length then(s.bs.getD i default).2.toNat else 8:=⟨_,rfl⟩
 have htr:∀i,8<=t i/\t i<=64:=fun i=>by
  rw[ht]
  simp only
  split
  ·rename_i c
   have:=hrng i c
   omega
  ·exact⟨by decide,by decide⟩
 obtain⟨L,d,q,hL,⟨d0,d1,d2⟩,hd,hq,he⟩:=LB.tri_ok (htr 0) (htr 1) (htr 2)
 have hdv:∀b,b∈s.bs->b.2∣(L:Int):=fun b hb=>by
  obtain⟨i,hi,hb'⟩:=Ydi hb
  have hr:=hrng i hi
  have hti:t i=(s.bs.getD i default).2.toNat:=by rw[ht];simp only;rw[if_pos hi]
  have hx:b.2=((t i:Nat):Int):=by rw[hti,<-hb'];omega
  refine Yw7 hx ?_
  rcases(by omega:i=0\/i=1\/i=2)with rfl|rfl|rfl
  ·exact d0
  ·exact d1
  ·exact d2
 have hw:Whl (L:Int) (expF s.bs note):=by
  rw[x0]
  exact Whl.exE s.bs ⟨0,0,0,1⟩ ⟨0,by simp⟩ (fun h=>absurd h (by simp)) hdv
 obtain⟨n,hn'⟩:=hw
 have hL0:0<L:=by rw[hL];exact YF3 hd.1 hq
 have hn0:0<=n:=by
  refine Int.le_of_not_gt fun hlt=>?_
  have a1:n*(expF s.bs note).2<0:=Int.mul_neg_of_neg_of_pos hlt (by omega)
  have a2:0<=(expF s.bs note).1*(L:Int):=Int.mul_nonneg x1 (by omega)
  omega
 refine⟨L,d,q,n.toNat,hL,hd,hq,he,?_⟩
 have e1:(((expF s.bs note).1.toNat*L:Nat):Int)=((n.toNat*(expF s.bs note).2.toNat:Nat):Int):=by
  rw[YFU,YFU,Int.toNat_of_nonneg x1,Int.toNat_of_nonneg hn0,Int.toNat_of_nonneg (by omega)]
  exact hn'
 exact Int.ofNat.inj e1
theorem Thr.red{g num den:Nat}(hg:1<=g)(h:Thr (g*num) (g*den)):Thr num den:=by
 obtain⟨L,d,q,n,hL,hd,hq,he,hE⟩:=h
 refine⟨L,d,q,n,hL,hd,hq,he,?_⟩
 refine Nat.eq_of_mul_eq_mul_left (show 0<g from hg) ?_
 rw[<-YFg,hE];ac_rfl
structure Prt (s:Scl) (note:Int) (m num den:Nat):Prop where
 em:s.d-s.c=(m:Int)
 en:(expF s.bs note).1=(num:Int)
 ed:(expF s.bs note).2=(den:Int)
 mr:1<=m/\m<=500000
 nr:num<=1000000000
 dr:1<=den/\den<=1000000
 th:Thr num den
theorem prt{s:Scl}(hs:chkL s=0){note:Int}(hn:0<=note/\note<=139):∃m num den,Prt s note m num den:=by
 have hr:=YiF hs
 obtain⟨_,x1,x2,x3,x4⟩:=Yif hs hn
 have k1:note*(expF s.bs note).2<=139*262144:=YcO hn.2 x4 hn.1 (by decide)
 refine⟨(s.d-s.c).toNat,(expF s.bs note).1.toNat,(expF s.bs note).2.toNat,?_,?_,?_,?_,?_,?_,Yzd hs hn⟩
 ·omega
 ·omega
 ·omega
 ·omega
 ·omega
 ·omega
theorem YiN{s:Scl}{note:Int}{m num den:Nat}(p:Prt s note m num den):YgQ (s.d-s.c) (expF s.bs note).1 (expF s.bs note).2=((rtN m num den:Int),exN m num den):=by
 unfold YgQ
 rw[p.em,p.en,p.ed,Yyl p.mr p.nr p.dr p.th]
theorem Yuj{s:Scl}(hs:chkL s=0){note:Int}(hn:0<=note/\note<=139):0<=(YgQ (s.d-s.c) (expF s.bs note).1 (expF s.bs note).2).1/\(YgQ (s.d-s.c) (expF s.bs note).1 (expF s.bs note).2).1<=500000:=by
 obtain⟨m,num,den,p⟩:=prt hs hn
 rw[YiN p]
 have:=Ynj (num:=num) p.mr p.dr.1
 simp only
 omega
theorem YpJ{s:Scl}(hs:chkL s=0){note:Int}(hn:0<=note/\note<=139):0<=(diaS s note).1/\(diaS s note).1<=(diaS s note).2/\1<=(diaS s note).2/\(diaS s note).2<=3000000:=by
 have hr:=YiF hs
 obtain⟨m,num,den,p⟩:=prt hs hn
 have hle:=Ynj (num:=num) p.mr p.dr.1
 unfold diaS
 simp only
 rw[YiN p]
 simp only
 split
 ·rename_i hx
  unfold exN at hx
  rw[YFd,decide_eq_true_eq]at hx
  omega
 ·omega
def toN(note:Int):List (Int×Int)->Int
 | []=>note
 |c::_=>min note c.1
def exR(note:Int):List (Int×Int)->Int×Int->Int×Int
 | [],p=>p
 |b::r,p=>if b.1<note then exR note r (p.1*b.2+(toN note r-b.1)*p.2,p.2*b.2)else p
theorem YBB{note:Int}:∀(r:List (Int×Int))(e:Exn)(last:Int), -1<=last->benL r last=true->0<e.h->e.f<=last->e.f<note->exE note r e=exR note r (e.n*e.h+(toN note r-e.f)*e.d,e.d*e.h)
 | [],e,_,_,_,hh,_,_=>by rw[exE,exR,Exn.add,if_pos hh];rfl
 |c::t,e,last,hl,hb,hh,hf,hn=>by
  obtain⟨⟨b1,b2⟩,b3⟩:=YfR hb hl
  rw[exE,exR]
  by_cases h:note<=c.1
  ·rw[if_pos h,if_neg (by omega),Exn.add,if_pos hh]
   have hm:toN note (c::t)=min note c.1:=rfl
   have:toN note (c::t)=note:=by omega
   rw[this]
  ·rw[if_neg h,if_pos (by omega)]
   have hm:toN note (c::t)=min note c.1:=rfl
   have e1:toN note (c::t)=c.1:=by omega
   have:=YBB (note:=note) t ⟨c.1,c.2,(e.add c.1).1,(e.add c.1).2⟩ c.1 (by omega) b3 (show(0:Int)<c.2 by omega) (Int.le_refl _) (show c.1<note by omega)
   rw[this,e1,Exn.add,if_pos hh]
theorem exp_R{s:Scl}(hs:chkL s=0){note:Int}(hn:0<=note/\note<=139):expF s.bs note=exR note s.bs (0,1):=by
 rw[(Yif hs hn).1]
 have h3:=(Ya5 hs).2.2
 simp only[okS,YFd]at h3
 have hb:=h3.1.2
 cases h:s.bs with
 |nil=>rfl
 |cons b r=>
  rw[h]at hb
  obtain⟨⟨b1,b2⟩,b3⟩:=YfR hb (by decide)
  rw[exE,exR]
  have e0:(⟨0,0,0,1⟩:Exn).add note=(0,1):=rfl
  have e1:(⟨0,0,0,1⟩:Exn).add b.1=(0,1):=rfl
  by_cases c:note<=b.1
  ·rw[if_pos c,if_neg (by omega),e0]
  ·rw[if_neg c,if_pos (by omega),e1]
   rw[YBB (note:=note) r ⟨b.1,b.2,0,1⟩ b.1 (by omega) b3 (show(0:Int)<b.2 by omega) (Int.le_refl _) (show b.1<note by omega)]
structure Rex (note:Int) (E:Int×Int) (r:List (Int×Int)) (j:Nat) (n d:Nat):Prop where
 ex:∃G:Nat,1<=G/\exR note r (((G*n:Nat):Int),((G*d:Nat):Int))=E/\G*d*64^r.length<=262144/\G*n<=139*j*(G*d)
 d1:1<=d
theorem Rex.bnd{note:Int}{E:Int×Int}{r:List (Int×Int)}{j n d:Nat}(h:Rex note E r j n d):d<=262144/\n<=139*j*262144/\d*64^r.length<=262144:=by
 obtain⟨⟨G,g1,_,g3,g4⟩,h2⟩:=h
 have hp:1<=64^r.length:=YFF (by decide)
 have a1:1*d<=G*d:=YE9 d g1
 have a2:1*n<=G*n:=YE9 n g1
 have a3:G*d*1<=G*d*64^r.length:=YFe _ hp
 have a4:139*j*(G*d)<=139*j*262144:=YFe _ (by omega)
 have a5:d*64^r.length<=G*d*64^r.length:=YE9 _ (by omega)
 omega
theorem Rex.next{note:Int}{E:Int×Int}{b:Int×Int}{r:List (Int×Int)}{j n d:Nat}(h:Rex note E (b::r) j n d)(hn:note<=139)(hb:0<=b.1/\b.1<note)(h8:8<=b.2/\b.2<=64)(hr:b.1<=toN note r):
 ∃hh x:Nat,b.2=(hh:Int)/\toN note r-b.1=(x:Int)/\x<=139/\(8<=hh/\hh<=64)/\1<=YF1 (n*hh+x*d) (d*hh)/\Rex note E r (j+1) ((n*hh+x*d)/YF1 (n*hh+x*d) (d*hh)) (d*hh/YF1 (n*hh+x*d) (d*hh)):=by
 obtain⟨⟨G,g1,g2,g3,g4⟩,h2⟩:=h
 have hto:toN note r<=note:=by unfold toN;split <;> omega
 obtain⟨hh,e1⟩:∃hh:Nat,b.2=(hh:Int):=⟨b.2.toNat,by omega⟩
 obtain⟨x,e2⟩:∃x:Nat,toN note r-b.1=(x:Int):=⟨(toN note r-b.1).toNat,by omega⟩
 have hdh:1<=d*hh:=YF3 h2 (by omega)
 have hg:1<=YF1 (n*hh+x*d) (d*hh):=Nat.gcd_pos_of_pos_right _ hdh
 refine⟨hh,x,e1,e2,by omega,by omega,hg,?_⟩
 obtain⟨g,hgd⟩:∃g,g=YF1 (n*hh+x*d) (d*hh):=⟨_,rfl⟩
 rw[<-hgd]at hg⊢
 obtain⟨n',hn'⟩:g∣n*hh+x*d:=by rw[hgd];exact Nat.gcd_dvd_left _ _
 obtain⟨d',hd'⟩:g∣d*hh:=by rw[hgd];exact Nat.gcd_dvd_right _ _
 rw[hn',hd',Nat.mul_div_cancel_left _ hg,Nat.mul_div_cancel_left _ hg]
 have hd0:1<=d':=by
  rcases YFB d' with e|e
  ·rw[e,Nat.mul_zero]at hd';omega
  ·exact e
 refine⟨⟨G*g,YF3 g1 hg,?_,?_,?_⟩,hd0⟩
 ·rw[<-g2,exR,if_pos hb.2]
  congr 1
  rw[e1,e2,YFg,YFg,<-hn',<-hd']
  refine Prod.ext ?_ ?_
  ·show((G*(n*hh+x*d):Nat):Int)=((G*n:Nat):Int)*(hh:Int)+(x:Int)*((G*d:Nat):Int)
   rw[<-YFU,<-YFU,<-Int.natCast_add]
   congr 1
   rw[YFJ];congr 1 <;> ac_rfl
  ·show((G*(d*hh):Nat):Int)=((G*d:Nat):Int)*(hh:Int)
   rw[<-YFU,YFg]
 ·rw[YFg G g d',<-hd']
  rw[YF6,YFm]at g3
  have:G*(d*hh)*64^r.length<=G*d*(64^r.length*64):=by
   have k:=YFe (G*d*64^r.length) (show hh<=64 by omega)
   refine YFa (YFr ?_) (YFa k (YFr ?_)) <;> ac_rfl
  omega
 ·rw[YFg G g n',YFg G g d',<-hn',<-hd']
  have k1:=YE9 hh g4
  have k2:G*(x*d)<=139*(G*(d*hh)):=by
   have a:=YFt (show x<=139 by omega) (Nat.le_mul_of_pos_right (G*d) (show 0<hh by omega))
   refine YFa (YFr ?_) (YFa a (YFr ?_)) <;> ac_rfl
  have e3:G*(n*hh+x*d)=G*n*hh+G*(x*d):=by rw[YFJ];congr 1;ac_rfl
  have e4:139*(j+1)*(G*(d*hh))=139*j*(G*d)*hh+139*(G*(d*hh)):=by
   rw[YFJ,YGb,YFw];congr 1;ac_rfl
  omega
theorem Yue{s:Scl}{note:Int}{m num den:Nat}(p:Prt s note m num den){n d G:Nat}(hG:1<=G)(hE:(((G*n:Nat):Int),((G*d:Nat):Int))=expF s.bs note)(hd:1<=d)(hd2:d<=1000000)(hn:n<=1000000000):
 Thr n d/\rtN m n d=rtN m num den/\exN m n d=exN m num den:=by
 have e1:num=G*n:=by
  have:=p.en
  rw[<-hE]at this
  simp only at this
  omega
 have e2:den=G*d:=by
  have:=p.ed
  rw[<-hE]at this
  simp only at this
  omega
 have ht:=p.th
 rw[e1,e2]at ht
 have hr:=YDD (m:=m) (num:=n) (den:=d) hG
 rw[<-e1,<-e2]at hr
 exact⟨ht.red hG,hr.1.symm,hr.2.symm⟩
set_option maxHeartbeats 4000000
def v27:VF:=⟨15,[.tmp 6],(ZR [u1 6 .mov [.cn (.bool false)]] (ZR [Zm 7 0,Zm 8 1,Zr 9 .geq 7 8,Zm 10 9,Zg 11 10 true 0,Zg 12 10 true 2,u2 13 10 true (.cmp .leq) [.tm 11,.tm 12],u1 14 .and [.tm 10,.tm 13],Zm 6 14] .ret))⟩
theorem YD8:Yg YE8 Tryz.f27=some v27:=by kernel_rfl
def v28:VF:=⟨9,[.tmp 2],(ZR [u1 2 .mov [.cn (.bool false)]] (ZR [Zm 3 0,Zq 4 .geq 3 1,Zm 5 4,Zg 6 5 true 0,u2 7 5 true (.cmp .leq) [.tm 6,.cn (.int .i64 20)],u1 8 .and [.tm 5,.tm 7],Zm 2 8] .ret))⟩
theorem YD9:Yg YE8 Tryz.f28=some v28:=by kernel_rfl
def v39:VF:=⟨16,[.tmp 4],(ZR [u1 2 .box [.tm 0],u1 4 .mov [.cn (.bool false)]] (ZR [Zm 5 1,Za 6 2 2,Zf 7 1 6,u1 8 (.idxAddr 2) [.tm 7,.cn (.int .i64 0)],Za 9 0 8,Zf 10 1 9,Zr 11 .geq 5 10,Zm 12 11,Zg 13 12 true 1,u2 14 12 true (.cmp .leq) [.tm 13,.cn (.int .i64 139)],u1 15 .and [.tm 12,.tm 14],Zm 4 15] .ret))⟩
theorem YEb:Yg YE8 Tryz.f39=some v39:=by kernel_rfl
def v43:VF:=⟨16,[.tmp 4],(ZR [u1 2 .box [.tm 0],u1 4 .mov [.cn (.bool false)]] (ZR [Zm 5 1,Za 6 2 2,Zf 7 1 6,u1 8 (.idxAddr 2) [.tm 7,.cn (.int .i64 0)],Za 9 0 8,Zf 10 1 9,Zr 11 .geq 5 10,Zm 12 11,Zg 13 12 true 1,u2 14 12 true (.cmp .leq) [.tm 13,.cn (.int .i64 139)],u1 15 .and [.tm 12,.tm 14],Zm 4 15] .ret))⟩
theorem YEf:Yg YE8 Tryz.f43=some v43:=by kernel_rfl
def v10:VF:=⟨87,[.tmp 2],(ZR [u1 1 .box [.tm 0],Zi 2 0] (.seq (ZR [Za 9 2 1,Zf 10 1 9,Zl 11 10,Zq 12 .gtr 11 3] (ZC 12 (ZR [Zi 2 3] .ret) .skip)) (ZR [Za 13 2 1,Zf 14 1 13,Zl 15 14,Zq 16 .gtr 15 0,Zm 17 16,Zj 18 17 true 0 1,Zh 19 17 true 1 18,u2 20 17 true (.call 27) [.tm 19,.cn (.int .i64 1000),.cn (.int .i64 500000)],u1 21 .and [.tm 17,.tm 20],Zm 22 21,Zj 23 22 true 1 1,Zh 24 22 true 1 23,Zj 25 22 true 0 1,Zh 26 22 true 1 25,u2 27 22 true (.ari .sub) [.tm 26,.cn (.int .i64 1)],u2 28 22 true .min [.cn (.int .i64 50000),.tm 27],u2 29 22 true (.call 27) [.tm 24,.cn (.int .i64 0),.tm 28],u1 30 .and [.tm 22,.tm 29],Zm 3 30] (.seq (ZR [Za 31 3 1,Zf 32 1 31,Za 33 4 1,Zf 34 1 33,Za 35 5 1,Zf 36 1 35,Za 37 6 1,Zf 38 1 37,u1 39 (.build [(.int .i64 0),(.int .i64 0),(.int .i64 0),(.int .i64 0)] [(0,1),(1,1),(2,1),(3,1)]) [.tm 32,.tm 34,.tm 36,.tm 38],Zi 40 0] (.block 0 (.loop (ZR [Zq 41 .lss 40 4] (.seq (ZC 41 .skip (.exit 0)) (.seq (.block 1 (ZR [u1 42 (.index false 4 1) [.tm 39,.tm 40],Zm 5 42] (.region [Zm 43 3,Zm 44 43,Zg 45 44 true 5,u2 46 44 true (.call 27) [.tm 45,.cn (.int .i64 1),.cn (.int .i64 20)],u1 47 .and [.tm 44,.tm 46],Zm 3 47]))) (.region [Zp 48 40 1,Zm 40 48]))))))) (ZR [Zi 6 (-1)] (.seq (ZR [Za 49 2 1,Zf 50 1 49,Zl 51 50,Zi 52 0] (.block 2 (.loop (ZR [Zr 53 .lss 52 51] (.seq (ZC 53 .skip (.exit 2)) (.seq (.block 3 (ZR [Zx 54 2 50 52,Zt 55 2 54,Zn 8,Zs 2 8 55] (ZR [Zm 56 3,Zm 57 56,Zj 58 57 true 0 8,Zh 59 57 true 1 58,Zg 60 57 true 6,u2 61 57 true (.cmp .gtr) [.tm 59,.tm 60],u1 62 .and [.tm 57,.tm 61],Zm 63 62,Zj 64 63 true 0 8,Zh 65 63 true 1 64,u2 66 63 true (.cmp .leq) [.tm 65,.cn (.int .i64 139)],u1 67 .and [.tm 63,.tm 66],Zm 68 67,Zj 69 68 true 1 8,Zh 70 68 true 1 69,u2 71 68 true (.call 27) [.tm 70,.cn (.int .i64 8),.cn (.int .i64 64)],u1 72 .and [.tm 68,.tm 71],Zm 3 72] (.region [Zm 73 6,Za 74 0 8,Zf 75 1 74,u1 76 .max [.tm 73,.tm 75],Zm 6 76])))) (.region [Zp 77 52 1,Zm 52 77]))))))) (.seq (ZR [Zm 78 3,u1 79 .not [.tm 78],Zm 80 79,Zj 81 80 false 3 1,Zh 82 80 false 1 81,Zj 83 80 false 4 1,Zh 84 80 false 1 83,u2 85 80 false (.cmp .geq) [.tm 82,.tm 84],u1 86 .or [.tm 80,.tm 85]] (ZC 86 (ZR [Zi 2 2] .ret) .skip)) (ZR [Zi 2 0] .ret))))))))⟩
theorem YDU:Yg YE8 Tryz.f10=some v10:=by kernel_rfl
def v11:VF:=⟨115,[.tmp 2],(ZR [u1 1 .box [.tm 0],Zi 2 0] (.seq (ZR [Za 5 2 1,Zf 6 1 5,Zl 7 6,Zq 8 .gtr 7 3] (ZC 8 (ZR [Zi 2 3] .ret) .skip)) (.seq (ZR [Zi 3 0] (.block 0 (.loop (.seq (ZR [Zm 9 3,Za 10 2 1,Zf 11 1 10,Zl 12 11,Zr 13 .lss 9 12] (ZC 13 .skip (.exit 0))) (.seq (.block 1 (ZR [Za 16 2 1,Zf 17 1 16,Zm 18 3,Zx 19 2 17 18,Zt 20 2 19,Zn 4,Zs 2 4 20] (.seq (.draw [] [Zy 21 0 4,Zv 22 1 21,w1 23 (.cmp .lss) [.tm 22,.cn (.int .i64 0)],Zu 24 23,⟨Zj 25 24 false 0 4,[]⟩,⟨Zh 26 24 false 1 25,[]⟩,⟨u2 27 24 false (.cmp .gtr) [.tm 26,.cn (.int .i64 139)],[]⟩,w1 28 .or [.tm 24,.tm 27],Zu 29 28,⟨Zj 30 29 false 1 4,[]⟩,⟨Zh 31 29 false 1 30,[]⟩,⟨u2 32 29 false (.cmp .lss) [.tm 31,.cn (.int .i64 8)],[]⟩,w1 33 .or [.tm 29,.tm 32],Zu 34 33,⟨Zj 35 34 false 1 4,[]⟩,⟨Zh 36 34 false 1 35,[]⟩,⟨u2 37 34 false (.cmp .gtr) [.tm 36,.cn (.int .i64 64)],[]⟩,w1 38 .or [.tm 34,.tm 37],Zu 39 38,⟨Zg 40 39 false 3,[]⟩,⟨u2 41 39 false (.cmp .gtr) [.tm 40,.cn (.int .i64 0)],[]⟩,⟨Zg 42 39 false 41,[]⟩,⟨Zj 43 42 true 2 1,[]⟩,⟨Zh 44 42 true 1 43,[]⟩,⟨Zg 45 42 true 3,[]⟩,⟨u2 46 42 true (.ari .sub) [.tm 45,.cn (.int .i64 1)],[]⟩,⟨u2 47 42 true (.idxAddr 2) [.tm 44,.tm 46],[]⟩,⟨Zj 48 42 true 0 47,[]⟩,⟨Zh 49 42 true 1 48,[]⟩,⟨Zj 50 42 true 0 4,[]⟩,⟨Zh 51 42 true 1 50,[]⟩,⟨u2 52 42 true (.cmp .geq) [.tm 49,.tm 51],[]⟩,⟨u2 53 39 false .and [.tm 42,.tm 52],[]⟩,w1 54 .or [.tm 39,.tm 53]]) (ZC 54 (ZR [Zi 2 2] .ret) .skip)))) (.region [Zm 14 3,Zp 15 14 1,Zm 3 15])))))) (.seq (ZR [Za 55 2 1,Zf 56 1 55,Zl 57 56,Zq 58 .eql 57 0,Zm 59 58,Zj 60 59 false 0 1,Zh 61 59 false 1 60,u2 62 59 false (.cmp .lss) [.tm 61,.cn (.int .i64 1000)],u1 63 .or [.tm 59,.tm 62],Zm 64 63,Zj 65 64 false 0 1,Zh 66 64 false 1 65,u2 67 64 false (.cmp .gtr) [.tm 66,.cn (.int .i64 500000)],u1 68 .or [.tm 64,.tm 67],Zm 69 68,Zj 70 69 false 1 1,Zh 71 69 false 1 70,u2 72 69 false (.cmp .lss) [.tm 71,.cn (.int .i64 0)],u1 73 .or [.tm 69,.tm 72],Zm 74 73,Zj 75 74 false 1 1,Zh 76 74 false 1 75,u2 77 74 false (.cmp .gtr) [.tm 76,.cn (.int .i64 50000)],u1 78 .or [.tm 74,.tm 77],Zm 79 78,Zj 80 79 false 1 1,Zh 81 79 false 1 80,Zj 82 79 false 0 1,Zh 83 79 false 1 82,u2 84 79 false (.cmp .geq) [.tm 81,.tm 83],u1 85 .or [.tm 79,.tm 84]] (ZC 85 (ZR [Zi 2 2] .ret) .skip)) (.seq (ZR [Za 86 3 1,Zf 87 1 86,Zc 88 28 87,u1 89 .not [.tm 88],Zm 90 89,Zj 91 90 false 4 1,Zh 92 90 false 1 91,u2 93 90 false (.call 28) [.tm 92],u2 94 90 false .not [.tm 93],u1 95 .or [.tm 90,.tm 94],Zm 96 95,Zj 97 96 false 5 1,Zh 98 96 false 1 97,u2 99 96 false (.call 28) [.tm 98],u2 100 96 false .not [.tm 99],u1 101 .or [.tm 96,.tm 100],Zm 102 101,Zj 103 102 false 6 1,Zh 104 102 false 1 103,u2 105 102 false (.call 28) [.tm 104],u2 106 102 false .not [.tm 105],u1 107 .or [.tm 102,.tm 106],Zm 108 107,Zj 109 108 false 3 1,Zh 110 108 false 1 109,Zj 111 108 false 4 1,Zh 112 108 false 1 111,u2 113 108 false (.cmp .geq) [.tm 110,.tm 112],u1 114 .or [.tm 108,.tm 113]] (ZC 114 (ZR [Zi 2 2] .ret) .skip)) (ZR [Zi 2 0] .ret))))))⟩
theorem YDV:Yg YE8 Tryz.f11=some v11:=by kernel_rfl
def v19:VF:=⟨28,[.tmp 6],(ZR [u1 3 .box [.tm 0],Zi 6 0] (.seq (ZR [Zt 8 7 3,Zc 9 10 8,Zm 7 9] (ZR [Zm 10 7,Zq 11 .neq 10 0] (ZC 11 (ZR [Zm 12 7,Zm 6 12] .ret) .skip))) (.seq (ZR [Zt 13 7 3,Zm 14 1,Zd 15 39 13 14,u1 16 .not [.tm 15],Zm 17 16,u2 18 17 false (.load true 7) [.tm 3],Zg 19 17 false 2,u2 20 17 false (.call 39) [.tm 18,.tm 19],u2 21 17 false .not [.tm 20],u1 22 .or [.tm 17,.tm 21],Zm 23 22,Zg 24 23 false 1,Zg 25 23 false 2,u2 26 23 false (.cmp .gtr) [.tm 24,.tm 25],u1 27 .or [.tm 23,.tm 26]] (ZC 27 (ZR [Zi 6 2] .ret) .skip)) (ZR [Zi 6 0] .ret))))⟩
theorem YD0:Yg YE8 Tryz.f19=some v19:=by kernel_rfl
def inSC:Ctr:={ alias:=false,of:=fun l=>match l with
 | [.int .i64 n,.int .i64 a,.int .i64 b]=> .fin (.bool (inS n a b)) []
 |_=> .pre False (.fin (.bool false) [])}
def partSC:Ctr:={ alias:=false,of:=fun l=>match l with
 | [.int .i64 n]=> .fin (.bool (Ybe n)) []
 |_=> .pre False (.fin (.bool false) [])}
def SK00:Env:={ ct:=fun _=>none,fn:=fun _=>none,meth:=fun _ _=>none}
theorem YhH:Yu YE8 SK00:=by
 refine⟨fun f c h=>?_,fun f vf h=>?_,(fun _ _ _ h=>by cases h),by kernel_rfl,(fun _ h=>by cases h)⟩
 ·cases h
 ·cases h
theorem inS_c:inSC.ok YE8 27:=by
 refine Yb Tryz.func27 YD8 YhH 100 inSC fun args k h=>?_
 simp only[inSC]at h
 split at h
 ·rename_i n a b
  refine⟨[.int .i64 n,.int .i64 a,.int .i64 b],by simp [leL,le],?_⟩
  dsimp only[v27,go_sem,reduceIte]
  simp only[Yd,YE5,YE3,reduceCtorEq,YE2]
  exact YO h
 ·exact h.1.elim
theorem Yyh:partSC.ok YE8 28:=by
 refine Yb Tryz.func28 YD9 YhH 100 partSC fun args k h=>?_
 simp only[partSC]at h
 split at h
 ·rename_i n
  refine⟨[.int .i64 n],by simp [leL,le],?_⟩
  dsimp only[v28,go_sem,reduceIte]
  simp only[Yd,YE5,YE3,reduceCtorEq,YE2]
  exact YO h
 ·exact h.1.elim
def hasC:Ctr:={ alias:=false,of:=fun l=>match l with
 | [.agg [.int .i64 d,.int .i64 c,.vs _ _ n sz get,.int .i64 mn,.int .i64 md,.int .i64 cn,.int .i64 cd],.int .i64 note]=>
   .ex (List (Int×Int)) fun bs=> .pre (lsP 2 enc2 n sz get bs/\0<n/\n<=9223372036854775807) (.fin (.bool (hasS ⟨d,c,bs,mn,md,cn,cd⟩ note)) [])
 |_=> .pre False (.fin (.bool false) [])}
theorem Yu8:hasC.ok YE8 39:=by
 refine Yb Tryz.func39 YEb YhH 100 hasC fun args k h=>?_
 simp only[hasC]at h
 split at h
 ·rename_i d c tt z n sz get mn md cn cd note
  obtain⟨bs,⟨⟨rfl,rfl,hg⟩,hn0,hn⟩,h⟩:=h
  refine⟨[.agg [.int .i64 d,.int .i64 c,.vs tt z bs.length 2 (fun k=>enc2 (bs.getD k default)),.int .i64 mn,.int .i64 md,.int .i64 cn,.int .i64 cd],.int .i64 note],⟨⟨⟨rfl,rfl⟩,⟨rfl,rfl⟩,⟨id,rfl,rfl,rfl,hg⟩,⟨rfl,rfl⟩,⟨rfl,rfl⟩,⟨rfl,rfl⟩,⟨rfl,rfl⟩,trivial⟩,⟨rfl,rfl⟩,trivial⟩,?_⟩
  dsimp only[v39,enc2,Int.toNat_zero,go_sem,reduceIte]
  simp only[Yd,YE5,YE3,reduceCtorEq,YE2]
  refine⟨⟨by omega,by omega⟩,YO h⟩
 ·exact h.1.elim
theorem YyT:hasC.ok YE8 43:=by
 refine Yb Tryz.func43 YEf YhH 100 hasC fun args k h=>?_
 simp only[hasC]at h
 split at h
 ·rename_i d c tt z n sz get mn md cn cd note
  obtain⟨bs,⟨⟨rfl,rfl,hg⟩,hn0,hn⟩,h⟩:=h
  refine⟨[.agg [.int .i64 d,.int .i64 c,.vs tt z bs.length 2 (fun k=>enc2 (bs.getD k default)),.int .i64 mn,.int .i64 md,.int .i64 cn,.int .i64 cd],.int .i64 note],⟨⟨⟨rfl,rfl⟩,⟨rfl,rfl⟩,⟨id,rfl,rfl,rfl,hg⟩,⟨rfl,rfl⟩,⟨rfl,rfl⟩,⟨rfl,rfl⟩,⟨rfl,rfl⟩,trivial⟩,⟨rfl,rfl⟩,trivial⟩,?_⟩
  dsimp only[v43,enc2,Int.toNat_zero,go_sem,reduceIte]
  simp only[Yd,YE5,YE3,reduceCtorEq,YE2]
  refine⟨⟨by omega,by omega⟩,YO h⟩
 ·exact h.1.elim
def ptB(g:Bool)(mn md cn cd:Int):Nat->Bool
 |0=>g
 |1=>g&&Ybe mn
 |2=>g&&Ybe mn&&Ybe md
 |3=>g&&Ybe mn&&Ybe md&&Ybe cn
 |_=>g&&Ybe mn&&Ybe md&&Ybe cn&&Ybe cd
def stepG(g:Bool×Int)(b:Int×Int):Bool×Int:=(g.1&&decide (g.2<b.1)&&decide (b.1<=139)&&inS b.2 8 64,max g.2 b.1)
theorem Ynt:∀(r:List (Int×Int))(g:Bool)(last:Int),(r.foldl stepG (g,last)).1=(g&&benL r last)
 | [],g,last=>by rw[benL,Bool.and_true];rfl
 |b::r,g,last=>by
  rw[List.foldl_cons,stepG,Ynt r,benL]
  simp only
  by_cases c:last<b.1
  ·rw[decide_eq_true c,show max last b.1=b.1 by omega]
   simp only[Bool.and_true,YGm,Bool.and_assoc]
  ·rw[decide_eq_false c]
   simp only[Bool.and_false,YGi]
def chkLC:Ctr:={ alias:=false,of:=fun l=>match l with
 | [.agg [.int .i64 d,.int .i64 c,.vs _ _ n sz get,.int .i64 mn,.int .i64 md,.int .i64 cn,.int .i64 cd]]=>
   .ex (List (Int×Int)) fun bs=> .pre (lsP 2 enc2 n sz get bs/\n<=9223372036854775807) (.fin (.int .i64 (chkL ⟨d,c,bs,mn,md,cn,cd⟩)) [])
 |_=>noC}
def SK01:Env:={ ct:=fun n=>match n with|27=>some inSC|_=>none,fn:=fun _=>none,meth:=fun _ _=>none}
theorem Ybm:SK01.ct 27=some inSC:=rfl
theorem Ywm:Yu YE8 SK01:=by
 refine⟨fun f c h=>?_,fun f vf h=>?_,(fun _ _ _ h=>by cases h),by kernel_rfl,(fun _ h=>by cases h)⟩
 ·simp only[SK01]at h
  split at h
  ·cases h;exact⟨inS_c,Tryz.f27,Tryz.func27,by kernel_rfl,by kernel_rfl⟩
  ·cases h
 ·cases h
theorem Ypx:chkLC.ok YE8 10:=by
 refine Yb Tryz.func10 YDU Ywm 400 chkLC fun args k h=>?_
 simp only[chkLC]at h
 split at h
 ·rename_i d c tt z n sz get mn md cn cd
  obtain⟨bs,⟨⟨rfl,rfl,hg⟩,hn⟩,h⟩:=h
  refine⟨[.agg [.int .i64 d,.int .i64 c,.vs tt z bs.length 2 (fun k=>enc2 (bs.getD k default)),.int .i64 mn,.int .i64 md,.int .i64 cn,.int .i64 cd]],⟨⟨⟨rfl,rfl⟩,⟨rfl,rfl⟩,⟨id,rfl,rfl,rfl,hg⟩,⟨rfl,rfl⟩,⟨rfl,rfl⟩,⟨rfl,rfl⟩,⟨rfl,rfl⟩,trivial⟩,trivial⟩,?_⟩
  dsimp only[v10,Ybm,inSC,enc2,go_sem,reduceIte]
  simp only[Yd,YE5,YE3,reduceCtorEq,YE2]
  refine⟨fun hc=>?_,fun hc=>?_⟩
  ·rw[chkL,if_pos (by simp only;omega)]at h;exact Yh h
  ·rw[chkL,if_neg (by simp only;omega)]at h
   obtain⟨G,hG⟩:∃G,G=(decide (0<(bs.length:Int))&&inS d 1000 500000&&inS c 0 (min 50000 (IntKind.i64.wrap (d-1)))):=⟨_,rfl⟩
   rw[<-hG]
   refine Loop.keep [1,37] Nat (fun i=>[(3,.bool (ptB G mn md cn cd i)),(40,.int .i64 i)]) (fun _=>[]) [] (fun i=>i<=4) (fun i=>4-i) ?_ ?_
   ·refine⟨0,by omega,?_⟩
    dsimp only[go_sem,reduceIte]
    simp only[Ya]
    exact⟨by decide,rfl,rfl⟩
   ·intro i hi
    rcases(by omega:i=0\/i=1\/i=2\/i=3\/i=4)with rfl|rfl|rfl|rfl|rfl
    ·dsimp only[Ybm,inSC,YE4,go_sem,reduceIte]
     simp only[Yd,YE5,YE3,reduceCtorEq,YE2]
     refine⟨fun _=>⟨by decide,1,by decide,by decide,?_⟩,fun hh=>absurd (by decide) hh⟩
     simp only[Ya]
     exact⟨by decide,rfl,rfl⟩
    ·dsimp only[Ybm,inSC,YE4,go_sem,reduceIte]
     simp only[Yd,YE5,YE3,reduceCtorEq,YE2]
     refine⟨fun _=>⟨by decide,2,by decide,by decide,?_⟩,fun hh=>absurd (by decide) hh⟩
     simp only[Ya]
     exact⟨by decide,rfl,rfl⟩
    ·dsimp only[Ybm,inSC,YE4,go_sem,reduceIte]
     simp only[Yd,YE5,YE3,reduceCtorEq,YE2]
     refine⟨fun _=>⟨by decide,3,by decide,by decide,?_⟩,fun hh=>absurd (by decide) hh⟩
     simp only[Ya]
     exact⟨by decide,rfl,rfl⟩
    ·dsimp only[Ybm,inSC,YE4,go_sem,reduceIte]
     simp only[Yd,YE5,YE3,reduceCtorEq,YE2]
     refine⟨fun _=>⟨by decide,4,by decide,by decide,?_⟩,fun hh=>absurd (by decide) hh⟩
     simp only[Ya]
     exact⟨by decide,rfl,rfl⟩
    ·dsimp only[Ybm,inSC,YE4,go_sem,reduceIte]
     simp only[Yd,YE5,YE3,reduceCtorEq,YE2]
     refine⟨fun hh=>absurd hh (by decide),fun _=>?_⟩
     obtain⟨G2,hG2⟩:∃G2,G2=ptB G mn md cn cd 4:=⟨_,rfl⟩
     rw[<-hG2]
     refine Loop.keep [1,48,0] Nat (fun i=>[(3,.bool ((bs.take i).foldl stepG (G2, -1)).1),(6,.int .i64 ((bs.take i).foldl stepG (G2, -1)).2),(52,.int .i64 i)]) (fun _=>[]) [] (fun i=>i<=bs.length) (fun i=>bs.length-i) ?_ ?_
     ·refine⟨0,by omega,?_⟩
      dsimp only[go_sem,reduceIte]
      simp only[Ya]
      exact⟨by decide,rfl,rfl,rfl⟩
     ·intro i hi
      dsimp only[Ybm,inSC,enc2,YE4,go_sem,reduceIte]
      simp only[Yd,YE5,YE3,reduceCtorEq,YE2]
      refine⟨fun hlt=>⟨⟨by omega,by omega⟩,i+1,by omega,by omega,?_⟩,fun hge=>?_⟩
      ·rw[Yp (by omega),YE7 ((i:Int)+1) (by omega)]
       simp only[Ya]
       exact⟨by decide,rfl,rfl,rfl⟩
      ·obtain rfl:i=bs.length:=by omega
       rw[YF4,Ynt]
       have e:okS ⟨d,c,bs,mn,md,cn,cd⟩=(G2&&benL bs (-1)&&decide (mn<md)):=by
        have hp:ptB G mn md cn cd 4=(G&&Ybe mn&&Ybe md&&Ybe cn&&Ybe cd):=rfl
        rw[hG2,hp,hG,okS]
        have e1:decide (bs≠ [])=decide (0<(bs.length:Int)):=by
         cases bs with
         |nil=>rfl
         |cons b r=>rw[decide_eq_true (by simp),decide_eq_true (by rw[YF6];omega)]
        simp only
        rw[e1]
        by_cases hd:inS d 1000 500000=true
        ·have hd':=hd
         simp only[inS,YFd,decide_eq_true_eq]at hd'
         rw[YE7 (d-1) (by omega)]
        ·rw[Bool.not_eq_true]at hd
         rw[hd]
         simp only[Bool.and_false,YGi]
       rw[e]at h
       have e2:decide (md<=mn)= !decide (mn<md):=by
        by_cases hh:mn<md
        ·rw[decide_eq_true hh,decide_eq_false (by omega)];rfl
        ·rw[decide_eq_false hh,decide_eq_true (by omega)];rfl
       rw[e2,<-Bool.not_and]
       refine⟨fun hh=>?_,fun hh=>?_⟩
       ·rw[YFI]at hh
        rw[hh,if_neg (by decide)]at h;exact Yh h
       ·rw[Bool.not_eq_false']at hh
        rw[hh,if_pos rfl]at h;exact Yh h
 ·exact h.1.elim
theorem Ymj:∀(r:List (Int×Int))(last:Int),benL r last=true↔∀j,j<r.length->((r.getD j default).1<=139/\8<=(r.getD j default).2/\(r.getD j default).2<=64)/\(if j=0 then last else(r.getD (j-1) default).1)<(r.getD j default).1
 | [],last=>by simp [benL]
 |b::r,last=>by
  have ih:=Ymj r b.1
  simp only[benL,inS,YFd,decide_eq_true_eq]
  constructor
  ·rintro⟨⟨⟨h1,h2⟩,h3,h4⟩,h5⟩ j hj
   cases j with
   |zero=>exact⟨⟨h2,h3,h4⟩,h1⟩
   |succ j=>
    have:=ih.1 h5 j (by simpa using hj)
    refine⟨this.1,?_⟩
    cases j with
    |zero=>exact this.2
    |succ j=>exact this.2
  ·intro h
   have h0:=h 0 (by simp)
   refine⟨⟨⟨h0.2,h0.1.1⟩,h0.1.2⟩,ih.2 fun j hj=>?_⟩
   have:=h (j+1) (by simpa using hj)
   refine⟨this.1,?_⟩
   cases j with
   |zero=>exact this.2
   |succ j=>exact this.2
theorem Ymi(r:List (Int×Int)):benL r (-1)=true↔∀j,j<r.length->(0<=(r.getD j default).1/\(r.getD j default).1<=139/\8<=(r.getD j default).2/\(r.getD j default).2<=64)/\(0<j->(r.getD (j-1) default).1<(r.getD j default).1):=by
 rw[Ymj]
 constructor
 ·intro h j
  induction j with
  |zero=>
   intro hj
   have:=h 0 hj
   simp only[if_pos]at this
   exact⟨by omega,fun hh=>absurd hh (by decide)⟩
  |succ j ih=>
   intro hj
   have h1:=h (j+1) hj
   have h2:=ih (by omega)
   rw[if_neg (by omega)]at h1
   simp only[Nat.add_sub_cancel]at h1⊢
   exact⟨by omega,fun _=>h1.2⟩
 ·intro h j hj
  have h1:=h j hj
  refine⟨h1.1.2,?_⟩
  by_cases c:j=0
  ·rw[if_pos c];omega
  ·rw[if_neg c];exact h1.2 (by omega)
def SK02:Env:={ ct:=fun n=>match n with|28=>some partSC|_=>none,fn:=fun _=>none,meth:=fun _ _=>none}
theorem YoF:SK02.ct 28=some partSC:=rfl
theorem Ywn:Yu YE8 SK02:=by
 refine⟨fun f c h=>?_,fun f vf h=>?_,(fun _ _ _ h=>by cases h),by kernel_rfl,(fun _ h=>by cases h)⟩
 ·simp only[SK02]at h
  split at h
  ·cases h;exact⟨Yyh,Tryz.f28,Tryz.func28,by kernel_rfl,by kernel_rfl⟩
  ·cases h
 ·cases h
theorem Yrx:chkLC.ok YE8 11:=by
 refine Yb Tryz.func11 YDV Ywn 400 chkLC fun args k h=>?_
 simp only[chkLC]at h
 split at h
 ·rename_i d c tt z n sz get mn md cn cd
  obtain⟨bs,⟨⟨rfl,rfl,hg⟩,hn⟩,h⟩:=h
  refine⟨[.agg [.int .i64 d,.int .i64 c,.vs tt z bs.length 2 (fun k=>enc2 (bs.getD k default)),.int .i64 mn,.int .i64 md,.int .i64 cn,.int .i64 cd]],⟨⟨⟨rfl,rfl⟩,⟨rfl,rfl⟩,⟨id,rfl,rfl,rfl,hg⟩,⟨rfl,rfl⟩,⟨rfl,rfl⟩,⟨rfl,rfl⟩,⟨rfl,rfl⟩,trivial⟩,trivial⟩,?_⟩
  dsimp only[v11,enc2,go_sem,reduceIte]
  simp only[Yd,YE5,YE3,reduceCtorEq,YE2]
  refine⟨fun hc=>?_,fun hc=>?_⟩
  ·rw[chkL,if_pos (by simp only;omega)]at h;exact Yh h
  ·rw[chkL,if_neg (by simp only;omega)]at h
   refine Loop.keep [1] Nat (fun i=>[(3,.int .i64 i)]) (fun _=>[]) [] (fun i=>i<=bs.length/\∀j,j<i->(0<=(bs.getD j default).1/\(bs.getD j default).1<=139/\8<=(bs.getD j default).2/\(bs.getD j default).2<=64)/\(0<j->(bs.getD (j-1) default).1<(bs.getD j default).1)) (fun i=>bs.length-i) ?_ ?_
   ·refine⟨0,⟨by omega,fun j hj=>by omega⟩,?_⟩
    dsimp only[go_sem,reduceIte]
    simp only[Ya]
    exact⟨by decide,rfl⟩
   ·rintro i ⟨hi,hall⟩
    dsimp only[YoF,partSC,enc2,YE4,go_sem,reduceIte]
    simp only[Yd,YE5,YE3,reduceCtorEq,YE2]
    refine⟨fun hlt=>⟨⟨by omega,by omega⟩,fun hh=>?_,fun h1 h2=>by rw[h1,decide_eq_true h2];rfl,fun hh=>?_,fun hh=>?_⟩,fun hge=>?_⟩
    ·rw[YFd,decide_eq_true_eq]at hh
     rw[YE7 ((i:Int)-1) (by omega)]
     exact⟨by omega,by omega⟩
    ·have e:okS ⟨d,c,bs,mn,md,cn,cd⟩≠true:=fun ho=>by
      simp only[okS,YFd]at ho
      have:=(Ymi bs).1 ho.1.2 i (by omega)
      simp only[YF5,YFd,decide_eq_true_eq]at hh
      rcases hh with hh|hh
      ·omega
      ·rw[YE7 ((i:Int)-1) (by omega),show((i:Int)-1).toNat=i-1 by omega]at hh
       have:=this.2 (by omega)
       omega
     rw[if_neg e]at h;exact Yh h
    ·simp only[Bool.or_eq_false_iff,YFZ,decide_eq_false_iff_not]at hh
     refine⟨i+1,⟨by omega,fun j hj=>?_⟩,by omega,?_⟩
     ·by_cases hji:j<i
      ·exact hall j hji
      ·obtain rfl:j=i:=by omega
       refine⟨by omega,fun h0=>?_⟩
       rcases hh.2 with h3|h3
       ·omega
       ·rw[YE7 ((j:Int)-1) (by omega),show((j:Int)-1).toNat=j-1 by omega]at h3
        omega
     ·rw[YE7 ((i:Int)+1) (by omega)]
      simp only[Ya]
      exact⟨by decide,rfl⟩
    ·obtain rfl:i=bs.length:=by omega
     have hb:=(Ymi bs).2 hall
     have e:okS ⟨d,c,bs,mn,md,cn,cd⟩=((!(decide ((bs.length:Int)=0) || decide (d<1000) || decide (500000<d) || decide (c<0) || decide (50000<c) || decide (d<=c)))&& !(!Ybe mn|| !Ybe md|| !Ybe cn|| !Ybe cd|| decide (md<=mn))):=by
      rw[Bool.eq_iff_iff]
      simp only[okS,hb,inS,<-List.length_eq_zero_iff,YFd,YFI,Bool.or_eq_false_iff,Bool.not_eq_false',decide_eq_true_eq,decide_eq_false_iff_not,ne_eq]
      constructor
      ·rintro⟨⟨⟨⟨⟨⟨⟨⟨h1,h2⟩,h3⟩,h4⟩,h5⟩,h6⟩,h7⟩,_⟩,h8⟩
       exact⟨⟨⟨⟨⟨⟨by omega,by omega⟩,by omega⟩,by omega⟩,by omega⟩,by omega⟩,⟨⟨⟨h4,h5⟩,h6⟩,h7⟩,by omega⟩
      ·rintro⟨⟨⟨⟨⟨⟨h1,h2⟩,h3⟩,h4⟩,h5⟩,h6⟩,⟨⟨⟨h7,h8⟩,h9⟩,h10⟩,h11⟩
       exact⟨⟨⟨⟨⟨⟨⟨⟨by omega,by omega⟩,by omega⟩,h7⟩,h8⟩,h9⟩,h10⟩,trivial⟩,by omega⟩
     rw[e]at h
     refine⟨fun hh=>?_,fun hh=>⟨fun hx=>?_,fun hx=>?_⟩⟩
     ·rw[hh,if_neg (by simp)]at h;exact Yh h
     ·rw[hx,if_neg (by simp)]at h;exact Yh h
     ·rw[hh,hx,if_pos (by decide)]at h;exact Yh h
 ·exact h.1.elim
def v41:VF:=⟨37,[.cell 4 false 1,.cell 5 false 1],(ZR [u1 2 .box [.tm 0],u1 4 (.alloc [(.int .i64 0)]) [],u1 5 (.alloc [(.int .i64 0)]) []] (.scope (ZR [u0 (.store 1) [.tm 5,.cn (.int .i64 1)]] (ZR [u1 6 (.alloc [(.int .i64 0)]) [],u1 7 (.alloc [(.int .i64 0)]) [],u0 (.store 1) [.tm 6,.cn (.int .i64 0)],u0 (.store 1) [.tm 7,.cn (.int .i64 0)]] (ZR [u1 11 (.mkfn (.func 65) 0) [.tm 7,.tm 4,.tm 6,.tm 5],Zm 8 11] (.seq .skip (.seq (ZR [Za 12 2 2,Zf 13 1 12,Zl 14 13,Zi 15 0] (.block 0 (.loop (ZR [Zr 16 .lss 15 14] (.seq (ZC 16 .skip (.exit 0)) (.seq (.block 1 (ZR [Zx 17 2 13 15,Zt 18 2 17,Zn 10,Zs 2 10 18] (.seq (ZR [Za 19 0 10,Zf 20 1 19,Zm 21 1,Zr 22 .geq 20 21] (ZC 22 (.exit 0) .skip)) (ZR [Zm 23 8,Za 24 0 10,Zf 25 1 24,u1 26 .callv [.tm 23,.tm 25]] (.draw [] [Zy 27 0 10,Zv 28 1 27,Zy 29 1 10,Zv 30 1 29,⟨Zs 1 6 28,[.tm 29]⟩,ZS 1 7 30]))))) (.region [Zp 31 15 1,Zm 15 31]))))))) (ZR [Zm 32 8,Zm 33 1,u1 34 .callv [.tm 32,.tm 33]] (.seq (.draw [] [Zv 35 1 4,Zv 36 1 5,⟨Zs 1 4 35,[.tm 5]⟩,ZS 1 5 36]) .ret)))))))))⟩
theorem YEd:Yg YE8 Tryz.f41=some v41:=by kernel_rfl
def v65:VF:=⟨20,[],(ZR [Zf 6 1 1,Zq 7 .gtr 6 0] (ZC 7 (.draw [] [Zv 8 1 2,Zv 9 1 1,w1 10 (.ari .mul) [.tm 8,.tm 9],Zu 11 0,Zv 12 1 3,w1 13 (.ari .sub) [.tm 11,.tm 12],Zv 14 1 4,w1 15 (.ari .mul) [.tm 13,.tm 14],w1 16 (.ari .add) [.tm 10,.tm 15],Zv 17 1 4,Zv 18 1 1,w1 19 (.ari .mul) [.tm 17,.tm 18],⟨Zs 1 2 16,[.tm 4,.tm 1]⟩,ZS 1 4 19]) .skip))⟩
theorem YEt:Yg YE8 Tryz.f65=some v65:=by kernel_rfl
def v20:VF:=⟨48,[.cell 4 true 2],(ZR [u1 2 .box [.tm 0],Zn 4] (ZR [Zt 12 7 2,Zm 13 1,Zd 14 41 12 13,Zm 11 14,Ze 15 0 11,Ze 16 1 11,Zm 5 15,Zm 6 16] (ZR [Za 18 0 2,Zf 19 1 18,Za 20 1 2,Zf 21 1 20,Zo 22 .sub 19 21,Zm 23 5,u1 24 .neg [.tm 23],u1 25 (.build [(.int .i64 0),(.int .i64 0)] [(0,1),(1,1)]) [.cn (.int .i64 2),.tm 24],u1 26 (.buildSlice 2 1 [(.int .i64 0),(.int .i64 0)] [(0,2)]) [.tm 25],Zm 27 6,u1 28 (.call 42) [.tm 22,.tm 26,.tm 27],Zm 17 28,Ze 29 0 17,Ze 30 1 17,Ze 31 2 17,Zm 7 29,Zm 8 30,Zm 9 31] (ZR [Za 32 1 2,Zf 33 1 32,Zm 34 7,Zo 35 .add 33 34,Za 36 1 2,Zf 37 1 36,Zm 38 7,Zo 39 .add 37 38,u1 40 (.build [(.int .i64 0),(.int .i64 0)] [(0,1),(1,1)]) [.tm 35,.tm 39],Zn 10,Zs 2 10 40] (.seq (ZR [Zm 41 8,u1 42 .not [.tm 41]] (ZC 42 (.region [Za 43 1 10,Zf 44 1 43,Zp 45 44 1,Za 46 1 10,Zs 1 46 45]) .skip)) (ZR [Zt 47 2 10,Zs 2 4 47] .ret))))))⟩
theorem YD1:Yg YE8 Tryz.f20=some v20:=by kernel_rfl
def v6:VF:=⟨18,[.cell 4 true 2,.tmp 5],(ZR [u1 2 .box [.tm 0],Zn 4,Zi 5 0] (.seq (ZR [Zt 7 7 2,Zm 8 1,Zm 9 1,u1 10 (.call 19) [.tm 7,.tm 8,.tm 9],Zm 6 10] (ZR [Zm 11 6,Zq 12 .neq 11 0] (ZC 12 (ZR [u1 13 (.build [(.int .i64 0),(.int .i64 0)] []) [],Zm 14 6,Zs 2 4 13,Zm 5 14] .ret) .skip))) (ZR [Zt 15 7 2,Zm 16 1,Zd 17 20 15 16,Zs 2 4 17,Zi 5 0] .ret)))⟩
theorem v6_is:Yg YE8 Tryz.f6=some v6:=by kernel_rfl
theorem YbS{α:Type}[Inhabited α]{l:List α}{i:Nat}(h:i<l.length):l.drop i=l.getD i default::l.drop (i+1):=by
 rw[List.drop_eq_getElem_cons h,YFf,List.getElem?_eq_getElem h];rfl
theorem Ybn{k:SV->List HO->Prop}{al:Bool}{hp:List HO}{κ κ':IntKind}{x y:Int}(h:k (.tup [.int κ x,.int κ' y]) []):YK al k (.tup [.int κ x,.int κ' y]) hp:=
 YE (show k _ []from h) (YB (.tup [.int κ x,.int κ' y]) ⟨trivial,trivial,trivial⟩) (fun _=>by simp [Yt,Ys])
theorem YhM{k:SV->List HO->Prop}{al:Bool}{hp:List HO}{x y:Int}(h:k (.agg [.int .i64 x,.int .i64 y]) []):YK al k (.agg [.int .i64 x,.int .i64 y]) hp:=
 YE (show k _ []from h) (YB (.agg [.int .i64 x,.int .i64 y]) ⟨trivial,trivial,trivial⟩) (fun _=>by simp [Yt,Ys])
theorem YhN{k:SV->List HO->Prop}{al:Bool}{hp:List HO}{x y e:Int}(h:k (.tup [.agg [.int .i64 x,.int .i64 y],.int .i64 e]) []):YK al k (.tup [.agg [.int .i64 x,.int .i64 y],.int .i64 e]) hp:=
 YE (show k _ []from h) (YB (.tup [.agg [.int .i64 x,.int .i64 y],.int .i64 e]) ⟨⟨trivial,trivial,trivial⟩,trivial,trivial⟩) (fun _=>by simp [Yt,Ys])
def askC:Ctr:={ alias:=false,of:=fun l=>match l with
 | [.agg [.int .i64 d,.int .i64 c,.vs _ _ n sz get,.int .i64 mn,.int .i64 md,.int .i64 cn,.int .i64 cd],.int .i64 low,.int .i64 high]=>
   .ex (List (Int×Int)) fun bs=> .pre (lsP 2 enc2 n sz get bs/\n<=9223372036854775807) (.fin (.int .i64 (askS ⟨d,c,bs,mn,md,cn,cd⟩ low high)) [])
 |_=>noC}
def SK10:Env:={ ct:=fun n=>match n with|10=>some chkLC|39=>some hasC|_=>none,fn:=fun _=>none,meth:=fun _ _=>none}
theorem YoG:SK10.ct 10=some chkLC:=rfl
theorem YoH:SK10.ct 39=some hasC:=rfl
theorem Ywo:Yu YE8 SK10:=by
 refine⟨fun f c h=>?_,fun f vf h=>?_,(fun _ _ _ h=>by cases h),by kernel_rfl,(fun _ h=>by cases h)⟩
 ·simp only[SK10]at h
  split at h
  ·cases h;exact⟨Ypx,Tryz.f10,Tryz.func10,by kernel_rfl,by kernel_rfl⟩
  ·cases h;exact⟨Yu8,Tryz.f39,Tryz.func39,by kernel_rfl,by kernel_rfl⟩
  ·cases h
 ·cases h
theorem YwE:askC.ok YE8 19:=by
 refine Yb Tryz.func19 YD0 Ywo 300 askC fun args k h=>?_
 simp only[askC]at h
 split at h
 ·rename_i d c tt z n sz get mn md cn cd low high
  obtain⟨bs,⟨⟨rfl,rfl,hg⟩,hn⟩,h⟩:=h
  refine⟨[.agg [.int .i64 d,.int .i64 c,.vs tt z bs.length 2 (fun k=>enc2 (bs.getD k default)),.int .i64 mn,.int .i64 md,.int .i64 cn,.int .i64 cd],.int .i64 low,.int .i64 high],⟨⟨⟨rfl,rfl⟩,⟨rfl,rfl⟩,⟨id,rfl,rfl,rfl,hg⟩,⟨rfl,rfl⟩,⟨rfl,rfl⟩,⟨rfl,rfl⟩,⟨rfl,rfl⟩,trivial⟩,⟨rfl,rfl⟩,⟨rfl,rfl⟩,trivial⟩,?_⟩
  dsimp only[v19,YoG,YoH,chkLC,hasC,enc2,go_sem,reduceIte]
  simp only[Yd,YE5,YE3,reduceCtorEq,YE2]
  have self:lsP 2 enc2 bs.length 2 (fun k=>[SV.int IntKind.i64 (bs.getD k default).fst,SV.int IntKind.i64 (bs.getD k default).snd]) bs:=⟨rfl,rfl,fun k _=>Yc _⟩
  refine⟨bs,⟨self,hn⟩,fun hc=>?_,fun hc=>?_⟩
  ·rw[askS,if_pos hc]at h;exact Yh h
  ·rw[askS,if_neg (by rw[hc];decide)]at h
   have hl:=(Ya5 hc).1
   refine⟨bs,⟨self,hl,hn⟩,bs,fun _=>⟨self,hl,hn⟩,fun hh=>?_,fun hh=>?_⟩
   ·rw[if_pos hh]at h;exact Yh h
   ·rw[if_neg (by rw[hh];decide)]at h;exact Yh h
 ·exact h.1.elim
def expC:Ctr:={ alias:=false,of:=fun l=>match l with
 | [.agg [.int .i64 d,.int .i64 c,.vs _ _ n sz get,.int .i64 mn,.int .i64 md,.int .i64 cn,.int .i64 cd],.int .i64 note]=>
   .ex (List (Int×Int)) fun bs=> .pre (lsP 2 enc2 n sz get bs/\n<=9223372036854775807) (.fin (.tup [.int .i64 (expF bs note).1,.int .i64 (expF bs note).2]) [])
 |_=>noC}
def SK11:Env:={ ct:=fun _=>none,fn:=fun n=>match n with|65=>some v65|_=>none,meth:=fun _ _=>none}
theorem Yjd:SK11.ct 65=none:=rfl
theorem Yje:SK11.fn 65=some v65:=rfl
theorem Ywp:Yu YE8 SK11:=by
 refine⟨fun f c h=>?_,fun f vf h=>?_,(fun _ _ _ h=>by cases h),by kernel_rfl,(fun _ h=>by cases h)⟩
 ·cases h
 ·simp only[SK11]at h
  split at h
  ·cases h;exact⟨Tryz.f65,Tryz.func65,YEt,Tryz.f65,Tryz.func65,by kernel_rfl,by kernel_rfl⟩
  ·cases h
theorem exp_c:expC.ok YE8 41:=by
 refine Yb Tryz.func41 YEd Ywp 500 expC fun args k h=>?_
 simp only[expC]at h
 split at h
 ·rename_i d c tt z n sz get mn md cn cd note
  obtain⟨bs,⟨⟨rfl,rfl,hg⟩,hn⟩,h⟩:=h
  refine⟨[.agg [.int .i64 d,.int .i64 c,.vs tt z bs.length 2 (fun k=>enc2 (bs.getD k default)),.int .i64 mn,.int .i64 md,.int .i64 cn,.int .i64 cd],.int .i64 note],⟨⟨⟨rfl,rfl⟩,⟨rfl,rfl⟩,⟨id,rfl,rfl,rfl,hg⟩,⟨rfl,rfl⟩,⟨rfl,rfl⟩,⟨rfl,rfl⟩,⟨rfl,rfl⟩,trivial⟩,⟨rfl,rfl⟩,trivial⟩,?_⟩
  dsimp only[v41,Yjd,Yje,v65,enc2,go_sem,reduceIte]
  simp only[Yd,YE5,YE3,reduceCtorEq,YE2]
  obtain⟨R,hR⟩:∃R,R=expF bs note:=⟨_,rfl⟩
  rw[<-hR]at h
  refine Loop.keep [1,2,0,0,0,0,4,0] (Exn×Nat) (fun s=>[(15,.int .i64 s.2)]) (fun s=>[(1,.box [.int .i64 s.1.n]),(2,.box [.int .i64 s.1.d]),(3,.box [.int .i64 s.1.f]),(4,.box [.int .i64 s.1.h])]) [] (fun s=>s.2<=bs.length/\R=expL note (bs.drop s.2) s.1) (fun s=>bs.length-s.2) ?_ ?_
  ·refine⟨(⟨0,0,0,1⟩,0),⟨by simp,hR⟩,?_⟩
   dsimp only[go_sem,reduceIte]
   simp only[Ya]
   decide
  ·rintro⟨e,i⟩ ⟨hi,hinv⟩
   dsimp only at hi hinv
   dsimp only[Yjd,Yje,v65,enc2,YE4,go_sem,reduceIte]
   simp only[Yd,YE5,YE3,reduceCtorEq,YE2]
   refine⟨fun hlt=>⟨⟨by omega,by omega⟩,fun hb=>?_,fun hb=>⟨fun hh=>?_,fun hh=>?_⟩⟩,fun hge=>?_⟩
   ·rw[YbS (by omega:i<bs.length),expL,if_pos hb]at hinv
    rw[hinv]at h
    refine⟨fun hh=>?_,fun hh=>?_⟩
    ·rw[addE,if_pos hh]at h;exact Ybn h
    ·rw[addE,if_neg hh]at h;exact Ybn h
   ·rw[YbS (by omega:i<bs.length),expL,if_neg hb,addE,if_pos hh]at hinv
    refine⟨(_,i+1),⟨by simp only;omega,hinv⟩,by simp only;omega,?_⟩
    rw[YE7 ((i:Int)+1) (by omega)]
    simp only[Ya]
    exact⟨by decide,by decide,by decide,by decide,by decide,rfl⟩
   ·rw[YbS (by omega:i<bs.length),expL,if_neg hb,addE,if_neg hh]at hinv
    refine⟨(_,i+1),⟨by simp only;omega,hinv⟩,by simp only;omega,?_⟩
    rw[YE7 ((i:Int)+1) (by omega)]
    simp only[Ya]
    exact⟨by decide,by decide,by decide,by decide,by decide,rfl⟩
   ·obtain rfl:i=bs.length:=by omega
    rw[List.drop_length,expL]at hinv
    rw[hinv]at h
    refine⟨fun hh=>?_,fun hh=>?_⟩
    ·rw[addE,if_pos hh]at h;exact Ybn h
    ·rw[addE,if_neg hh]at h;exact Ybn h
 ·exact h.1.elim
def diaC:Ctr:={ alias:=false,of:=fun l=>match l with
 | [.agg [.int .i64 d,.int .i64 c,.vs _ _ n sz get,.int .i64 mn,.int .i64 md,.int .i64 cn,.int .i64 cd],.int .i64 note]=>
   .ex (List (Int×Int)) fun bs=> .pre (lsP 2 enc2 n sz get bs/\chkL ⟨d,c,bs,mn,md,cn,cd⟩=0/\0<=note/\note<=139) (.fin (.agg (enc2 (diaS ⟨d,c,bs,mn,md,cn,cd⟩ note))) [])
 |_=>noC}
def SK12:Env:={ ct:=fun n=>match n with|41=>some expC|42=>some prodC|_=>none,fn:=fun _=>none,meth:=fun _ _=>none}
theorem YoI:SK12.ct 41=some expC:=rfl
theorem YoJ:SK12.ct 42=some prodC:=rfl
theorem Ywq:Yu YE8 SK12:=by
 refine⟨fun f c h=>?_,fun f vf h=>?_,(fun _ _ _ h=>by cases h),by kernel_rfl,(fun _ h=>by cases h)⟩
 ·simp only[SK12]at h
  split at h
  ·cases h;exact⟨exp_c,Tryz.f41,Tryz.func41,by kernel_rfl,by kernel_rfl⟩
  ·cases h;exact⟨YCI,Tryz.f42,Tryz.func42,by kernel_rfl,by kernel_rfl⟩
  ·cases h
 ·cases h
theorem YpI:diaC.ok YE8 20:=by
 refine Yb Tryz.func20 YD1 Ywq 500 diaC fun args k h=>?_
 simp only[diaC]at h
 split at h
 ·rename_i d c tt z n sz get mn md cn cd note
  obtain⟨bs,⟨⟨rfl,rfl,hg⟩,hs,hnote⟩,h⟩:=h
  refine⟨[.agg [.int .i64 d,.int .i64 c,.vs tt z bs.length 2 (fun k=>enc2 (bs.getD k default)),.int .i64 mn,.int .i64 md,.int .i64 cn,.int .i64 cd],.int .i64 note],⟨⟨⟨rfl,rfl⟩,⟨rfl,rfl⟩,⟨id,rfl,rfl,rfl,hg⟩,⟨rfl,rfl⟩,⟨rfl,rfl⟩,⟨rfl,rfl⟩,⟨rfl,rfl⟩,trivial⟩,⟨rfl,rfl⟩,trivial⟩,?_⟩
  dsimp only[v20,YoI,YoJ,expC,prodC,enc2,go_sem,reduceIte]
  simp only[Yd,YE5,YE3,reduceCtorEq,YE2]
  have hr:=YiF hs
  simp only at hr
  obtain⟨_,x1,x2,x3,x4⟩:=Yif hs hnote
  simp only at x1 x2 x3 x4
  have k1:note*(expF bs note).2<=139*262144:=YcO hnote.2 x4 hnote.1 (by decide)
  have e1:IntKind.i64.wrap (d-c)=d-c:=YE7 _ (by omega)
  have e2:IntKind.i64.wrap (0-(expF bs note).1)= -(expF bs note).1:=by rw[YE7 _ (by omega)];omega
  have hro:0<=(YgQ (d-c) (expF bs note).1 (expF bs note).2).1/\(YgQ (d-c) (expF bs note).1 (expF bs note).2).1<=500000:=Yuj hs hnote
  refine⟨bs,⟨⟨rfl,rfl,fun k _=>Yc _⟩,?_⟩,by decide,by decide,by decide,[(2, -(expF bs note).1)],⟨?_,?_,⟨by omega,by omega⟩,by omega,by omega⟩,by decide,by decide,by decide,?_⟩
  ·have:=(Ya5 hs).2.1
   simp only at this;omega
  ·rw[e2]
   refine⟨rfl,rfl,fun k hk=>?_⟩
   obtain rfl:k=0:=by omega
   exact Yc _
  ·intro x hx
   rw[YFO]at hx
   subst hx
   simp only[okT0,Bool.or_eq_false_iff,decide_eq_false_iff_not]
   omega
  ·rw[e1]
   have e3:(Ygo (d-c) [(2, -(expF bs note).1)] (expF bs note).2).1=(YgQ (d-c) (expF bs note).1 (expF bs note).2).1:=rfl
   have e4:(Ygo (d-c) [(2, -(expF bs note).1)] (expF bs note).2).2.1=(YgQ (d-c) (expF bs note).1 (expF bs note).2).2:=rfl
   rw[e3,e4]
   unfold diaS at h
   simp only at h
   generalize YgQ (d-c) (expF bs note).1 (expF bs note).2=r at*
   have e5:IntKind.i64.wrap (c+r.1)=c+r.1:=YE7 _ (by omega)
   have e6:IntKind.i64.wrap (c+r.1+1)=c+r.1+1:=YE7 _ (by omega)
   rw[e5,e6]
   refine⟨fun hh=>?_,fun hh=>?_⟩
   ·rw[if_neg (by rw[hh];decide)]at h
    exact YhM h
   ·rw[if_pos hh]at h
    exact YhM h
 ·exact h.1.elim
def diaFC:Ctr:={ alias:=false,of:=fun l=>match l with
 | [.agg [.int .i64 d,.int .i64 c,.vs _ _ n sz get,.int .i64 mn,.int .i64 md,.int .i64 cn,.int .i64 cd],.int .i64 note]=>
   .ex (List (Int×Int)) fun bs=> .pre (lsP 2 enc2 n sz get bs/\n<=9223372036854775807) (.fin (.tup [.agg (enc2 (diaF ⟨d,c,bs,mn,md,cn,cd⟩ note).1),.int .i64 (diaF ⟨d,c,bs,mn,md,cn,cd⟩ note).2]) [])
 |_=> .pre False (.fin (.tup [.agg [.int .i64 0,.int .i64 0],.int .i64 0]) [])}
theorem Yph{s:Scl}{low high:Int}(h:askS s low high=0):chkL s=0/\(YcG s<=low/\low<=139)/\(YcG s<=high/\high<=139)/\low<=high:=by
 unfold askS at h
 split at h
 ·rename_i h1;exact absurd h h1
 ·rename_i h1
  split at h
  ·cases h
  ·rename_i h2
   simp only[YF5,YFI,hasS,YFZ,decide_eq_false_iff_not,decide_eq_true_eq,not_or,Decidable.not_not]at h2
   exact⟨by simpa using h1,by omega⟩
theorem Ybr{s:Scl}(h:chkL s=0):0<=YcG s/\YcG s<=139:=by
 obtain⟨h1,_,h3⟩:=Ya5 h
 simp only[okS,YFd]at h3
 have:=((Ymi s.bs).1 h3.1.2 0 h1).1
 unfold YcG;omega
def SK13:Env:={ ct:=fun n=>match n with|19=>some askC|20=>some diaC|_=>none,fn:=fun _=>none,meth:=fun _ _=>none}
theorem YoK:SK13.ct 19=some askC:=rfl
theorem YoL:SK13.ct 20=some diaC:=rfl
theorem Ywr:Yu YE8 SK13:=by
 refine⟨fun f c h=>?_,fun f vf h=>?_,(fun _ _ _ h=>by cases h),by kernel_rfl,(fun _ h=>by cases h)⟩
 ·simp only[SK13]at h
  split at h
  ·cases h;exact⟨YwE,Tryz.f19,Tryz.func19,by kernel_rfl,by kernel_rfl⟩
  ·cases h;exact⟨YpI,Tryz.f20,Tryz.func20,by kernel_rfl,by kernel_rfl⟩
  ·cases h
 ·cases h
theorem YuT:diaFC.ok YE8 6:=by
 refine Yb Tryz.func6 v6_is Ywr 300 diaFC fun args k h=>?_
 simp only[diaFC]at h
 split at h
 ·rename_i d c tt z n sz get mn md cn cd note
  obtain⟨bs,⟨⟨rfl,rfl,hg⟩,hn⟩,h⟩:=h
  refine⟨[.agg [.int .i64 d,.int .i64 c,.vs tt z bs.length 2 (fun k=>enc2 (bs.getD k default)),.int .i64 mn,.int .i64 md,.int .i64 cn,.int .i64 cd],.int .i64 note],⟨⟨⟨rfl,rfl⟩,⟨rfl,rfl⟩,⟨id,rfl,rfl,rfl,hg⟩,⟨rfl,rfl⟩,⟨rfl,rfl⟩,⟨rfl,rfl⟩,⟨rfl,rfl⟩,trivial⟩,⟨rfl,rfl⟩,trivial⟩,?_⟩
  dsimp only[v6,YoK,YoL,askC,diaC,enc2,go_sem,reduceIte]
  simp only[Yd,YE5,YE3,reduceCtorEq,YE2]
  have self:lsP 2 enc2 bs.length 2 (fun k=>[SV.int IntKind.i64 (bs.getD k default).fst,SV.int IntKind.i64 (bs.getD k default).snd]) bs:=⟨rfl,rfl,fun k _=>Yc _⟩
  refine⟨bs,⟨self,hn⟩,fun hc=>?_,fun hc=>?_⟩
  ·rw[diaF,if_pos hc]at h;exact YhN h
  ·rw[diaF,if_neg (by rw[hc];decide)]at h
   obtain⟨a1,a2,_⟩:=Yph hc
   have:=Ybr a1
   refine⟨bs,⟨self,a1,by omega,a2.2⟩,?_⟩
   (try simp only[Yd,YE5,YE3,reduceCtorEq,YE2])
   exact YhN h
 ·exact h.1.elim
set_option maxHeartbeats 8000000
def v72:VF:=⟨12,[.tmp 4],(ZR [Zi 4 0] (.seq (.block 0 (.loop (.seq (ZR [Zm 5 1,Zq 6 .gtr 5 0] (ZC 6 .skip (.exit 0))) (.block 1 (.draw [] [Zu 7 1,Zu 8 0,Zu 9 1,w1 10 .rem [.tm 8,.tm 9],Zu 0 7,Zu 1 10]))))) (ZR [Zm 11 0,Zm 4 11] .ret)))⟩
theorem YEA:Yg YE8 Tryz.f72=some v72:=by kernel_rfl
def v44:VF:=⟨79,[.tmp 4,.tmp 5],(ZR [u1 2 .box [.tm 0],Zi 4 0,Zi 5 0] (ZR [Zi 6 0,Zi 7 1] (.seq (ZR [Zi 8 0] (.block 0 (.loop (.seq (ZR [Zm 12 8,Za 13 2 2,Zf 14 1 13,Zl 15 14,Zr 16 .lss 12 15,Zm 17 16,Zj 18 17 true 2 2,Zh 19 17 true 1 18,Zg 20 17 true 8,u2 21 17 true (.idxAddr 2) [.tm 19,.tm 20],Zj 22 17 true 0 21,Zh 23 17 true 1 22,Zg 24 17 true 1,u2 25 17 true (.cmp .lss) [.tm 23,.tm 24],u1 26 .and [.tm 17,.tm 25]] (ZC 26 .skip (.exit 0))) (.seq (.block 1 (ZR [Zm 29 1,Zm 9 29] (.seq (ZR [Zm 30 8,Zp 31 30 1,Za 32 2 2,Zf 33 1 32,Zl 34 33,Zr 35 .lss 31 34] (ZC 35 (.region [Zm 36 9,Za 37 2 2,Zf 38 1 37,Zm 39 8,Zp 40 39 1,Zx 41 2 38 40,Za 42 0 41,Zf 43 1 42,u1 44 .min [.tm 36,.tm 43],Zm 9 44]) .skip)) (ZR [Za 45 2 2,Zf 46 1 45,Zm 47 8,Zx 48 2 46 47,Za 49 1 48,Zf 50 1 49,Zm 10 50] (ZR [Zm 51 6,Zm 52 10,Zo 53 .mul 51 52,Zm 54 9,Za 55 2 2,Zf 56 1 55,Zm 57 8,Zx 58 2 56 57,Za 59 0 58,Zf 60 1 59,Zo 61 .sub 54 60,Zm 62 7,Zo 63 .mul 61 62,Zo 64 .add 53 63,Zm 65 7,Zm 66 10,Zo 67 .mul 65 66,Zm 6 64,Zm 7 67] (ZR [Zm 68 6,Zm 69 7,Zd 70 72 68 69,Zm 11 70] (.draw [] [Zu 71 6,Zu 72 11,w1 73 .quo [.tm 71,.tm 72],Zu 74 7,Zu 75 11,w1 76 .quo [.tm 74,.tm 75],Zu 6 73,Zu 7 76]))))))) (.region [Zm 27 8,Zp 28 27 1,Zm 8 28])))))) (ZR [Zm 77 6,Zm 78 7,Zm 4 77,Zm 5 78] .ret))))⟩
theorem YEg:Yg YE8 Tryz.f44=some v44:=by kernel_rfl
def SR0:Env:={ ct:=fun _=>none,fn:=fun _=>none,meth:=fun _ _=>none}
theorem YAN:Yu YE8 SR0:=by
 refine⟨fun f c h=>?_,fun f vf h=>?_,(fun _ _ _ h=>by cases h),by kernel_rfl,(fun _ h=>by cases h)⟩
 ·cases h
 ·cases h
theorem YBR:gcdC.ok YE8 72:=by
 refine Yb Tryz.func72 YEA YAN 100 gcdC fun args k h=>?_
 simp only[gcdC]at h
 split at h
 ·rename_i a b
  obtain⟨x,y,⟨rfl,rfl,hx,hy⟩,h⟩:=h
  refine⟨[.int .i64 x,.int .i64 y],by simp [leL,le],?_⟩
  dsimp only[v72,go_sem,reduceIte]
  simp only[Yd,YE5,YE3,reduceCtorEq,YE2]
  refine Loop.keep [] (Nat×Nat) (fun s=>[(0,.int .i64 s.1),(1,.int .i64 s.2)]) (fun _=>[]) [] (fun s=>YF1 s.1 s.2=YF1 x y/\s.1<=9223372036854775807/\s.2<=9223372036854775807) (fun s=>s.2) ?_ ?_
  ·refine⟨(x,y),⟨rfl,hx,hy⟩,?_⟩
   dsimp only[go_sem,reduceIte]
   simp only[Ya]
  ·rintro⟨p,q⟩ ⟨he,hp,hq⟩
   dsimp only at he hp hq
   dsimp only[go_sem,reduceIte]
   simp only[Yd,YE5,YE3,reduceCtorEq,YE2]
   refine⟨fun hc=>⟨by omega,(q,p%q),⟨?_,by simp only;omega,?_⟩,?_,?_⟩,fun hc=>Yh ?_⟩
   ·rw[<-he,Nat.gcd_comm p q]
    show YF1 q (p%q)=YF1 q p
    rw[Nat.gcd_comm q (p%q),<-Nat.gcd_rec]
   ·have:=YFC p (by omega:0<q)
    simp only;omega
   ·exact YFC p (by omega:0<q)
   ·have e:(p:Int).tmod q=((p%q:Nat):Int):=YGr rfl rfl
    rw[e]
    simp only[Ya]
   ·obtain rfl:q=0:=by omega
    rw[Nat.gcd_zero_right]at he
    rw[he];exact h
 ·exact h.1.elim
def rexpC:Ctr:={ alias:=false,of:=fun l=>match l with
 | [.agg [.int .i64 d,.int .i64 c,.vs _ _ n sz get,.int .i64 mn,.int .i64 md,.int .i64 cn,.int .i64 cd],.int .i64 note]=>
   .ex (List (Int×Int)) fun bs=> .pre (lsP 2 enc2 n sz get bs/\chkL ⟨d,c,bs,mn,md,cn,cd⟩=0/\0<=note/\note<=139) (.all Nat fun x=> .all Nat fun y=> .imp (∃G j r,1<=G/\(((G*x:Nat):Int),((G*y:Nat):Int))=expF bs note/\Rex note (expF bs note) r j x y/\j<=3) (.fin (.tup [.int .i64 x,.int .i64 y]) []))
 |_=>noC}
def SR1:Env:={ ct:=fun n=>match n with|72=>some gcdC|_=>none,fn:=fun _=>none,meth:=fun _ _=>none}
theorem Yl9:SR1.ct 72=some gcdC:=rfl
theorem YAO:Yu YE8 SR1:=by
 refine⟨fun f c h=>?_,fun f vf h=>?_,(fun _ _ _ h=>by cases h),by kernel_rfl,(fun _ h=>by cases h)⟩
 ·simp only[SR1]at h
  split at h
  ·cases h;exact⟨YBR,Tryz.f72,Tryz.func72,by kernel_rfl,by kernel_rfl⟩
  ·cases h
 ·cases h
theorem YDz:rexpC.ok YE8 44:=by
 refine Yb Tryz.func44 YEg YAO 500 rexpC fun args k h=>?_
 simp only[rexpC]at h
 split at h
 ·rename_i d c tt z n sz get mn md cn cd note
  obtain⟨bs,⟨⟨rfl,rfl,hg⟩,hs,hnote⟩,h⟩:=h
  refine⟨[.agg [.int .i64 d,.int .i64 c,.vs tt z bs.length 2 (fun k=>enc2 (bs.getD k default)),.int .i64 mn,.int .i64 md,.int .i64 cn,.int .i64 cd],.int .i64 note],⟨⟨⟨rfl,rfl⟩,⟨rfl,rfl⟩,⟨id,rfl,rfl,rfl,hg⟩,⟨rfl,rfl⟩,⟨rfl,rfl⟩,⟨rfl,rfl⟩,⟨rfl,rfl⟩,trivial⟩,⟨rfl,rfl⟩,trivial⟩,?_⟩
  dsimp only[v44,Yl9,gcdC,enc2,go_sem,reduceIte]
  simp only[Yd,YE5,YE3,reduceCtorEq,YE2]
  obtain⟨hl0,hl3,hok⟩:=Ya5 hs
  simp only at hl0 hl3
  obtain⟨E,hE⟩:∃E,E=expF bs note:=⟨_,rfl⟩
  rw[<-hE]at h
  have hER:exR note bs (0,1)=E:=by rw[hE];exact(exp_R hs hnote).symm
  refine Loop.keep [1,0] (Nat×Nat×Nat) (fun s=>[(6,.int .i64 s.1),(7,.int .i64 s.2.1),(8,.int .i64 s.2.2)]) (fun _=>[]) [] (fun s=>s.2.2<=bs.length/\Rex note E (bs.drop s.2.2) s.2.2 s.1 s.2.1) (fun s=>bs.length-s.2.2) ?_ ?_
  ·refine⟨(0,1,0),⟨by simp,?_⟩,?_⟩
   ·have h3:64^(List.drop 0 bs).length<=64^3:=YFq (by decide) (by rw[List.drop_zero];exact hl3)
    exact⟨⟨1,by decide,hER,by rw[YFR,YFR];exact h3,by decide⟩,by decide⟩
   ·dsimp only[go_sem,reduceIte]
    simp only[Ya]
    exact⟨by decide,rfl,rfl,rfl⟩
  ·rintro⟨x,y,i⟩ ⟨hi,hinv⟩
   dsimp only at hi hinv
   dsimp only[Yl9,gcdC,enc2,YE4,go_sem,reduceIte]
   simp only[Yd,YE5,YE3,reduceCtorEq,YE2]
   have hbnd:=Rex.bnd hinv
   refine⟨fun hlt=>by omega,fun hc=>?_,fun hc=>?_⟩
   ·rw[YFd,decide_eq_true_eq,decide_eq_true_eq]at hc
    have hi2:i<bs.length:=by omega
    simp only[okS,YFd]at hok
    have hben:=(Ymi bs).1 hok.1.2
    obtain⟨⟨m1,m2,m3,m4⟩,_⟩:=hben i hi2
    have ew:IntKind.i64.wrap ((i:Int)+1)=((i+1:Nat):Int):=by rw[YE7 _ (by omega)];omega
    have hto:toN note (bs.drop (i+1))=if i+1<bs.length then min note (bs.getD (i+1) default).1 else note:=by
     by_cases c1:i+1<bs.length
     ·rw[if_pos c1,YbS c1];rfl
     ·rw[if_neg c1,List.drop_eq_nil_of_le (by omega)];rfl
    have hle:(bs.getD i default).1<=toN note (bs.drop (i+1)):=by
     rw[hto]
     split
     ·rename_i c1
      have:=(hben (i+1) c1).2 (by omega)
      rw[Nat.add_sub_cancel]at this
      omega
     ·omega
    rw[YbS hi2]at hinv
    obtain⟨hh,t,e1,e2,t1,t2,g1,hnx⟩:=hinv.next hnote.2 ⟨m1,hc.2⟩ ⟨m3,m4⟩ hle
    rw[ew,YE4]
    have hx:x<=139*3*262144:=by
     have:139*i<=139*3:=by omega
     have:=YE9 262144 this
     omega
    have hy:y<=262144:=hbnd.1
    have hxh:x*hh<=139*3*262144*64:=YFt hx t2.2
    have hty:t*y<=139*262144:=YFt t1 hy
    have hyh:y*hh<=262144*64:=YFt hy t2.2
    have w1:IntKind.i64.wrap ((x:Int)*(bs.getD i default).2)=((x*hh:Nat):Int):=by
     rw[e1,<-YFU,YE7 _ (by omega)]
    have w3:IntKind.i64.wrap ((y:Int)*(bs.getD i default).2)=((y*hh:Nat):Int):=by
     rw[e1,<-YFU,YE7 _ (by omega)]
    have w2:∀z:Int,z=toN note (bs.drop (i+1))->IntKind.i64.wrap (((x*hh:Nat):Int)+IntKind.i64.wrap (IntKind.i64.wrap (z-(bs.getD i default).1)*(y:Int)))=((x*hh+t*y:Nat):Int):=fun z hz=>by
     rw[hz,e2,YE7 (t:Int) (by omega),<-YFU,YE7 ((t*y:Nat):Int) (by omega),<-Int.natCast_add,YE7 _ (by omega)]
    have hq:∀a g:Nat,1<=g->a<=9223372036854775807->IntKind.i64.wrap ((a:Int).tdiv (g:Int))=((a/g:Nat):Int):=fun a g hg ha=>by
     rw[YGg rfl rfl]
     have:=YGd a g
     generalize a/g=u at*
     rw[YE7 _ (by omega)]
    rw[w1,w3]
    refine⟨fun hlt=>?_,fun hge=>?_⟩
    ·rw[w2 _ (by rw[hto,if_pos (by omega)])]
     refine⟨by omega,by omega,by omega,x*hh+t*y,y*hh,⟨rfl,rfl,by omega,by omega⟩,by omega,by omega,(_,_,i+1),⟨by simp only;omega,hnx⟩,by simp only;omega,?_⟩
     rw[hq _ _ g1 (by omega),hq _ _ g1 (by omega)]
     simp only[Ya]
     decide
    ·rw[w2 _ (by rw[hto,if_neg (by omega)])]
     refine⟨by omega,by omega,x*hh+t*y,y*hh,⟨rfl,rfl,by omega,by omega⟩,by omega,by omega,(_,_,i+1),⟨by simp only;omega,hnx⟩,by simp only;omega,?_⟩
     rw[hq _ _ g1 (by omega),hq _ _ g1 (by omega)]
     simp only[Ya]
     decide
   ·have hfin:∃G,1<=G/\(((G*x:Nat):Int),((G*y:Nat):Int))=E:=by
     obtain⟨⟨G,G1,G2,_⟩,_⟩:=hinv
     refine⟨G,G1,?_⟩
     rw[<-G2]
     by_cases c1:i<bs.length
     ·rw[YbS c1,exR,if_neg ?_]
      intro hb
      rw[decide_eq_true (by omega:(i:Int)<(bs.length:Int)),decide_eq_true hb]at hc
      cases hc
     ·rw[List.drop_eq_nil_of_le (by omega),exR]
    obtain⟨G,G1,G2⟩:=hfin
    exact Ybn (h x y ⟨G,i,_,G1,G2,hinv,by omega⟩)
 ·exact h.1.elim
def v49:VF:=⟨9,[.tmp 2],(ZR [u1 2 .mov [.cn (.bool false)]] (ZR [Zm 3 0,Zq 4 .geq 3 (-4611686018427387904),Zm 5 4,Zg 6 5 true 0,u2 7 5 true (.cmp .leq) [.tm 6,.cn (.int .i64 4611686018427387904)],u1 8 .and [.tm 5,.tm 7],Zm 2 8] .ret))⟩
theorem YEl:Yg YE8 Tryz.f49=some v49:=by kernel_rfl
def v46:VF:=⟨36,[.tmp 2],(ZR [Zi 2 0] (.seq (ZR [Zm 7 0,Zl 8 7,Zi 9 0] (.block 0 (.loop (ZR [Zr 10 .lss 9 8] (.seq (ZC 10 .skip (.exit 0)) (.seq (.block 1 (ZR [Zx 11 2 7 9,Zt 12 2 11,Zn 4,Zs 2 4 12] (ZR [Za 13 0 4,Zf 14 1 13,Zc 15 49 14,u1 16 .not [.tm 15],Zm 17 16,Zj 18 17 false 1 4,Zh 19 17 false 1 18,u2 20 17 false (.call 49) [.tm 19],u2 21 17 false .not [.tm 20],u1 22 .or [.tm 17,.tm 21]] (ZC 22 (ZR [Zi 2 7] .ret) .skip)))) (.region [Zp 23 9 1,Zm 9 23]))))))) (.seq (ZR [Zm 24 0,Zl 25 24,Zi 26 0] (.block 2 (.loop (ZR [Zr 27 .lss 26 25] (.seq (ZC 27 .skip (.exit 2)) (.seq (.block 3 (ZR [Zx 28 2 24 26,Zt 29 2 28,Zn 6,Zs 2 6 29] (ZR [Za 30 0 6,Zf 31 1 30,Za 32 1 6,Zf 33 1 32,Zr 34 .gtr 31 33] (ZC 34 (ZR [Zi 2 2] .ret) .skip)))) (.region [Zp 35 26 1,Zm 26 35]))))))) (ZR [Zi 2 0] .ret))))⟩
theorem YEi:Yg YE8 Tryz.f46=some v46:=by kernel_rfl
def v81:VF:=⟨8,[.tmp 2],(ZR [u1 2 .mov [.cn (.int .u64 0)]] (ZR [Zm 3 0,Zm 4 0,u1 5 .neg [.tm 4],u1 6 .max [.tm 3,.tm 5],u1 7 (.conv .u64) [.tm 6],Zm 2 7] .ret))⟩
theorem YEJ:Yg YE8 Tryz.f81=some v81:=by kernel_rfl
def v48:VF:=⟨29,[.cell 4 true 3],(ZR [u1 4 (.alloc [(.bool false),(.int .u64 0),(.int .u64 0)]) []] (ZR [Zm 8 0,Zc 9 81 8,Zm 10 1,Zc 11 81 10,Zd 12 80 9 11,Zm 7 12,Ze 13 0 7,Ze 14 1 7,Zm 5 13,Zm 6 14] (ZR [Zm 15 0,Zq 16 .lss 15 0,Zm 17 1,Zq 18 .lss 17 0,u1 19 (.eqb true) [.tm 16,.tm 18],Zm 20 19,Zg 21 20 true 5,Zg 22 20 true 6,u2 23 20 true (.bit .or) [.tm 21,.tm 22],u2 24 20 true (.cmp .neq) [.tm 23,.cn (.int .u64 0)],u1 25 .and [.tm 20,.tm 24],Zm 26 5,Zm 27 6,u1 28 (.build [(.bool false),(.int .u64 0),(.int .u64 0)] [(0,1),(1,1),(2,1)]) [.tm 25,.tm 26,.tm 27],Zs 3 4 28] .ret)))⟩
theorem YEk:Yg YE8 Tryz.f48=some v48:=by kernel_rfl
def v78:VF:=⟨39,[.tmp 4],(ZR [u1 2 .box [.tm 0],u1 3 .box [.tm 1],u1 4 .mov [.cn (.bool false)]] (.seq (ZR [Zt 6 3 2,Zt 7 3 3,u1 8 (.eqv false [false,true,true]) [.tm 6,.tm 7]] (ZC 8 (ZR [u1 4 .mov [.cn (.bool false)]] .ret) .skip)) (.seq (ZR [Za 9 0 2,Zf 10 1 9,Za 11 0 3,Zf 12 1 11,u1 13 (.eqb true) [.tm 10,.tm 12]] (ZC 13 (ZR [Za 14 0 2,Zf 15 1 14,Zm 4 15] .ret) .skip)) (ZR [Za 16 1 2,Zf 17 1 16,Za 18 1 3,Zf 19 1 18,Zr 20 .lss 17 19,Zm 21 20,Zj 22 21 false 1 2,Zh 23 21 false 1 22,Zj 24 21 false 1 3,Zh 25 21 false 1 24,u2 26 21 false (.cmp .eql) [.tm 23,.tm 25],Zg 27 21 false 26,Zj 28 27 true 2 2,Zh 29 27 true 1 28,Zj 30 27 true 2 3,Zh 31 27 true 1 30,u2 32 27 true (.cmp .lss) [.tm 29,.tm 31],u2 33 21 false .and [.tm 27,.tm 32],u1 34 .or [.tm 21,.tm 33],Zm 5 34] (ZR [Zm 35 5,Za 36 0 2,Zf 37 1 36,u1 38 (.eqb true) [.tm 35,.tm 37],Zm 4 38] .ret)))))⟩
theorem YEG:Yg YE8 Tryz.f78=some v78:=by kernel_rfl
def v79:VF:=⟨56,[.tmp 6,.tmp 7],(ZR [u1 3 .box [.tm 0],Zi 6 0,u1 7 .mov [.cn (.bool false)]] (.seq (ZR [Za 10 1 3,Zf 11 1 10,Zm 12 1,Zr 13 .geq 11 12] (ZC 13 (ZR [Zi 6 0,u1 7 .mov [.cn (.bool false)]] .ret) .skip)) (ZR [Za 15 1 3,Zf 16 1 15,Za 17 2 3,Zf 18 1 17,Zm 19 1,u1 20 (.call 109) [.tm 16,.tm 18,.tm 19],Zm 14 20,Ze 21 0 14,Ze 22 1 14,Zm 8 21,Zm 9 22] (.seq (ZR [Zm 23 9,u1 24 (.cmp .neq) [.tm 23,.cn (.int .u64 0)],Zm 25 24,Zg 26 25 true 2,Zj 27 25 true 0 3,Zh 28 25 true 1 27,u2 29 25 true (.eqb true) [.tm 26,.tm 28],u1 30 .and [.tm 25,.tm 29]] (ZC 30 (.region [Zm 31 8,u1 32 (.ari .add) [.tm 31,.cn (.int .u64 1)],Zm 8 32]) .skip)) (.seq (ZR [Zm 33 8,u1 34 (.cmp .gtr) [.tm 33,.cn (.int .u64 4611686018427387904)],Zm 35 34,Zg 36 35 false 8,u2 37 35 false (.cmp .eql) [.tm 36,.cn (.int .u64 0)],Zg 38 35 false 37,Zg 39 38 true 9,u2 40 38 true (.cmp .neq) [.tm 39,.cn (.int .u64 0)],u2 41 35 false .and [.tm 38,.tm 40],Zg 42 35 false 41,Zg 43 42 true 2,Zj 44 42 true 0 3,Zh 45 42 true 1 44,u2 46 42 true (.eqb true) [.tm 43,.tm 45],u2 47 35 false .and [.tm 42,.tm 46],u1 48 .or [.tm 35,.tm 47]] (ZC 48 (ZR [Zi 6 0,u1 7 .mov [.cn (.bool false)]] .ret) .skip)) (.seq (ZR [Za 49 0 3,Zf 50 1 49] (ZC 50 (ZR [Zm 51 8,u1 52 (.conv .i64) [.tm 51],u1 53 .neg [.tm 52],Zm 6 53,u1 7 .mov [.cn (.bool true)]] .ret) .skip)) (ZR [Zm 54 8,u1 55 (.conv .i64) [.tm 54],Zm 6 55,u1 7 .mov [.cn (.bool true)]] .ret)))))))⟩
theorem YEH:Yg YE8 Tryz.f79=some v79:=by kernel_rfl
def v47:VF:=⟨58,[.cell 4 true 2,.tmp 5],(ZR [Zn 4,Zi 5 0] (.seq (.draw [(6,.box [(.bool false),(.int .u64 0),(.int .u64 0)]),(7,.box [(.bool false),(.int .u64 0),(.int .u64 0)])] [Zu 14 1,w1 15 (.idxAddr 3) [.tm 14,.cn (.int .i64 0)],Zw 16 3 15,Zu 17 1,w1 18 (.idxAddr 3) [.tm 17,.cn (.int .i64 0)],Zw 19 3 18,⟨Zs 3 6 16,[.tm 18]⟩,ZS 3 7 19]) (.seq (ZR [Zm 20 1,u1 21 (.slice 3 true false) [.tm 20,.cn (.int .i64 1)],Zl 22 21,Zi 23 0] (.block 0 (.loop (ZR [Zr 24 .lss 23 22] (.seq (ZC 24 .skip (.exit 0)) (.seq (.block 1 (ZR [Zx 25 3 21 23,Zt 26 3 25,u1 9 (.alloc [(.bool false),(.int .u64 0),(.int .u64 0)]) [],Zs 3 9 26] (.seq (ZR [Zt 27 3 9,Zt 28 3 6,Zd 29 78 27 28] (ZC 29 (.region [Zt 30 3 9,Zs 3 6 30]) .skip)) (ZR [Zt 31 3 7,Zt 32 3 9,Zd 33 78 31 32] (ZC 33 (.region [Zt 34 3 9,Zs 3 7 34]) .skip))))) (.region [Zp 35 23 1,Zm 23 35]))))))) (ZR [Zt 37 3 6,Zm 38 0,u1 39 (.call 79) [.tm 37,.tm 38,.cn (.bool false)],Zm 36 39,Ze 40 0 36,Ze 41 1 36,Zm 10 40,Zm 11 41] (ZR [Zt 43 3 7,Zm 44 0,u1 45 (.call 79) [.tm 43,.tm 44,.cn (.bool true)],Zm 42 45,Ze 46 0 42,Ze 47 1 42,Zm 12 46,Zm 13 47] (.seq (ZR [Zm 48 11,u1 49 .not [.tm 48],Zm 50 49,Zg 51 50 false 13,u2 52 50 false .not [.tm 51],u1 53 .or [.tm 50,.tm 52]] (ZC 53 (ZR [u1 54 (.build [(.int .i64 0),(.int .i64 0)] []) [],Zs 2 4 54,Zi 5 7] .ret) .skip)) (ZR [Zm 55 10,Zm 56 12,u1 57 (.build [(.int .i64 0),(.int .i64 0)] [(0,1),(1,1)]) [.tm 55,.tm 56],Zs 2 4 57,Zi 5 0] .ret)))))))⟩
theorem YEj:Yg YE8 Tryz.f47=some v47:=by kernel_rfl
def v97:VF:=⟨18,[.cell 4 true 2,.tmp 5],(ZR [Zn 4,Zi 5 0] (.seq (ZR [Zm 6 0,Zc 7 49 6,u1 8 .not [.tm 7],Zm 9 8,Zg 10 9 false 1,u2 11 9 false (.call 49) [.tm 10],u2 12 9 false .not [.tm 11],u1 13 .or [.tm 9,.tm 12]] (ZC 13 (ZR [u1 14 (.build [(.int .i64 0),(.int .i64 0)] []) [],Zs 2 4 14,Zi 5 7] .ret) .skip)) (ZR [Zm 15 0,Zm 16 1,u1 17 (.build [(.int .i64 0),(.int .i64 0)] [(0,1),(1,1)]) [.tm 15,.tm 16],Zs 2 4 17,Zi 5 0] .ret)))⟩
theorem YEU:Yg YE8 Tryz.f97=some v97:=by kernel_rfl
def numC:Ctr:={ alias:=false,of:=fun l=>match l with| [.int .i64 n]=> .fin (.bool (Ya4 n)) [] |_=>noC}
def ivlC:Ctr:={ alias:=false,of:=fun a=>match a with
 | [.vs _ _ n sz get]=> .ex (List Iv) fun l=> .pre (lsP 2 enc2 n sz get l/\l.length<=1000000) (.fin (.int .i64 (ivE l)) [])
 |_=>noC}
def sizC:Ctr:={ alias:=false,of:=fun l=>match l with
 | [.int .i64 n]=> .pre (-9223372036854775808<=n/\n<=9223372036854775807) (.fin (.int .u64 (n.natAbs:Int)) [])
 |_=>noC}
def timC:Ctr:={ alias:=false,of:=fun l=>match l with
 | [.int .i64 a,.int .i64 b]=> .pre ((-9223372036854775808<=a/\a<=9223372036854775807)/\ -9223372036854775808<=b/\b<=9223372036854775807) (.fin (.agg (YeH (a*b))) [])
 |_=>noC}
def lessC:Ctr:={ alias:=false,of:=fun l=>match l with
 | [.agg [.bool n,.int .u64 h,.int .u64 lo],.agg [.bool n',.int .u64 h',.int .u64 lo']]=> .ex Int fun x=> .ex Int fun y=> .pre (YtS x n h lo/\YtS y n' h' lo') (.fin (.bool (decide (x<y))) [])
 |_=>noC}
def overC:Ctr:={ alias:=false,of:=fun l=>match l with
 | [.agg [.bool n,.int .u64 h,.int .u64 lo],.int .u64 d,.bool up]=> .ex Int fun x=> .pre (YtS x n h lo/\big x/\0<d/\d<=18446744073709551615) (.fin (.tup [.int .i64 (rndF up x d).1,.bool (rndF up x d).2]) [])
 |_=>noC}
def spanC:Ctr:={ alias:=false,of:=fun l=>match l with
 | [.int .u64 d,.vs _ _ n sz get]=> .ex Int fun x=> .ex (List Int) fun r=> .pre (lsP 3 YeH n sz get (x::r)/\r.length<=1000/\(∀y∈x::r,big y)/\0<d/\d<=18446744073709551615) (.fin (.tup [.agg (enc2 (Yem d x r).1),.int .i64 (Yem d x r).2]) [])
 |_=>noC}
def fitC:Ctr:={ alias:=false,of:=fun l=>match l with
 | [.int .i64 a,.int .i64 b]=> .fin (.tup [.agg (enc2 (fitF a b).1),.int .i64 (fitF a b).2]) []
 |_=>noC}
def P0:Env:={ ct:=fun _=>none,fn:=fun _=>none,meth:=fun _ _=>none}
theorem YAp:Yu YE8 P0:=by
 refine⟨fun f c h=>?_,fun f vf h=>?_,(fun _ _ _ h=>by cases h),by kernel_rfl,(fun _ h=>by cases h)⟩
 ·cases h
 ·cases h
theorem Ym2:numC.ok YE8 49:=by
 refine Yb Tryz.func49 YEl YAp 100 numC fun args k h=>⟨args,?_⟩
 simp only[numC]at h
 split at h
 ·refine⟨by simp [leL,le],?_⟩
  (try dsimp only[v49,go_sem,reduceIte])
  (try simp only[Yd,YE5,YE3,reduceCtorEq,YE2])
  exact YO h
 ·exact h.1.elim
theorem YDN:sizC.ok YE8 81:=by
 refine Yb Tryz.func81 YEJ YAp 100 sizC fun args k h=>⟨args,?_⟩
 simp only[sizC]at h
 split at h
 ·rename_i n
  obtain⟨⟨h0,h1⟩,h⟩:=h
  refine⟨by simp [leL,le],?_⟩
  (try dsimp only[v81,go_sem,reduceIte])
  (try simp only[Yd,YE5,YE3,reduceCtorEq,YE2])
  have e:IntKind.u64.wrap (max n (IntKind.i64.wrap (0-n)))=(n.natAbs:Int):=by
   rcases Int.lt_or_le n (-9223372036854775807)with h'|h'
   ·obtain rfl:n= -9223372036854775808:=by omega
    decide
   ·rw[YE7 _ (by omega),YFN _ (by omega)];omega
  rw[e]
  exact Yh h
 ·exact h.1.elim
def P1:Env:={ ct:=fun n=>match n with|49=>some numC|81=>some sizC|80=>some mul64C|109=>some div64C|_=>none,fn:=fun _=>none,meth:=fun _ _=>none}
theorem YvM:P1.ct 49=some numC:=rfl
theorem YvO:P1.ct 81=some sizC:=rfl
theorem YvN:P1.ct 80=some mul64C:=rfl
theorem Ysg:P1.ct 109=some div64C:=rfl
theorem Yog:Yu YE8 P1:=by
 refine⟨fun f c h=>?_,fun f vf h=>?_,(fun _ _ _ h=>by cases h),by kernel_rfl,(fun _ h=>by cases h)⟩
 ·simp only[P1]at h
  split at h
  ·cases h;exact⟨Ym2,Tryz.f49,Tryz.func49,by kernel_rfl,by kernel_rfl⟩
  ·cases h;exact⟨YDN,Tryz.f81,Tryz.func81,by kernel_rfl,by kernel_rfl⟩
  ·cases h;exact⟨YiC,Tryz.f80,Tryz.func80,by kernel_rfl,by kernel_rfl⟩
  ·cases h;exact⟨Ytk,Tryz.f109,Tryz.func109,by kernel_rfl,by kernel_rfl⟩
  ·cases h
 ·cases h
theorem Yvb:ivlC.ok YE8 46:=by
 refine Yb Tryz.func46 YEi Yog 400 ivlC fun args k h=>?_
 simp only[ivlC]at h
 split at h
 ·rename_i tt z n sz get
  obtain⟨l,⟨⟨rfl,rfl,hg⟩,hmax⟩,h⟩:=h
  refine⟨[.vs tt z l.length 2 (fun k=>enc2 (l.getD k default))],by simpa [leL,le]using hg,?_⟩
  (try dsimp only[v46,enc2,go_sem,reduceIte])
  (try simp only[Yd,YE5,YE3,reduceCtorEq,YE2])
  refine Loop.keep [0,6,0,0] Nat (fun i=>[(9,.int .i64 i)]) (fun _=>[]) [] (fun i=>i<=l.length/\∀j,j<i->(Ya4 (l.getD j default).1&&Ya4 (l.getD j default).2)=true) (fun i=>l.length-i) ?_ ?_
  ·refine⟨0,⟨YGj _,fun j h=>by omega⟩,?_⟩
   (try dsimp only[go_sem,reduceIte])
   simp only[Ya]
   simp
  ·rintro i ⟨hi,ha⟩
   (try dsimp only[YvM,numC,enc2,YE4,go_sem,reduceIte])
   (try simp only[Yd,YE5,YE3,reduceCtorEq,YE2])
   refine⟨fun hlt=>⟨⟨by omega,hlt⟩,fun hb=>Yh ?_,fun hb=>?_⟩,fun hge=>?_⟩
   ·have e:=Yqo (l:=l) (i:=i) (by omega) (by rw[<-Bool.not_and,YFI]at hb;exact hb)
    rw[e]at h;exact h
   ·rw[<-Bool.not_and]at hb
    refine⟨i+1,⟨by omega,fun j hj=>?_⟩,by omega,?_⟩
    ·rcases YFu j i with h'|h'
     ·exact ha j h'
     ·obtain rfl:j=i:=by omega
      simpa using hb
    ·have hw:=Yes (i:=i) (n:=l.length) (by omega) (by omega)
     simp only[hw,Ya] <;> simp
   ·obtain rfl:i=l.length:=by omega
    refine Loop.keep [0,23,0,0] Nat (fun i=>[(26,.int .i64 i)]) (fun _=>[]) [] (fun i=>i<=l.length/\∀j,j<i->(l.getD j default).1<=(l.getD j default).2) (fun i=>l.length-i) ?_ ?_
    ·refine⟨0,⟨YGj _,fun j h=>by omega⟩,?_⟩
     (try dsimp only[go_sem,reduceIte])
     simp only[Ya]
     simp
    ·rintro i ⟨hi,hc⟩
     (try dsimp only[enc2,YE4,go_sem,reduceIte])
     (try simp only[Yd,YE5,YE3,reduceCtorEq,YE2])
     refine⟨fun hlt=>⟨⟨by omega,hlt⟩,fun hb=>Yh ?_,fun hb=>?_⟩,fun hge=>?_⟩
     ·have e:=YBX ha (i:=i) (by omega) (by omega)
      rw[e]at h;exact h
     ·refine⟨i+1,⟨by omega,fun j hj=>?_⟩,by omega,?_⟩
      ·rcases YFu j i with h'|h'
       ·exact hc j h'
       ·obtain rfl:j=i:=by omega
        omega
      ·have hw:=Yes (i:=i) (n:=l.length) (by omega) (by omega)
       simp only[hw,Ya] <;> simp
     ·obtain rfl:i=l.length:=by omega
      rw[YBW ha hc]at h
      exact Yh h
 ·exact h.1.elim
theorem YvD:timC.ok YE8 48:=by
 refine Yb Tryz.func48 YEk Yog 200 timC fun args k h=>⟨args,?_⟩
 simp only[timC]at h
 split at h
 ·rename_i a b
  obtain⟨⟨ha,hb⟩,h⟩:=h
  refine⟨by simp [leL,le],?_⟩
  (try dsimp only[v48,YvO,YvN,sizC,mul64C,go_sem,reduceIte])
  (try simp only[Yd,YE5,YE3,reduceCtorEq,YE2])
  obtain⟨P,hP⟩:∃P,P=a.natAbs*b.natAbs:=⟨_,rfl⟩
  have hPb:P<=9223372036854775808*9223372036854775808:=by rw[hP];exact YFt (by omega) (by omega)
  have e0:(a.natAbs:Int)*(b.natAbs:Int)=(P:Int):=by rw[hP];exact(YFU _ _).symm
  have e1:(P:Int)/18446744073709551616=((P/18446744073709551616:Nat):Int):=by omega
  have e2:(P:Int)%18446744073709551616=((P%18446744073709551616:Nat):Int):=by omega
  rw[e0,e1,e2,Ytb (by omega) (by omega)]
  refine⟨ha,hb,⟨⟨by omega,by omega⟩,by omega,by omega⟩,by decide,by decide,?_⟩
  have e3:(a*b).natAbs=P:=by rw[hP,Int.natAbs_mul]
  have e4:(!(decide (a<0)==decide (b<0))&& !decide (((P/18446744073709551616||| P%18446744073709551616:Nat):Int)=0))=decide (a*b<0):=by
   have z:decide (((P/18446744073709551616||| P%18446744073709551616:Nat):Int)=0)=decide (P=0):=by
    congr 1
    apply propext
    have:= @Nat.or_eq_zero_iff (P/18446744073709551616) (P%18446744073709551616)
    omega
   rw[z]
   have hz:P=0↔a=0\/b=0:=by rw[hP,Nat.mul_eq_zero];omega
   rcases Int.lt_trichotomy a 0 with h1|h1|h1 <;> rcases Int.lt_trichotomy b 0 with h2|h2|h2
   ·have:=Int.mul_pos_of_neg_of_neg h1 h2
    simp [h1,h2];omega
   ·subst h2;simp [hz]
   ·have:=Int.mul_neg_of_neg_of_pos h1 h2
    have hb':¬b<0:=by omega
    simp [h1,hb',this,hz];omega
   ·subst h1;simp [hz]
   ·subst h1;simp [hz]
   ·subst h1;simp [hz]
   ·have:=Int.mul_neg_of_pos_of_neg h1 h2
    have ha':¬a<0:=by omega
    simp [h2,ha',this,hz];omega
   ·subst h2;simp [hz]
   ·have:=Int.mul_pos h1 h2
    have ha':¬a<0:=by omega
    have hb':¬b<0:=by omega
    simp [ha',hb'];omega
  rw[e4]
  have h:k (.agg (YeH (a*b))) []:=h
  rw[YeH,e3]at h
  exact YE (show k _ []from h) (YB (.agg [.bool (decide (a*b<0)),.int .u64 ((P/18446744073709551616:Nat):Int),.int .u64 ((P%18446744073709551616:Nat):Int)]) ⟨trivial,trivial,trivial,trivial⟩) (fun _=>by simp [Yt,Ys])
 ·exact h.1.elim
theorem YxV:lessC.ok YE8 78:=by
 refine Yb Tryz.func78 YEG Yog 200 lessC fun args k h=>⟨args,?_⟩
 simp only[lessC]at h
 split at h
 ·rename_i n hi lo n' hi' lo'
  obtain⟨x,y,⟨⟨rfl,rfl,rfl⟩,rfl,rfl,rfl⟩,h⟩:=h
  refine⟨by simp [leL,le],?_⟩
  (try dsimp only[v78,go_sem,reduceIte])
  (try simp only[Yd,YE5,YE3,reduceCtorEq,YE2])
  refine⟨fun hc=>YO ?_,fun hc=>⟨fun hd=>YO ?_,fun hd=>⟨fun h1 h2=>by rw[decide_eq_false h1,decide_eq_true h2];rfl,YO ?_⟩⟩⟩
  ·simp only[YFd,Bool.and_true,decide_eq_true_eq,beq_iff_eq,decide_eq_decide]at hc
   have:x=y:=by omega
   subst this
   have h:k (.bool (decide (x<x))) []:=h
   rw[decide_eq_false (Int.lt_irrefl x)]at h
   exact h
  ·have:decide (x<y)=decide (x<0):=by
    rw[beq_eq_false_iff_ne,ne_eq,decide_eq_decide]at hd
    rw[decide_eq_decide];omega
   rw[<-this];exact h
  ·have:(!((decide (((x.natAbs/18446744073709551616:Nat):Int)<((y.natAbs/18446744073709551616:Nat):Int)) || decide (((x.natAbs/18446744073709551616:Nat):Int)=((y.natAbs/18446744073709551616:Nat):Int))&&decide (((x.natAbs%18446744073709551616:Nat):Int)<((y.natAbs%18446744073709551616:Nat):Int)))==decide (x<0)))=decide (x<y):=by
    simp only[beq_iff_eq,decide_eq_decide]at hd
    simp only[YFZ,Bool.and_true,decide_eq_false_iff_not,beq_eq_false_iff_ne,ne_eq,decide_eq_decide]at hc
    have e:(decide (((x.natAbs/18446744073709551616:Nat):Int)<((y.natAbs/18446744073709551616:Nat):Int)) || decide (((x.natAbs/18446744073709551616:Nat):Int)=((y.natAbs/18446744073709551616:Nat):Int))&&decide (((x.natAbs%18446744073709551616:Nat):Int)<((y.natAbs%18446744073709551616:Nat):Int)))=decide (x.natAbs<y.natAbs):=by
     rw[Bool.eq_iff_iff]
     simp only[YF5,YFd,decide_eq_true_eq]
     omega
    rw[e]
    by_cases hx:x<0
    ·rw[decide_eq_true hx,Bool.eq_iff_iff,YFI,beq_eq_false_iff_ne,ne_eq,decide_eq_true_eq,decide_eq_true_eq];omega
    ·rw[decide_eq_false hx,Bool.eq_iff_iff,YFI,beq_eq_false_iff_ne,ne_eq,decide_eq_false_iff_not,decide_eq_true_eq];omega
   rw[this];exact h
 ·exact h.1.elim
theorem Yls:overC.ok YE8 79:=by
 refine Yb Tryz.func79 YEH Yog 200 overC fun args k h=>⟨args,?_⟩
 simp only[overC]at h
 split at h
 ·rename_i n hi lo d up
  obtain⟨x,⟨⟨rfl,rfl,rfl⟩,hbx,hd0,hd1⟩,h⟩:=h
  refine⟨by simp [leL,le],?_⟩
  (try dsimp only[v79,Ysg,div64C,go_sem,reduceIte])
  (try simp only[Yd,YE5,YE3,reduceCtorEq,YE2])
  obtain⟨d,rfl⟩:=YFW (by omega:0<=d)
  obtain⟨m,hm⟩:∃m,m=x.natAbs:=⟨_,rfl⟩
  have hT:=YyU (up:=up) (x:=x) (d:=d) (by omega)
  have e0:((m/18446744073709551616:Nat):Int)*18446744073709551616+((m%18446744073709551616:Nat):Int)=m:=by omega
  have e1:(m:Int)/(d:Int)=((m/d:Nat):Int):=(Int.natCast_ediv _ _).symm
  have e2:(m:Int)%(d:Int)=((m%d:Nat):Int):=(Int.natCast_emod _ _).symm
  rw[<-hm]at hT⊢
  rw[e0,e1,e2]
  have hF:rndF up x d=rndB (nsg (decide (x<0)) (m/d+bump up (decide (x<0)) (m%d))):=by unfold rndF;rw[hT]
  have hfail:4611686018427387904<m/d+bump up (decide (x<0)) (m%d)->rndF up x d=(0,false):=fun hh=>by
   rw[hF,rndB,if_neg]
   have:=Ygj (decide (x<0)) (m/d+bump up (decide (x<0)) (m%d))
   omega
  have hgood:m/d+bump up (decide (x<0)) (m%d)<=4611686018427387904->rndF up x d=(nsg (decide (x<0)) (m/d+bump up (decide (x<0)) (m%d)),true):=fun hh=>by
   rw[hF,rndB,if_pos]
   have:=Ygj (decide (x<0)) (m/d+bump up (decide (x<0)) (m%d))
   omega
  have h:k (.tup [.int .i64 (rndF up x d).1,.bool (rndF up x d).2]) []:=h
  have fin:∀(t:Int)(b:Bool)(hp:List HO),rndF up x d=(t,b)->YK overC.alias k (.tup [.int .i64 t,.bool b]) hp:=fun t b hp hh=>by
   rw[hh]at h
   exact YE (show k _ []from h) (YB (.tup [.int .i64 t,.bool b]) ⟨trivial,trivial,trivial⟩) (fun _=>by simp [Yt,Ys])
  have hQ1:¬(d:Int)<=((m/18446744073709551616:Nat):Int)->m/d<18446744073709551616:=fun hc=>by
   rw[YFE (by omega)]
   have h1:m/18446744073709551616<d:=by omega
   rw[YFE (by decide)]at h1
   rw[YFc];exact h1
  have hQ2:(d:Int)<=((m/18446744073709551616:Nat):Int)->18446744073709551616<=m/d:=fun hc=>by
   rw[YF0 (by omega)]
   have h1:d<=m/18446744073709551616:=by omega
   rw[YF0 (by decide)]at h1
   rw[YFc];exact h1
  have hd0':(0:Int)<(d:Int):=hd0
  clear hT e1 e2
  generalize m/d=Q at*
  generalize m%d=R at*
  have ez:(!decide ((R:Int)=0))=decide (R≠0):=by
   rw[<-decide_not];congr 1;exact propext (by omega)
  refine⟨fun hc=>fin _ _ _ (hfail ?_),fun hc=>⟨⟨⟨by omega,by omega⟩,by omega,by omega,by omega⟩,by decide,by decide,fun hb=>?_,fun hb=>?_⟩⟩
  ·have:=hQ2 hc
   omega
  ·have hQ:=hQ1 hc
   rw[ez]at hb⊢
   have hbump:bump up (decide (x<0)) (R)=1:=by unfold bump;exact if_pos hb
   rw[hbump]at hfail hgood
   have hcond:∀w:Int,((decide (4611686018427387904<w) || decide (w=0)&&decide (R≠0)&& !(up==decide (x<0)))=true↔4611686018427387904<w\/w=0):=fun w=>by
    rw[Bool.and_assoc,hb,Bool.and_true,YF5,decide_eq_true_eq,decide_eq_true_eq]
   have hw:(4611686018427387904<IntKind.u64.wrap ((Q:Int)+1)\/IntKind.u64.wrap ((Q:Int)+1)=0)↔4611686018427387904<Q+1:=by
    rw[YlG];omega
   refine⟨fun h1 h2=>by rw[decide_eq_false h1,decide_eq_true h2];rfl,fun h1 h2=>by rw[decide_eq_false h1,h2];rfl,fun hcc=>fin _ _ _ (hfail (hw.1 ((hcond _).1 hcc))),fun hcc=>?_⟩
   have hsm:Q+1<=4611686018427387904:=by
    refine YGk fun hh=>?_
    have:=(hcond _).2 (hw.2 hh)
    rw[hcc]at this;cases this
   have hg:=hgood hsm
   rw[YFN _ (by omega)]
   refine⟨fun hx=>fin _ _ _ ?_,fun hx=>fin _ _ _ ?_⟩
   ·rw[hg,YE7 ((Q:Int)+1) (by omega),YE7 _ (by omega)]
    unfold nsg
    simp only[hx,decide_true,if_true]
    congr 1 <;> omega
   ·rw[hg,YE7 _ (by omega)]
    unfold nsg
    simp only[hx,decide_false,YFx,if_false]
    rfl
  ·have hQ:=hQ1 hc
   rw[ez]at hb⊢
   have hbump:bump up (decide (x<0)) (R)=0:=by unfold bump;exact if_neg (by rw[show(up !=decide (x<0))= !(up==decide (x<0))from rfl,hb];simp)
   rw[hbump,YF8]at hfail hgood
   have hcond:∀w:Int,((decide (4611686018427387904<w) || decide (w=0)&&decide (R≠0)&& !(up==decide (x<0)))=true↔4611686018427387904<w):=fun w=>by
    rw[Bool.and_assoc,hb,Bool.and_false,Bool.or_false,decide_eq_true_eq]
   refine⟨fun h1 h2=>by rw[decide_eq_false h1,decide_eq_true h2];rfl,fun h1 h2=>by rw[decide_eq_false h1,h2];rfl,fun hcc=>fin _ _ _ (hfail (by have:=(hcond _).1 hcc;omega)),fun hcc=>?_⟩
   have hsm:Q<=4611686018427387904:=by
    refine YGk fun hh=>?_
    have:=(hcond (Q:Int)).2 (by omega)
    rw[hcc]at this;cases this
   have hg:=hgood hsm
   refine⟨fun hx=>fin _ _ _ ?_,fun hx=>fin _ _ _ ?_⟩
   ·rw[hg,YE7 (Q:Int) (by omega),YE7 _ (by omega)]
    unfold nsg
    simp only[hx,decide_true,if_true]
    congr 1 <;> omega
   ·rw[hg,YE7 _ (by omega)]
    unfold nsg
    simp only[hx,decide_false,YFx,if_false]
 ·exact h.1.elim
def P2:Env:={ ct:=fun n=>match n with|49=>some numC|78=>some lessC|79=>some overC|_=>none,fn:=fun _=>none,meth:=fun _ _=>none}
theorem YvP:P2.ct 49=some numC:=rfl
theorem YvQ:P2.ct 78=some lessC:=rfl
theorem YvR:P2.ct 79=some overC:=rfl
theorem YAq:Yu YE8 P2:=by
 refine⟨fun f c h=>?_,fun f vf h=>?_,(fun _ _ _ h=>by cases h),by kernel_rfl,(fun _ h=>by cases h)⟩
 ·simp only[P2]at h
  split at h
  ·cases h;exact⟨Ym2,Tryz.f49,Tryz.func49,by kernel_rfl,by kernel_rfl⟩
  ·cases h;exact⟨YxV,Tryz.f78,Tryz.func78,by kernel_rfl,by kernel_rfl⟩
  ·cases h;exact⟨Yls,Tryz.f79,Tryz.func79,by kernel_rfl,by kernel_rfl⟩
  ·cases h
 ·cases h
theorem Yu5:fitC.ok YE8 97:=by
 refine Yb Tryz.func97 YEU YAq 200 fitC fun args k h=>⟨args,?_⟩
 simp only[fitC]at h
 split at h
 ·rename_i a b
  refine⟨by simp [leL,le],?_⟩
  (try dsimp only[v97,YvP,numC,go_sem,reduceIte])
  (try simp only[Yd,YE5,YE3,reduceCtorEq,YE2])
  refine⟨fun hc=>?_,fun hc=>?_⟩
  ·rw[fitF,if_neg (by rw[<-Bool.not_and,YFI]at hc;simp [hc])]at h
   exact YE (show k _ []from h) (YB (.tup [.agg (enc2 (0,0)),.int .i64 7]) ⟨⟨trivial,trivial,trivial⟩,trivial,trivial⟩) (fun _=>by simp [enc2,Yt,Ys])
  ·rw[fitF,if_pos (by rw[<-Bool.not_and,Bool.not_eq_false']at hc;exact hc)]at h
   exact YE (show k _ []from h) (YB (.tup [.agg (enc2 (a,b)),.int .i64 0]) ⟨⟨trivial,trivial,trivial⟩,trivial,trivial⟩) (fun _=>by simp [enc2,Yt,Ys])
 ·exact h.1.elim
theorem YrQ:spanC.ok YE8 47:=by
 refine Yb Tryz.func47 YEj YAq 400 spanC fun args k h=>?_
 simp only[spanC]at h
 split at h
 ·rename_i d tt z n sz get
  obtain⟨x,r,⟨⟨rfl,rfl,hg⟩,hmax,hbig,hd0,hd1⟩,h⟩:=h
  refine⟨[.int .u64 d,.vs tt z (x::r).length 3 (fun k=>YeH ((x::r).getD k default))],⟨⟨rfl,rfl⟩,by simpa [le]using hg,trivial⟩,?_⟩
  (try dsimp only[v47,YeH,go_sem,reduceIte])
  (try simp only[Yd,YE5,YE3,reduceCtorEq,YE2])
  have hlen:((x::r).length:Int)=r.length+1:=by simp
  refine⟨⟨by decide,by omega⟩,⟨by decide,by omega⟩,⟨by decide,by omega⟩,?_⟩
  have hlen2:(x::r).length-(0+1)=r.length:=by simp
  refine Loop.keep [0,0,2,0,0,0,13,0] Nat (fun i=>[(23,.int .i64 i)]) (fun i=>[(1,.box (YeH (lowI x (r.take i)))),(2,.box (YeH (Ybt x (r.take i))))]) [] (fun i=>i<=r.length) (fun i=>r.length-i) ?_ ?_
  ·refine⟨0,YGj _,?_⟩
   (try dsimp only[YeH,go_sem,reduceIte])
   simp only[Ya]
   refine⟨by simp,?_,?_⟩ <;> simp [lowI,Ybt] <;> rfl
  ·rintro i hi
   (try dsimp only[YvQ,YvR,lessC,overC,YeH,YE4,go_sem,reduceIte])
   (try simp only[Yd,YE5,YE3,reduceCtorEq,YE2])
   have ey:(x::r).getD (1+i) default=r.getD i default:=by rw[Nat.add_comm];rfl
   have elen:(((x::r).length-1:Nat):Int)=r.length:=by simp
   simp only[ey,elen]
   refine⟨fun hlt=>⟨⟨by omega,by omega⟩,r.getD i default,lowI x (r.take i),⟨Yaq _,Yaq _⟩,?_⟩,fun hge=>?_⟩
   ·have eL:lowI x (r.take (i+1))=if r.getD i default<lowI x (r.take i)then r.getD i default else lowI x (r.take i):=Yp (by omega)
    have eH:Ybt x (r.take (i+1))=if Ybt x (r.take i)<r.getD i default then r.getD i default else Ybt x (r.take i):=Yp (by omega)
    have hw:=Yes (i:=i) (n:=r.length) (by omega) (by omega)
    refine⟨fun h1=>⟨Ybt x (r.take i),r.getD i default,⟨Yaq _,Yaq _⟩,fun h2=>⟨i+1,by omega,by omega,?_⟩,fun h2=>⟨i+1,by omega,by omega,?_⟩⟩,
     fun h1=>⟨Ybt x (r.take i),r.getD i default,⟨Yaq _,Yaq _⟩,fun h2=>⟨i+1,by omega,by omega,?_⟩,fun h2=>⟨i+1,by omega,by omega,?_⟩⟩⟩
    ·simp only[eL,eH,if_pos h1,if_pos h2,hw,Ya]
     simp
    ·simp only[eL,eH,if_pos h1,if_neg h2,hw,Ya]
     simp
    ·simp only[eL,eH,if_neg h1,if_pos h2,hw,Ya]
     simp
    ·simp only[eL,eH,if_neg h1,if_neg h2,hw,Ya]
     simp
   ·obtain rfl:i=r.length:=by omega
    rw[YF4]
    have hl:=YqP x r
    have hh:=YnJ x r
    refine⟨lowI x r,⟨Yaq _,hbig _ hl.1,hd0,hd1⟩,by decide,by decide,Ybt x r,⟨Yaq _,hbig _ hh.1,hd0,hd1⟩,by decide,by decide,?_⟩
    have h:k (.tup [.agg (enc2 (Yem d x r).1),.int .i64 (Yem d x r).2]) []:=h
    unfold Yem YiW at h
    refine⟨fun hb=>?_,fun hb=>?_⟩
    ·rw[if_neg (by rw[<-Bool.not_and,YFI]at hb;rw[hb];simp)]at h
     exact YE (show k _ []from h) (YB (.tup [.agg (enc2 (0,0)),.int .i64 7]) ⟨⟨trivial,trivial,trivial⟩,trivial,trivial⟩) (fun _=>by simp [enc2,Yt,Ys])
    ·rw[if_pos (by rw[<-Bool.not_and,Bool.not_eq_false']at hb;exact hb)]at h
     exact YE (show k _ []from h) (YB (.tup [.agg (enc2 ((rndF false (lowI x r) d).1,(rndF true (Ybt x r) d).1)),.int .i64 0]) ⟨⟨trivial,trivial,trivial⟩,trivial,trivial⟩) (fun _=>by simp [enc2,Yt,Ys])
 ·exact h.1.elim
def v62:VF:=⟨37,[.cell 4 true 2,.tmp 5],(ZR [u1 2 .box [.tm 0],u1 3 .box [.tm 1],Zn 4,Zi 5 0] (.seq (ZR [Zt 7 2 2,Zt 8 2 3,u1 9 (.buildSlice 2 2 [(.int .i64 0),(.int .i64 0)] [(0,2),(2,2)]) [.tm 7,.tm 8],Zc 10 46 9,Zm 6 10] (ZR [Zm 11 6,Zq 12 .neq 11 0] (ZC 12 (ZR [u1 13 (.build [(.int .i64 0),(.int .i64 0)] []) [],Zm 14 6,Zs 2 4 13,Zm 5 14] .ret) .skip))) (.seq (ZR [Za 15 1 2,Zf 16 1 15,Zq 17 .eql 16 4611686018427387904,Zm 18 17,Zj 19 18 true 1 3,Zh 20 18 true 1 19,u2 21 18 true (.cmp .eql) [.tm 20,.cn (.int .i64 4611686018427387904)],u1 22 .and [.tm 18,.tm 21]] (ZC 22 (ZR [u1 23 (.build [(.int .i64 0),(.int .i64 0)] []) [],Zs 2 4 23,Zi 5 7] .ret) .skip)) (ZR [Za 24 0 2,Zf 25 1 24,Za 26 0 3,Zf 27 1 26,Zo 28 .add 25 27,Za 29 1 2,Zf 30 1 29,Za 31 1 3,Zf 32 1 31,Zo 33 .add 30 32,Zd 34 97 28 33,Ze 35 0 34,Ze 36 1 34,Zs 2 4 35,Zm 5 36] .ret))))⟩
theorem YEs:Yg YE8 Tryz.f62=some v62:=by kernel_rfl
def v92:VF:=⟨41,[.cell 4 true 2,.tmp 5],(ZR [u1 2 .box [.tm 0],u1 3 .box [.tm 1],Zn 4,Zi 5 0] (.seq (ZR [Zt 8 2 2,Zt 9 2 3,u1 10 (.buildSlice 2 2 [(.int .i64 0),(.int .i64 0)] [(0,2),(2,2)]) [.tm 8,.tm 9],Zc 11 46 10,Zm 6 11] (ZR [Zm 12 6,Zq 13 .neq 12 0] (ZC 13 (ZR [u1 14 (.build [(.int .i64 0),(.int .i64 0)] []) [],Zm 15 6,Zs 2 4 14,Zm 5 15] .ret) .skip))) (.seq (.draw [(7,.arr 4 3 [(.bool false),(.int .u64 0),(.int .u64 0),(.bool false),(.int .u64 0),(.int .u64 0),(.bool false),(.int .u64 0),(.int .u64 0),(.bool false),(.int .u64 0),(.int .u64 0)])] [Zy 16 0 2,Zv 17 1 16,Zy 18 0 3,Zv 19 1 18,Zy 21 0 2,Zv 22 1 21,Zy 23 1 3,Zv 24 1 23,Zy 26 1 2,Zv 27 1 26,Zy 28 0 3,Zv 29 1 28,Zy 31 1 2,Zv 32 1 31,Zy 33 1 3,Zv 34 1 33,Zz 20 48 17 19,Zz 25 48 22 24,Zz 30 48 27 29,Zz 35 48 32 34,w1 36 (.build [(.bool false),(.int .u64 0),(.int .u64 0),(.bool false),(.int .u64 0),(.int .u64 0),(.bool false),(.int .u64 0),(.int .u64 0),(.bool false),(.int .u64 0),(.int .u64 0)] [(0,3),(3,3),(6,3),(9,3)]) [.tm 20,.tm 25,.tm 30,.tm 35],ZS 12 7 36]) (ZR [u1 37 (.sliceArr 4 3 false false) [.tm 7],u1 38 (.call 47) [.cn (.int .u64 1),.tm 37],Ze 39 0 38,Ze 40 1 38,Zs 2 4 39,Zm 5 40] .ret))))⟩
theorem YET:Yg YE8 Tryz.f92=some v92:=by kernel_rfl
def v24:VF:=⟨45,[.cell 6 true 2,.tmp 7],(ZR [u1 3 .box [.tm 0],Zn 6,Zi 7 0] (ZR [Zt 9 2 3,u1 10 (.buildSlice 2 1 [(.int .i64 0),(.int .i64 0)] [(0,2)]) [.tm 9],Zc 11 46 10,Zm 8 11] (.seq (.block 0 (ZR [Zm 13 8,Zq 14 .neq 13 0,Zm 12 14] (ZC 12 (ZR [u1 15 (.build [(.int .i64 0),(.int .i64 0)] []) [],Zm 16 8,Zs 2 6 15,Zm 7 16] .ret) (ZR [Zm 18 2,Zq 19 .lss 18 1,Zm 20 19,Zg 21 20 false 2,u2 22 20 false (.call 49) [.tm 21],u2 23 20 false .not [.tm 22],u1 24 .or [.tm 20,.tm 23],Zm 25 24,Zg 26 25 false 1,u2 27 25 false (.call 49) [.tm 26],u2 28 25 false .not [.tm 27],u1 29 .or [.tm 25,.tm 28],Zm 17 29] (ZC 17 (ZR [u1 30 (.build [(.int .i64 0),(.int .i64 0)] []) [],Zs 2 6 30,Zi 7 2] .ret) .skip))))) (.seq (.draw [] [Zu 31 2,w1 32 (.conv .u64) [.tm 31],Zy 33 0 3,Zv 34 1 33,Zu 35 1,Zy 37 1 3,Zv 38 1 37,Zu 39 1,Zz 36 48 34 35,Zz 40 48 38 39,w1 41 (.buildSlice 3 2 [(.bool false),(.int .u64 0),(.int .u64 0)] [(0,3),(3,3)]) [.tm 36,.tm 40],Zz 42 47 32 41,ZE 43 0 42,ZE 44 1 42,ZS 2 6 43,Zu 7 44]) .ret))))⟩
theorem YD5:Yg YE8 Tryz.f24=some v24:=by kernel_rfl
def v23:VF:=⟨28,[.cell 2 true 2,.tmp 3],(ZR [u1 1 .box [.tm 0],Zn 2,Zi 3 0] (.seq (ZR [Zt 5 2 1,u1 6 (.buildSlice 2 1 [(.int .i64 0),(.int .i64 0)] [(0,2)]) [.tm 5],Zc 7 46 6,Zm 4 7] (ZR [Zm 8 4,Zq 9 .neq 8 0] (ZC 9 (ZR [u1 10 (.build [(.int .i64 0),(.int .i64 0)] []) [],Zm 11 4,Zs 2 2 10,Zm 3 11] .ret) .skip))) (.seq (.draw [] [Zy 12 0 1,Zv 13 1 12,Zy 15 0 1,Zv 16 1 15,Zy 18 1 1,Zv 19 1 18,Zy 21 1 1,Zv 22 1 21,w1 14 (.call 48) [.tm 13,.cn (.int .i64 3141592653589793238)],w1 17 (.call 48) [.tm 16,.cn (.int .i64 3141592653589793239)],w1 20 (.call 48) [.tm 19,.cn (.int .i64 3141592653589793238)],w1 23 (.call 48) [.tm 22,.cn (.int .i64 3141592653589793239)],w1 24 (.buildSlice 3 4 [(.bool false),(.int .u64 0),(.int .u64 0)] [(0,3),(3,3),(6,3),(9,3)]) [.tm 14,.tm 17,.tm 20,.tm 23],w1 25 (.call 47) [.cn (.int .u64 1000000000000000000),.tm 24],ZE 26 0 25,ZE 27 1 25,ZS 2 2 26,Zu 3 27]) .ret)))⟩
theorem YD4:Yg YE8 Tryz.f23=some v23:=by kernel_rfl
def iv1C:Ctr:={ alias:=false,of:=fun a=>match a with| [.agg [.int .i64 x,.int .i64 y]]=> .fin (.int .i64 (ivE [(x,y)])) [] |_=>noC}
def iv2C(f:Iv->Iv->Iv×Int):Ctr:={ alias:=false,of:=fun a=>match a with
 | [.agg [.int .i64 x,.int .i64 y],.agg [.int .i64 z,.int .i64 w]]=> .fin (.tup [.agg (enc2 (f (x,y) (z,w)).1),.int .i64 (f (x,y) (z,w)).2]) []
 |_=>noC}
def ivoC(f:Iv->Iv×Int):Ctr:={ alias:=false,of:=fun a=>match a with
 | [.agg [.int .i64 x,.int .i64 y]]=> .fin (.tup [.agg (enc2 (f (x,y)).1),.int .i64 (f (x,y)).2]) []
 |_=>noC}
def addC:=iv2C addF
def mulC:=iv2C mulF
def piC:=ivoC piF
def sclC:Ctr:={ alias:=false,of:=fun a=>match a with
 | [.agg [.int .i64 x,.int .i64 y],.int .i64 n,.int .i64 d]=> .fin (.tup [.agg (enc2 (sclF (x,y) n d).1),.int .i64 (sclF (x,y) n d).2]) []
 |_=>noC}
def P3:Env:={ ct:=fun n=>match n with|49=>some numC|46=>some ivlC|48=>some timC|79=>some overC|47=>some spanC|97=>some fitC|_=>none,fn:=fun _=>none,meth:=fun _ _=>none}
theorem YvS:P3.ct 46=some ivlC:=rfl
theorem YvT:P3.ct 97=some fitC:=rfl
theorem P3_ok:Yu YE8 P3:=by
 refine⟨fun f c h=>?_,fun f vf h=>?_,(fun _ _ _ h=>by cases h),by kernel_rfl,(fun _ h=>by cases h)⟩
 ·simp only[P3]at h
  split at h
  ·cases h;exact⟨Ym2,Tryz.f49,Tryz.func49,by kernel_rfl,by kernel_rfl⟩
  ·cases h;exact⟨Yvb,Tryz.f46,Tryz.func46,by kernel_rfl,by kernel_rfl⟩
  ·cases h;exact⟨YvD,Tryz.f48,Tryz.func48,by kernel_rfl,by kernel_rfl⟩
  ·cases h;exact⟨Yls,Tryz.f79,Tryz.func79,by kernel_rfl,by kernel_rfl⟩
  ·cases h;exact⟨YrQ,Tryz.f47,Tryz.func47,by kernel_rfl,by kernel_rfl⟩
  ·cases h;exact⟨Yu5,Tryz.f97,Tryz.func97,by kernel_rfl,by kernel_rfl⟩
  ·cases h
 ·cases h
theorem YaR{k:SV->List HO->Prop}{al:Bool}{hp:List HO}{r:Iv×Int}(h:k (.tup [.agg (enc2 r.1),.int .i64 r.2]) []):YK al k (.tup [.agg [.int .i64 r.1.1,.int .i64 r.1.2],.int .i64 r.2]) hp:=
 YE (show k _ []from h) (YB (.tup [.agg (enc2 r.1),.int .i64 r.2]) ⟨⟨trivial,trivial,trivial⟩,trivial,trivial⟩) (fun _=>by simp [enc2,Yt,Ys])
theorem Yk1{a b:Int}(ha: -9223372036854775808<=a/\a<=9223372036854775808)(hb: -9223372036854775808<=b/\b<=9223372036854775808):big (a*b):=by
 unfold big
 rw[Int.natAbs_mul]
 have:=YFt (show a.natAbs<=9223372036854775808 by omega) (show b.natAbs<=9223372036854775808 by omega)
 omega
theorem YgX:addC.ok YE8 62:=by
 refine Yb Tryz.func62 YEs P3_ok 200 addC fun args k h=>⟨args,?_⟩
 simp only[addC,iv2C]at h
 split at h
 ·rename_i x y z w
  refine⟨by simp [leL,le],?_⟩
  (try dsimp only[v62,YvS,YvT,ivlC,fitC,enc2,go_sem,reduceIte])
  (try simp only[Yd,YE5,YE3,reduceCtorEq,YE2])
  have h:k (.tup [.agg (enc2 (addF (x,y) (z,w)).1),.int .i64 (addF (x,y) (z,w)).2]) []:=h
  refine⟨by decide,[(x,y),(z,w)],⟨⟨rfl,rfl,fun k hk=>match k,hk with|0,_=>Yc _|1,_=>Yc _⟩,by simp⟩,fun hc=>?_,fun hc=>?_⟩
  ·rw[addF,if_pos hc]at h
   exact YaR (r:=errI (ivE [(x,y),(z,w)])) h
  ·obtain⟨⟨h1,h2,h3⟩,h4,h5,h6⟩:=ivE2 hc
   dsimp only at h1 h2 h3 h4 h5 h6
   rw[addF,if_neg (by rw[hc];simp)]at h
   dsimp only at h
   refine⟨fun hm=>?_,fun hm=>⟨by decide,by decide,?_⟩⟩
   ·rw[YFd,decide_eq_true_eq,decide_eq_true_eq]at hm
    have:Ya4 (y+w)=false:=by
     rw[Bool.eq_false_iff];intro hh;have:=numOk_iff.1 hh;omega
    rw[fitF,this,Bool.and_false]at h
    exact YaR (r:=((0,0),7)) h
   ·rw[YFZ,decide_eq_false_iff_not,decide_eq_false_iff_not]at hm
    rw[YE7 (x+z) (by omega),YE7 (y+w) (by omega)]
    exact YaR h
 ·exact h.1.elim
def P4:Env:={ ct:=fun n=>match n with|49=>some numC|46=>some ivlC|48=>some timC|79=>some overC|47=>some spanC|97=>some fitC|62=>some addC|_=>none,fn:=fun _=>none,meth:=fun _ _=>none}
theorem YvU:P4.ct 49=some numC:=rfl
theorem YkP:P4.ct 46=some ivlC:=rfl
theorem YkQ:P4.ct 48=some timC:=rfl
theorem Yfz:P4.ct 47=some spanC:=rfl
theorem YvV:Yu YE8 P4:=by
 refine⟨fun f c h=>?_,fun f vf h=>?_,(fun _ _ _ h=>by cases h),by kernel_rfl,(fun _ h=>by cases h)⟩
 ·simp only[P4]at h
  split at h
  ·cases h;exact⟨Ym2,Tryz.f49,Tryz.func49,by kernel_rfl,by kernel_rfl⟩
  ·cases h;exact⟨Yvb,Tryz.f46,Tryz.func46,by kernel_rfl,by kernel_rfl⟩
  ·cases h;exact⟨YvD,Tryz.f48,Tryz.func48,by kernel_rfl,by kernel_rfl⟩
  ·cases h;exact⟨Yls,Tryz.f79,Tryz.func79,by kernel_rfl,by kernel_rfl⟩
  ·cases h;exact⟨YrQ,Tryz.f47,Tryz.func47,by kernel_rfl,by kernel_rfl⟩
  ·cases h;exact⟨Yu5,Tryz.f97,Tryz.func97,by kernel_rfl,by kernel_rfl⟩
  ·cases h;exact⟨YgX,Tryz.f62,Tryz.func62,by kernel_rfl,by kernel_rfl⟩
  ·cases h
 ·cases h
theorem YqW:mulC.ok YE8 92:=by
 refine Yb Tryz.func92 YET YvV 200 mulC fun args k h=>⟨args,?_⟩
 simp only[mulC,iv2C]at h
 split at h
 ·rename_i x y z w
  refine⟨by simp [leL,le],?_⟩
  (try dsimp only[v92,YkP,YkQ,Yfz,ivlC,timC,spanC,YeH,enc2,go_sem,reduceIte])
  (try simp only[Yd,YE5,YE3,reduceCtorEq,YE2])
  have h:k (.tup [.agg (enc2 (mulF (x,y) (z,w)).1),.int .i64 (mulF (x,y) (z,w)).2]) []:=h
  refine⟨by decide,[(x,y),(z,w)],⟨⟨rfl,rfl,fun k hk=>match k,hk with|0,_=>Yc _|1,_=>Yc _⟩,by simp⟩,fun hc=>?_,fun hc=>?_⟩
  ·rw[mulF,if_pos hc]at h
   exact YaR (r:=errI (ivE [(x,y),(z,w)])) h
  ·obtain⟨⟨h1,h2,h3⟩,h4,h5,h6⟩:=ivE2 hc
   dsimp only at h1 h2 h3 h4 h5 h6
   rw[mulF,if_neg (by rw[hc];simp)]at h
   dsimp only at h
   refine⟨⟨⟨by omega,by omega⟩,by omega,by omega⟩,⟨⟨by omega,by omega⟩,by omega,by omega⟩,⟨⟨by omega,by omega⟩,by omega,by omega⟩,⟨⟨by omega,by omega⟩,by omega,by omega⟩,?_⟩
   (try dsimp only[Yfz,spanC,enc2,go_sem,reduceIte])
   (try simp only[Yd,YE5,YE3,reduceCtorEq,YE2])
   refine⟨by decide,?_⟩
   (try dsimp only[Yfz,spanC,enc2,go_sem,reduceIte])
   (try simp only[Yd,YE5,YE3,reduceCtorEq,YE2])
   refine⟨x*z,[x*w,y*z,y*w],⟨⟨rfl,rfl,fun k hk=>match k,hk with|0,_=>Yc _|1,_=>Yc _|2,_=>Yc _|3,_=>Yc _⟩,by simp,?_,by decide,by decide⟩,by decide,by decide,YaR h⟩
   intro p hp
   simp only[YFA,List.not_mem_nil,or_false]at hp
   rcases hp with rfl|rfl|rfl|rfl <;> exact Yk1 (by omega) (by omega)
 ·exact h.1.elim
theorem pi_ok:piC.ok YE8 23:=by
 refine Yb Tryz.func23 YD4 YvV 200 piC fun args k h=>⟨args,?_⟩
 simp only[piC,ivoC]at h
 split at h
 ·rename_i x y
  refine⟨by simp [leL,le],?_⟩
  (try dsimp only[v23,YkP,YkQ,Yfz,ivlC,timC,spanC,YeH,enc2,go_sem,reduceIte])
  (try simp only[Yd,YE5,YE3,reduceCtorEq,YE2])
  have h:k (.tup [.agg (enc2 (piF (x,y)).1),.int .i64 (piF (x,y)).2]) []:=h
  refine⟨by decide,[(x,y)],⟨⟨rfl,rfl,fun k hk=>match k,hk with|0,_=>Yc _⟩,by simp⟩,fun hc=>?_,fun hc=>?_⟩
  ·rw[piF,if_pos hc]at h
   exact YaR (r:=errI (ivE [(x,y)])) h
  ·obtain⟨h1,h2,h3⟩:=ivE1 hc
   dsimp only at h1 h2 h3
   rw[piF,if_neg (by rw[hc];simp)]at h
   dsimp only at h
   refine⟨⟨⟨by omega,by omega⟩,by omega,by omega⟩,⟨⟨by omega,by omega⟩,by omega,by omega⟩,⟨⟨by omega,by omega⟩,by omega,by omega⟩,⟨⟨by omega,by omega⟩,by omega,by omega⟩,by decide,
    x*3141592653589793238,[x*3141592653589793239,y*3141592653589793238,y*3141592653589793239],⟨⟨rfl,rfl,fun k hk=>match k,hk with|0,_=>Yc _|1,_=>Yc _|2,_=>Yc _|3,_=>Yc _⟩,by simp,?_,by decide,by decide⟩,by decide,by decide,YaR h⟩
   intro p hp
   simp only[YFA,List.not_mem_nil,or_false]at hp
   rcases hp with rfl|rfl|rfl|rfl <;> exact Yk1 (by omega) (by omega)
 ·exact h.1.elim
theorem YDH:sclC.ok YE8 24:=by
 refine Yb Tryz.func24 YD5 YvV 200 sclC fun args k h=>⟨args,?_⟩
 simp only[sclC]at h
 split at h
 ·rename_i x y n d
  refine⟨by simp [leL,le],?_⟩
  (try dsimp only[v24,YkP,YvU,YkQ,Yfz,ivlC,numC,timC,spanC,YeH,enc2,go_sem,reduceIte])
  (try simp only[Yd,YE5,YE3,reduceCtorEq,YE2])
  have h:k (.tup [.agg (enc2 (sclF (x,y) n d).1),.int .i64 (sclF (x,y) n d).2]) []:=h
  refine⟨by decide,[(x,y)],⟨⟨rfl,rfl,fun k hk=>match k,hk with|0,_=>Yc _⟩,by simp⟩,?_⟩
  refine⟨fun hc=>?_,fun hc=>?_⟩
  ·rw[sclF,if_pos hc]at h
   exact YaR (r:=errI (ivE [(x,y)])) h
  ·obtain⟨h1,h2,h3⟩:=ivE1 hc
   dsimp only at h1 h2 h3
   rw[sclF,if_neg (by rw[hc];simp)]at h
   dsimp only at h
   have hnd:=numOk_iff (x:=d)
   have hnn:=numOk_iff (x:=n)
   have hcond:(decide (d<1) || !Ya4 d|| !Ya4 n)=true↔(d<1\/4611686018427387904<d\/n< -4611686018427387904\/4611686018427387904<n):=by
    rw[YF5,YF5,decide_eq_true_eq,YFI,YFI,Bool.eq_false_iff,Bool.eq_false_iff,ne_eq,ne_eq,hnd,hnn]
    omega
   refine⟨fun hb=>?_,fun hb=>?_⟩
   ·rw[if_pos (hcond.1 hb)]at h
    exact YaR (r:=errI 2) h
   ·have hb':¬(d<1\/4611686018427387904<d\/n< -4611686018427387904\/4611686018427387904<n):=fun hh=>by
     have:=hcond.2 hh
     rw[hb]at this;cases this
    rw[if_neg hb']at h
    rw[YFN d (by omega)]
    refine⟨⟨⟨by omega,by omega⟩,by omega,by omega⟩,⟨⟨by omega,by omega⟩,by omega,by omega⟩,by decide,
     x*n,[y*n],⟨⟨rfl,rfl,fun k hk=>match k,hk with|0,_=>Yc _|1,_=>Yc _⟩,by simp,?_,by omega,by omega⟩,by decide,by decide,YaR h⟩
    intro p hp
    simp only[YFA,List.not_mem_nil,or_false]at hp
    rcases hp with rfl|rfl <;> exact Yk1 (by omega) (by omega)
 ·exact h.1.elim
theorem YrB{t:Int}(h:(rndB t).2=true):(rndB t).1=t:=by
 unfold rndB at h⊢
 split
 ·rfl
 ·rename_i hc;rw[if_neg hc]at h;cases h
theorem Yur{a b:Int×Bool}(h:(YiW a b).2=0):(YiW a b).1=(a.1,b.1)/\a.2=true/\b.2=true:=by
 unfold YiW at h⊢
 split
 ·rename_i hc
  rw[YFd]at hc
  exact⟨rfl,hc⟩
 ·rename_i hc;rw[if_neg hc]at h;cases h
theorem Ym1{x:Int}(h0: -4611686018427387904<=x)(h1:x<=4611686018427387904):Ya4 x=true:=by
 unfold Ya4;rw[decide_eq_true h0,decide_eq_true h1];rfl
theorem okE1{a:Iv}(h0: -4611686018427387904<=a.1)(h1:a.1<=a.2)(h2:a.2<=4611686018427387904):ivE [a]=0:=by
 rw[ivE,if_pos (by simp [Ym1 (x:=a.1) h0 (by omega),Ym1 (x:=a.2) (by omega) h2]),if_pos (by simpa using h1)]
theorem YiL{t:Int}(h0: -4611686018427387904<=t)(h1:t<=4611686018427387904):rndB t=(t,true):=by rw[rndB,if_pos ⟨h0,h1⟩]
theorem Yvw{a:Iv}{n d:Int}(h0:0<=a.1)(h1:a.1<=a.2)(h2:a.2<=4000000000000)(hn:0<=n)(hn1:n<=100000)(hd:1<=d)(hd1:d<=100000):(sclF a n d).2=0:=by
 rw[sclF,if_neg (by rw[okE1 (by omega) h1 (by omega)];decide),if_neg (by omega)]
 have k1:a.1*n<=a.2*n:=YFz h1 hn
 have k0:0<=a.1*n:=Int.mul_nonneg h0 hn
 have k2:a.2*n<=4000000000000*100000:=YcO h2 hn1 (by omega) (by decide)
 have q:∀x:Int,0<=x->x<=400000000000000000->rndB (x/d)=(x/d,true)/\rndB (-((-x)/d))=(-((-x)/d),true):=fun x hx hx1=>by
  have m1:x/d<=x:=Int.ediv_le_self _ hx
  have m0:0<=x/d:=Int.ediv_nonneg hx (by omega)
  have m2: -x<=(-x)/d:=by
   rw[Int.le_ediv_iff_mul_le (by omega)]
   have:x*1<=x*d:=Int.mul_le_mul_of_nonneg_left hd hx
   rw[Int.neg_mul];omega
  have m3:(-x)/d<=0:=Int.ediv_nonpos_of_nonpos_of_neg (by omega) (by omega)
  exact⟨YiL (by omega) (by omega),YiL (by omega) (by omega)⟩
 unfold Yem rndF rndT
 simp only[lowI,Ybt,List.foldl_cons,List.foldl_nil,if_true,YFx,if_false]
 rw[(q _ (by split <;> omega) (by split <;> omega)).1,(q _ (by split <;> omega) (by split <;> omega)).2]
 rfl
def widS(s:Scl)(note:Int):Iv:=(sclF (piF (diaS s note)).1 s.mn s.md).1
def cutS(s:Scl)(note:Int):Iv×Int:=sclF (widS s note) s.cn s.cd
def mouS(s:Scl)(note:Int):Iv×Iv×Int:=if askS s note note≠0 then((0,0),(0,0),askS s note note)else(widS s note,(cutS s note).1,(cutS s note).2)
theorem scl_v{a:Iv}{n d:Int}(h0:0<=a.1)(h1:a.1<=a.2)(h2:a.2<=4000000000000)(hn:0<=n)(hn1:n<=100000)(hd:1<=d)(hd1:d<=100000):sclF a n d=((a.1*n/d, -((-(a.2*n))/d)),0):=by
 have he:=Yvw h0 h1 h2 hn hn1 hd hd1
 refine Prod.ext ?_ he
 unfold sclF at he⊢
 have e1:ivE [a]=0:=okE1 (by omega) h1 (by omega)
 rw[e1,if_neg (by decide),if_neg (by omega)]at he⊢
 unfold Yem at he⊢
 obtain⟨e,k1,k2⟩:=Yur he
 rw[e]
 have hm:a.1*n<=a.2*n:=YFz h1 hn
 unfold rndF at k1 k2⊢
 rw[YrB k1,YrB k2]
 have l1:lowI (a.1*n) [a.2*n]=a.1*n:=by
  simp only[lowI,List.foldl_cons,List.foldl_nil];rw[if_neg (by omega)]
 have l2:Ybt (a.1*n) [a.2*n]=a.2*n:=by
  simp only[Ybt,List.foldl_cons,List.foldl_nil];split <;> omega
 rw[l1,l2]
 simp only[rndT,if_true,YFx,if_false]
theorem YwV{x d:Int}(hd:1<=d)(hx:0<=x):0<= -((-x)/d)/\ -((-x)/d)<=x:=by
 have m2: -x<=(-x)/d:=by
  rw[Int.le_ediv_iff_mul_le (by omega)]
  have:x*1<=x*d:=Int.mul_le_mul_of_nonneg_left hd hx
  rw[Int.neg_mul];omega
 have m3:(-x)/d<=0:=Int.ediv_nonpos_of_nonpos_of_neg (by omega) (by omega)
 omega
theorem Yp5{x y d:Int}(hd:1<=d)(h:x<=y):x/d<= -((-y)/d):=by
 refine Int.ediv_le_of_le_mul (by omega) ?_
 have:=Int.ediv_mul_le (-y) (show d≠0 by omega)
 rw[Int.neg_mul];omega
theorem pi_v{a:Iv}(h0:0<=a.1)(h1:a.1<=a.2)(h2:a.2<=3000000):piF a=((a.1*3141592653589793238/1000000000000000000, -((-(a.2*3141592653589793239))/1000000000000000000)),0):=by
 have e1:ivE [a]=0:=okE1 (by omega) h1 (by omega)
 unfold piF
 rw[e1,if_neg (by decide)]
 unfold Yem
 have l1:lowI (a.1*3141592653589793238) [a.1*3141592653589793239,a.2*3141592653589793238,a.2*3141592653589793239]=a.1*3141592653589793238:=by
  simp only[lowI,List.foldl_cons,List.foldl_nil];rw[if_neg (by omega),if_neg (by omega),if_neg (by omega)]
 have l2:Ybt (a.1*3141592653589793238) [a.1*3141592653589793239,a.2*3141592653589793238,a.2*3141592653589793239]=a.2*3141592653589793239:=by
  simp only[Ybt,List.foldl_cons,List.foldl_nil]
  repeat' split
  all_goals omega
 rw[l1,l2]
 unfold rndF
 simp only[rndT,if_true,YFx,if_false]
 rw[YiL (by omega) (by omega),YiL (by omega) (by omega)]
 rfl
theorem Ykk{s:Scl}(h:chkL s=0):(1<=s.mn/\s.mn<=20)/\(1<=s.md/\s.md<=20)/\(1<=s.cn/\s.cn<=20)/\(1<=s.cd/\s.cd<=20):=by
 have h3:=(Ya5 h).2.2
 simp only[okS,Ybe,inS,YFd,decide_eq_true_eq]at h3
 omega
theorem wid_v{s:Scl}(hs:chkL s=0){note:Int}(hn:0<=note/\note<=139):
 widS s note=((diaS s note).1*3141592653589793238/1000000000000000000*s.mn/s.md, -((-(-((-((diaS s note).2*3141592653589793239))/1000000000000000000)*s.mn))/s.md))/\
 0<=(widS s note).1/\(widS s note).1<=(widS s note).2/\(widS s note).2<=200000000:=by
 obtain⟨d0,d1,d2,d3⟩:=YpJ hs hn
 obtain⟨p1,p2,_,_⟩:=Ykk hs
 have hp:=pi_v d0 d1 d3
 obtain⟨A,hA⟩:∃A,A=(diaS s note).1*3141592653589793238/1000000000000000000:=⟨_,rfl⟩
 obtain⟨B,hB⟩:∃B,B= -((-((diaS s note).2*3141592653589793239))/1000000000000000000):=⟨_,rfl⟩
 have hA0:0<=A:=by omega
 have hAB:A<=B:=by omega
 have hB1:B<=10000000:=by omega
 have e:widS s note=(A*s.mn/s.md, -((-(B*s.mn))/s.md)):=by
  unfold widS
  rw[hp,<-hA,<-hB,scl_v hA0 hAB (by simp only;omega) (by omega) (by omega) p2.1 (by omega)]
 rw[<-hA,<-hB,e]
 have m1:A*s.mn<=B*s.mn:=YFz hAB (by omega)
 have m0:0<=A*s.mn:=Int.mul_nonneg hA0 (by omega)
 have m2:B*s.mn<=10000000*20:=YcO hB1 p1.2 (by omega) (by decide)
 refine⟨rfl,Int.ediv_nonneg m0 (by omega),Yp5 p2.1 m1,?_⟩
 have:=(YwV (d:=s.md) p2.1 (show 0<=B*s.mn by omega)).2
 simp only
 omega
theorem cut_e{s:Scl}(hs:chkL s=0){note:Int}(hn:0<=note/\note<=139):(cutS s note).2=0:=by
 obtain⟨_,w0,w1,w2⟩:=wid_v hs hn
 obtain⟨_,_,p1,p2⟩:=Ykk hs
 exact Yvw w0 w1 (by omega) (by omega) (by omega) p2.1 (by omega)
def v8:VF:=⟨47,[.cell 4 true 2,.cell 5 true 2,.tmp 6],(ZR [u1 2 .box [.tm 0],Zn 4,Zn 5,Zi 6 0] (.seq (ZR [Zt 10 7 2,Zm 11 1,Zm 12 1,u1 13 (.call 19) [.tm 10,.tm 11,.tm 12],Zm 7 13] (ZR [Zm 14 7,Zq 15 .neq 14 0] (ZC 15 (ZR [u1 16 (.build [(.int .i64 0),(.int .i64 0)] []) [],u1 17 (.build [(.int .i64 0),(.int .i64 0)] []) [],Zm 18 7,Zs 2 4 16,Zs 2 5 17,Zm 6 18] .ret) .skip))) (ZR [Zt 20 7 2,Zm 21 1,Zd 22 20 20 21,Zc 23 23 22,Zm 19 23,Ze 24 0 19,Ze 25 1 19,Zn 8,Zs 2 8 24,Zm 9 25] (ZR [Zt 27 2 8,Za 28 3 2,Zf 29 1 28,Za 30 4 2,Zf 31 1 30,u1 32 (.call 24) [.tm 27,.tm 29,.tm 31],Zm 26 32,Ze 33 0 26,Ze 34 1 26,Zs 2 4 33] (ZR [Zt 36 2 4,Za 37 5 2,Zf 38 1 37,Za 39 6 2,Zf 40 1 39,u1 41 (.call 24) [.tm 36,.tm 38,.tm 40],Zm 35 41,Ze 42 0 35,Ze 43 1 35,Zs 2 5 42,Zm 6 43] (.seq (.draw [] [Zw 44 2 4,Zw 45 2 5,Zu 46 6,⟨Zs 2 4 44,[.tm 5]⟩,ZS 2 5 45,Zu 6 46]) .ret))))))⟩
theorem v8_is:Yg YE8 Tryz.f8=some v8:=by kernel_rfl
theorem YhK{k:SV->List HO->Prop}{al:Bool}{hp:List HO}{p q:Iv}{e:Int}(h:k (.tup [.agg (enc2 p),.agg (enc2 q),.int .i64 e]) []):YK al k (.tup [.agg [.int .i64 p.1,.int .i64 p.2],.agg [.int .i64 q.1,.int .i64 q.2],.int .i64 e]) hp:=
 YE (show k _ []from h) (YB (.tup [.agg [.int .i64 p.1,.int .i64 p.2],.agg [.int .i64 q.1,.int .i64 q.2],.int .i64 e]) ⟨⟨trivial,trivial,trivial⟩,⟨trivial,trivial,trivial⟩,trivial,trivial⟩) (fun _=>by simp [enc2,Yt,Ys])
def mouC:Ctr:={ alias:=false,of:=fun l=>match l with
 | [.agg [.int .i64 d,.int .i64 c,.vs _ _ n sz get,.int .i64 mn,.int .i64 md,.int .i64 cn,.int .i64 cd],.int .i64 note]=>
   .ex (List (Int×Int)) fun bs=> .pre (lsP 2 enc2 n sz get bs/\n<=9223372036854775807) (.fin (.tup [.agg (enc2 (mouS ⟨d,c,bs,mn,md,cn,cd⟩ note).1),.agg (enc2 (mouS ⟨d,c,bs,mn,md,cn,cd⟩ note).2.1),.int .i64 (mouS ⟨d,c,bs,mn,md,cn,cd⟩ note).2.2]) [])
 |_=>noC}
def SM1:Env:={ ct:=fun n=>match n with|19=>some askC|20=>some diaC|23=>some piC|24=>some sclC|_=>none,fn:=fun _=>none,meth:=fun _ _=>none}
theorem Yl5:SM1.ct 19=some askC:=rfl
theorem Yl6:SM1.ct 20=some diaC:=rfl
theorem Yl7:SM1.ct 23=some piC:=rfl
theorem Yl8:SM1.ct 24=some sclC:=rfl
theorem YAM:Yu YE8 SM1:=by
 refine⟨fun f c h=>?_,fun f vf h=>?_,(fun _ _ _ h=>by cases h),by kernel_rfl,(fun _ h=>by cases h)⟩
 ·simp only[SM1]at h
  split at h
  ·cases h;exact⟨YwE,Tryz.f19,Tryz.func19,by kernel_rfl,by kernel_rfl⟩
  ·cases h;exact⟨YpI,Tryz.f20,Tryz.func20,by kernel_rfl,by kernel_rfl⟩
  ·cases h;exact⟨pi_ok,Tryz.f23,Tryz.func23,by kernel_rfl,by kernel_rfl⟩
  ·cases h;exact⟨YDH,Tryz.f24,Tryz.func24,by kernel_rfl,by kernel_rfl⟩
  ·cases h
 ·cases h
theorem YCq:mouC.ok YE8 8:=by
 refine Yb Tryz.func8 v8_is YAM 400 mouC fun args k h=>?_
 simp only[mouC]at h
 split at h
 ·rename_i d c tt z n sz get mn md cn cd note
  obtain⟨bs,⟨⟨rfl,rfl,hg⟩,hn⟩,h⟩:=h
  refine⟨[.agg [.int .i64 d,.int .i64 c,.vs tt z bs.length 2 (fun k=>enc2 (bs.getD k default)),.int .i64 mn,.int .i64 md,.int .i64 cn,.int .i64 cd],.int .i64 note],⟨⟨⟨rfl,rfl⟩,⟨rfl,rfl⟩,⟨id,rfl,rfl,rfl,hg⟩,⟨rfl,rfl⟩,⟨rfl,rfl⟩,⟨rfl,rfl⟩,⟨rfl,rfl⟩,trivial⟩,⟨rfl,rfl⟩,trivial⟩,?_⟩
  obtain⟨s,hs⟩:∃s:Scl,s=⟨d,c,bs,mn,md,cn,cd⟩:=⟨_,rfl⟩
  have h:k (.tup [.agg (enc2 (mouS ⟨d,c,bs,mn,md,cn,cd⟩ note).1),.agg (enc2 (mouS ⟨d,c,bs,mn,md,cn,cd⟩ note).2.1),.int .i64 (mouS ⟨d,c,bs,mn,md,cn,cd⟩ note).2.2]) []:=h
  dsimp only[v8,Yl5,Yl6,Yl7,Yl8,askC,diaC,piC,sclC,ivoC,enc2,go_sem,reduceIte]
  simp only[Yd,YE5,YE3,reduceCtorEq,YE2]
  have self:lsP 2 enc2 bs.length 2 (fun k=>[SV.int IntKind.i64 (bs.getD k default).fst,SV.int IntKind.i64 (bs.getD k default).snd]) bs:=⟨rfl,rfl,fun k _=>Yc _⟩
  refine⟨bs,⟨self,hn⟩,fun hc=>?_,fun hc=>?_⟩
  ·rw[mouS,if_pos hc]at h
   exact YhK (p:=(0,0)) (q:=(0,0)) h
  ·rw[mouS,if_neg (by rw[hc];decide)]at h
   obtain⟨a1,a2,_⟩:=Yph hc
   have:=Ybr a1
   refine⟨bs,⟨self,a1,by omega,a2.2⟩,?_⟩
   (try dsimp only[Yl5,Yl6,Yl7,Yl8,askC,diaC,piC,sclC,ivoC,enc2,go_sem,reduceIte])
   (try simp only[Yd,YE5,YE3,reduceCtorEq,YE2])
   exact⟨by decide,by decide,by decide,by decide,by decide,by decide,YhK (p:=widS ⟨d,c,bs,mn,md,cn,cd⟩ note) (q:=(cutS ⟨d,c,bs,mn,md,cn,cd⟩ note).1) (e:=(cutS ⟨d,c,bs,mn,md,cn,cd⟩ note).2) h⟩
 ·exact h.1.elim
end Go.Proofs.YtmiclogmkfobgaaGreat
namespace Go.Proofs.YtmiclogmkfobgaaGreat.Q
open Go Go.Vx
def dig(a i:Nat):Nat:=a/32768^i%32768
theorem Yo(i:Nat):0<32768^i:=YFF (by decide)
theorem Yx(i:Nat):32768^(i+1)=32768^i*32768:=YFm ..
theorem YJ(a i:Nat):dig a i<32768:=YFC _ (by decide)
theorem Yar(a i:Nat):a%32768^(i+1)=a%32768^i+32768^i*dig a i:=Nat.mod_pow_succ
theorem Yk7(a:Nat):dig a 0=a%32768:=by simp [dig]
theorem YbE(i:Nat):dig 0 i=0:=by simp [dig]
theorem Yfl(a i:Nat):dig a (i+1)=dig (a/32768) i:=by
 unfold dig
 rw[YFn,Yx,YFc]
theorem Y3{a n i:Nat}(h:a<32768^n)(hi:n<=i):dig a i=0:=by
 unfold dig
 rw[YGc]
 exact YFS h (YFq (by decide) hi)
theorem Ygg{a b:Nat}:∀{n:Nat},(∀i,i<n->dig a i=dig b i)->a%32768^n=b%32768^n
 |0,_=>by simp [Nat.mod_one]
 |n+1,h=>by rw[Yar,Yar,Ygg fun i hi=>h i (by omega),h n (by omega)]
theorem Yk8{a b n:Nat}(ha:a<32768^n)(hb:b<32768^n)(h:∀i,i<n->dig a i=dig b i):a=b:=by
 have:=Ygg h
 rwa [YFT ha,YFT hb]at this
theorem Ybo{a j k:Nat}(h:k<j):dig (a%32768^j) k=dig a k:=by
 unfold dig
 obtain⟨m,rfl⟩:∃m,j=k+(m+1):=⟨j-k-1,by omega⟩
 rw[YFi,Nat.mod_mul_right_div_self,YFm,YFc,Nat.mod_mul_right_mod]
def nlF:Nat->Nat->Nat
 |0,_=>0
 |f+1,a=>if a=0 then 0 else nlF f (a/32768)+1
def nl(a:Nat):Nat:=nlF a a
theorem Ykf:∀(f a n:Nat),a<=f->(nlF f a<=n↔a<32768^n)
 |0,a,n,h=>by
  have:=Yo n
  simp only[nlF];omega
 |f+1,a,n,h=>by
  simp only[nlF]
  split
  ·rename_i h0;have:=Yo n;subst h0;simp;omega
  ·cases n with
   |zero=>simp;omega
   |succ n=>
    have:=Ykf f (a/32768) n (by omega)
    rw[Yx,<-YFE (by decide),<-this]
    omega
theorem nl_le{a n:Nat}:nl a<=n↔a<32768^n:=Ykf a a n (YFk _)
theorem YbD(a:Nat):a<32768^nl a:=nl_le.1 (YFk _)
theorem nl_0:nl 0=0:=rfl
theorem nl_pos{a:Nat}:0<nl a↔0<a:=by
 have:= @nl_le a 0
 simp at this;omega
theorem nl_eq0{a:Nat}:nl a=0↔a=0:=by
 have:= @nl_le a 0
 simp at this;omega
theorem YmZ{a:Nat}(h:a≠0):dig a (nl a-1)≠0:=by
 obtain⟨n,hn⟩:∃n,nl a=n+1:=⟨nl a-1,by have:=nl_eq0 (a:=a);omega⟩
 rw[hn,Nat.add_sub_cancel]
 have h1:=YbD a
 have h2:¬a<32768^n:=fun hh=>by have:=nl_le.2 hh;omega
 rw[hn,Yx]at h1
 unfold dig
 have h3:a/32768^n<32768:=by rw[YFE (Yo n),YFc];exact h1
 rw[YFT h3]
 have:=Nat.div_pos (YGk h2) (Yo n)
 omega
theorem Ybu{a b:Nat}(h:a<=b):nl a<=nl b:=nl_le.2 (YFG h (YbD b))
theorem Yav{a n:Nat}(h:a<32768^n)(ht:n=0\/dig a (n-1)≠0):nl a=n:=by
 have h1:=nl_le.2 h
 rcases ht with rfl|ht
 ·omega
 ·rcases YFu (nl a) n with h2|h2
  ·exact absurd (Y3 (YbD a) (by omega:nl a<=n-1)) ht
  ·omega
theorem Ya2{a n:Nat}(h:a<32768^(n+1))(h0:dig a n=0):a<32768^n:=by
 have:=Yar a n
 rw[h0,YFT h]at this
 rw[this]
 simpa using YFC a (Yo n)
def cy(a b i:Nat):Nat:=(a%32768^i+b%32768^i)/32768^i
theorem cy_0(a b:Nat):cy a b 0=0:=by simp [cy,Nat.mod_one]
theorem Yh1(a b i:Nat):cy a b i<=1:=by
 unfold cy
 have h1:=YFC a (Yo i)
 have h2:=YFC b (Yo i)
 have:(a%32768^i+b%32768^i)/32768^i<2:=by
  rw[YFE (Yo i)];omega
 omega
theorem YpN(a b i:Nat):(a+b)/32768^i=a/32768^i+b/32768^i+cy a b i:=by
 unfold cy
 have h1:=YFH a (32768^i)
 have h2:=YFH b (32768^i)
 generalize hP:32768^i=P at*
 have hp:0<P:=hP▸Yo i
 have e:a+b=P*(a/P+b/P)+(a%P+b%P):=by rw[YFJ];omega
 conv=>lhs;rw[e]
 rw[Nat.mul_add_div hp]
theorem Yeu(a b i:Nat):(dig a i+dig b i+cy a b i)%32768=dig (a+b) i:=by
 unfold dig
 rw[YpN]
 omega
theorem Yjw(a b i:Nat):(dig a i+dig b i+cy a b i)/32768=cy a b (i+1):=by
 have e:cy a b (i+1)=(a%32768^(i+1)+b%32768^(i+1))/32768^(i+1):=rfl
 rw[e,Yar,Yar,Yx,<-YFn]
 unfold cy
 generalize hP:32768^i=P at*
 have hp:0<P:=hP▸Yo i
 have e:a%P+P*dig a i+(b%P+P*dig b i)=P*(dig a i+dig b i)+(a%P+b%P):=by rw[YFJ];omega
 rw[e,Nat.mul_add_div hp]
def setD(V j x:Nat):Nat:=V-dig V j*32768^j+x*32768^j
theorem YaA(V j:Nat):V=32768^j*(32768*(V/32768^(j+1))+dig V j)+V%32768^j:=by
 have h1:=YFH V (32768^j)
 have h2:=YFH (V/32768^j) 32768
 rw[YFn,<-Yx]at h2
 unfold dig
 rw[h2,h1]
theorem Ycs(V j x:Nat):setD V j x=32768^j*(32768*(V/32768^(j+1))+x)+V%32768^j:=by
 have:=YaA V j
 unfold setD
 generalize dig V j=d at*
 generalize V/32768^(j+1)=h at*
 generalize V%32768^j=l at*
 generalize 32768^j=P at*
 rw[YFJ]at this⊢
 rw[YFc d,YFc x]
 omega
theorem Ydr(V j x:Nat):setD V j x+dig V j*32768^j=V+x*32768^j:=by
 have:=YaA V j
 rw[Ycs]
 generalize dig V j=d at*
 generalize V/32768^(j+1)=h at*
 generalize V%32768^j=l at*
 generalize 32768^j=P at*
 rw[YFJ]at this⊢
 rw[YFc d,YFc x]
 omega
theorem Yei{V j x:Nat}(hx:x<32768):setD V j x/32768^(j+1)=V/32768^(j+1):=by
 have hl:=YFC V (Yo j)
 have e:∀Y:Nat,Y/32768^(j+1)=Y/32768^j/32768:=fun Y=>by rw[Yx,YFn]
 rw[Ycs,e (32768^j*(32768*(V/32768^(j+1))+x)+V%32768^j),Nat.mul_add_div (Yo j),YGc hl]
 generalize V/32768^(j+1)=h
 omega
theorem Yce{V j x:Nat}(hx:x<32768)(k:Nat):dig (setD V j x) k=if k=j then x else dig V k:=by
 have hl:=YFC V (Yo j)
 rcases Nat.lt_trichotomy k j with h|h|h
 ·rw[if_neg (by omega),<-Ybo h,<-Ybo (a:=V) h,Ycs,Nat.mul_add_mod,Nat.mod_mod]
 ·subst h
  rw[if_pos rfl,Ycs]
  unfold dig
  rw[Nat.mul_add_div (Yo k),YGc hl]
  omega
 ·rw[if_neg (by omega)]
  obtain⟨m,rfl⟩:∃m,k=(j+1)+m:=⟨k-(j+1),by omega⟩
  unfold dig
  have e:setD V j x/32768^(j+1)=V/32768^(j+1):=by
   exact Yei hx
  rw[YFi,<-YFn,<-YFn,e]
theorem YiR{V j x n:Nat}(hV:V<32768^n)(hx:x<32768)(hj:j<n):setD V j x<32768^n:=by
 obtain⟨m,rfl⟩:∃m,n=m+(j+1):=⟨n-(j+1),by omega⟩
 rw[YFi,<-YFE (Yo _)]at hV⊢
 rw[Yei hx]
 exact hV
theorem YiD{a b i k V c:Nat}(h:V+c*32768^(i+k)=(a%32768^i)*b+dig a i*(b%32768^k)*32768^i):
 setD V (i+k) ((dig V (i+k)+dig a i*dig b k+c)%32768)+((dig V (i+k)+dig a i*dig b k+c)/32768)*32768^(i+(k+1))=(a%32768^i)*b+dig a i*(b%32768^(k+1))*32768^i:=by
 have e1:=Ydr V (i+k) ((dig V (i+k)+dig a i*dig b k+c)%32768)
 have e2:=YFH (dig V (i+k)+dig a i*dig b k+c) 32768
 rw[Yar,show i+(k+1)=(i+k)+1 by omega,Yx]
 rw[YFi]at*
 generalize setD V (i+k) ((dig V (i+k)+dig a i*dig b k+c)%32768)=V' at*
 generalize(dig V (i+k)+dig a i*dig b k+c)%32768=r at*
 generalize(dig V (i+k)+dig a i*dig b k+c)/32768=q at*
 generalize dig V (i+k)=d at*
 generalize dig a i=x at*
 generalize dig b k=y at*
 generalize b%32768^k=bm at*
 generalize a%32768^i=am at*
 generalize 32768^i=P at*
 generalize 32768^k=R at*
 grind
theorem YqV{a b i n m:Nat}(hi:i<=n)(ha:a<32768^n)(hb:b<32768^m):(a%32768^i)*b<32768^(n+m+1):=by
 have h1:=YFC a (Yo i)
 have h2:a%32768^i<=32768^n:=YFa (YGa h1) (YFq (by decide) hi)
 have h3:(a%32768^i)*b<=32768^n*32768^m:=YFt h2 (YGa hb)
 rw[<-YFi]at h3
 rw[Yx]
 have:=Yo (n+m)
 omega
theorem YcC(a m k:Nat):dig (a/32768^m) k=dig a (m+k):=by
 unfold dig
 rw[YFi,YFn]
theorem Yll(a b:Nat):∃n,a<32768^n/\b<32768^n:=
 ⟨nl a+nl b,YFS (YbD a) (YFq (by decide) (by omega)),YFS (YbD b) (YFq (by decide) (by omega))⟩
theorem YeB{a b:Nat}(h:∀i,dig a i=dig b i):a=b:=by
 obtain⟨n,h1,h2⟩:=Yll a b
 exact Yk8 h1 h2 fun i _=>h i
theorem YpM{a b m:Nat}(h:∀i,m<=i->dig a i=dig b i):a/32768^m=b/32768^m:=
 YeB fun i=>by rw[YcC,YcC];exact h _ (by omega)
theorem YdI{a b j:Nat}(h:∀i,j<i->dig a i=dig b i)(hd:dig a j<dig b j):a<b:=by
 have h1:=YaA a j
 have h2:=YaA b j
 rw[YpM (m:=j+1) fun i hi=>h i hi]at h1
 have h3:=YFC a (Yo j)
 generalize b/32768^(j+1)=q at*
 generalize 32768^j=P at*
 generalize a%P=x at*
 generalize b%P=y at*
 generalize dig a j=d at*
 generalize dig b j=e at*
 have:P*(32768*q+d)+P<=P*(32768*q+e):=by
  rw[<-Nat.mul_succ];exact YFe _ (by omega)
 omega
def ordN(a b:Nat):Int:=if a<b then -1 else if b<a then 1 else 0
def pre(r:Nat->Nat):Nat->Nat
 |0=>0
 |i+1=>pre r i+r i*32768^i
theorem Yrf(r:Nat->Nat)(i:Nat):pre r (i+1)/32768^i=r i+pre r i/32768^i:=by
 show(pre r i+r i*32768^i)/32768^i=_
 rw[Nat.add_mul_div_right _ _ (Yo i),Nat.add_comm]
theorem Yvo(r:Nat->Nat)(i:Nat):(r i+pre r i/32768^i)/32768=pre r (i+1)/32768^(i+1):=by
 rw[<-Yrf,YFn,<-Yx]
theorem Yrh(r:Nat->Nat):∀(i d:Nat),pre r (i+d)%32768^i=pre r i%32768^i
 |_,0=>rfl
 |i,d+1=>by
  rw[<-Yrh r i d]
  show(pre r (i+d)+r (i+d)*32768^(i+d))%32768^i=_
  rw[YFi,YFc (32768^i),<-YFg,Nat.add_mul_mod_self_right]
theorem Yre(r:Nat->Nat){i n:Nat}(h:i<n):(r i+pre r i/32768^i)%32768=dig (pre r n) i:=by
 obtain⟨d,rfl⟩:∃d,n=i+1+d:=⟨n-i-1,by omega⟩
 rw[<-Yrf,<-Ybo (Nat.lt_succ_self i),Yrh,Ybo (Nat.lt_succ_self i)]
 rfl
theorem Yrd(f g:Nat->Nat):∀n,pre (fun i=>f i+g i) n=pre f n+pre g n
 |0=>rfl
 |n+1=>by show pre (fun i=>f i+g i) n+(f n+g n)*32768^n=(pre f n+f n*32768^n)+(pre g n+g n*32768^n);rw[Yrd f g n,YFw];omega
theorem YiI(a:Nat):∀n,pre (fun i=>dig a i) n=a%32768^n
 |0=>by simp [pre,Nat.mod_one]
 |n+1=>by show pre (fun i=>dig a i) n+dig a n*32768^n=_;rw[YiI a n,Yar,YFc]
theorem Yri(r:Nat->Nat)(j x:Nat):∀n,j<n->pre (fun i=>if i=j then r i+x else r i) n=pre r n+x*32768^j
 |0,h=>absurd h (YGe _)
 |n+1,h=>by
  show pre (fun i=>if i=j then r i+x else r i) n+(if n=j then r n+x else r n)*32768^n=(pre r n+r n*32768^n)+x*32768^j
  have same:∀m,m<=j->pre (fun i=>if i=j then r i+x else r i) m=pre r m:=by
   intro m
   induction m with
   |zero=>intro _;rfl
   |succ m ih=>
    intro hm
    show pre (fun i=>if i=j then r i+x else r i) m+(if m=j then r m+x else r m)*32768^m=pre r m+r m*32768^m
    rw[ih (by omega),if_neg (by omega)]
  rcases YFu j n with h'|h'
  ·rw[Yri r j x n h',if_neg (by omega)];omega
  ·obtain rfl:n=j:=by omega
   rw[same n (YFk _),if_pos rfl,YFw];omega
theorem Yrg(r:Nat->Nat)(q:Nat):∀n,(∀i,i<n->r i<=32767*q)->pre r n<=q*32768^n
 |0,_=>by simp [pre]
 |n+1,h=>by
  have h1:=Yrg r q n fun i hi=>h i (by omega)
  have h2:=YE9 (32768^n) (h n (by omega))
  show pre r n+r n*32768^n<=_
  rw[Yx]
  have e:q*(32768^n*32768)=q*32768^n+32767*q*32768^n:=by
   generalize 32768^n=P;grind
  omega
theorem Yt5(r:Nat->Nat)(q n:Nat)(h:∀i,i<n->r i<=32767*q):pre r n/32768^n<=q:=
 YFa (Nat.div_le_div_right (Yrg r q n h)) (by rw[Nat.mul_div_cancel _ (Yo n)];exact YFk _)
theorem Yvp(r:Nat->Nat)(q n:Nat)(hq:q<32768^4)(h:∀i,i<n->r i<=32767*q):pre r n<32768^(n+4):=by
 refine YFG (Yrg r q n h) ?_
 rw[YFi,YFc]
 exact Nat.mul_lt_mul_of_pos_left hq (Yo n)
set_option maxRecDepth 100000
set_option maxHeartbeats 4000000
def v107:VF:=⟨41,[.tmp 4],(ZR [Zi 4 0] (.seq (ZR [Zm 6 0,Zl 7 6,Zm 8 1,Zl 9 8,Zr 10 .neq 7 9] (ZC 10 (.seq (ZR [Zm 11 0,Zl 12 11,Zm 13 1,Zl 14 13,Zr 15 .lss 12 14] (ZC 15 (ZR [Zi 4 (-1)] .ret) .skip)) (ZR [Zi 4 1] .ret)) .skip)) (.seq (ZR [Zm 16 0,Zl 17 16,u1 18 (.ari .sub) [.tm 17,.cn (.int .i64 1)],Zm 5 18] (.block 0 (.loop (.seq (ZR [Zm 19 5,Zq 20 .geq 19 0] (ZC 20 .skip (.exit 0))) (.seq (.block 1 (.seq (.seq (.draw [] [Zu 23 0,Zu 24 5,ZX 25 1 23 24,Zv 26 1 25,Zu 27 1,Zu 28 5,ZX 29 1 27 28,Zv 30 1 29,w1 31 (.cmp .lss) [.tm 26,.tm 30]]) (ZC 31 (ZR [Zi 4 (-1)] .ret) .skip)) (.seq (.draw [] [Zu 32 0,Zu 33 5,ZX 34 1 32 33,Zv 35 1 34,Zu 36 1,Zu 37 5,ZX 38 1 36 37,Zv 39 1 38,w1 40 (.cmp .gtr) [.tm 35,.tm 39]]) (ZC 40 (ZR [Zi 4 1] .ret) .skip)))) (.region [Zm 21 5,u1 22 (.ari .sub) [.tm 21,.cn (.int .i64 1)],Zm 5 22])))))) (ZR [Zi 4 0] .ret))))⟩
theorem Yzq:Yg YE8 Tryz.f107=some v107:=by kernel_rfl
def v105:VF:=⟨14,[.tmp 2],(ZR [u1 2 .mov [.cn .nil]] (ZR [u1 3 .mov [.cn .nil]] (.seq (.block 0 (.loop (.seq (ZR [Zm 4 0,Zq 5 .gtr 4 0] (ZC 5 .skip (.exit 0))) (.block 1 (ZR [Zm 6 3,Zm 7 0,u1 8 .rem [.tm 7,.cn (.int .i64 32768)],u1 9 (.buildSlice 1 1 [(.int .i64 0)] [(0,1)]) [.tm 8],u1 10 (.append 1 8 [(.int .i64 0)]) [.tm 6,.tm 9],Zm 3 10] (.region [Zm 11 0,u1 12 .quo [.tm 11,.cn (.int .i64 32768)],Zm 0 12])))))) (ZR [Zm 13 3,Zm 2 13] .ret))))⟩
theorem Yzo:Yg YE8 Tryz.f105=some v105:=by kernel_rfl
def padP(a n sz:Nat)(get:Nat->List SV):Prop:=sz=1/\n<=100000/\a<32768^n/\∀k,k<n->leXL (get k) [.int .i64 (dig a k)]
theorem Yw{a n:Nat}(hn:n<=100000)(ha:a<32768^n):padP a n 1 (fun k=>[.int .i64 (dig a k)]):=⟨rfl,hn,ha,fun k _=>Yc _⟩
theorem Ye{a:Nat}(hn:nl a<=100000):padP a (nl a) 1 (fun k=>[.int .i64 (dig a k)]):=Yw hn (YbD a)
def natS(z:Bool)(a:Nat):SV:= .vs true z (nl a) 1 (fun k=>[.int .i64 (dig a k)])
theorem Ylt{hp:List HO}{i n m:Nat}{z zz:Bool}{get:Nat->List SV}{a:Nat}(hn:n=nl a)(hz:z=zz)(hi:getH hp i= .own z 1 m get)(hg:∀j,j<n->get j=[.int .i64 (dig a j)]):
 le 0 0 (expo hp (.own i 0 n 1)) (natS zz a):=by
 have e:expo hp (.own i 0 n 1)= .vs true z n 1 (fun k=>viewN true hp 2 (get (YbJ 0 k))):=by
  show view true hp (viewN true hp 2) (.own i 0 n 1)=_
  unfold view
  rw[hi];rfl
 rw[e]
 unfold natS
 rw[YtP]
 refine⟨id,hz,hn,rfl,fun j hj=>?_⟩
 show leXL (viewN true hp 2 (get j)) _
 rw[hg j hj]
 exact Yc _
theorem YaD{k:SV->List HO->Prop}{al:Bool}{hp:List HO}{i n m:Nat}{z zz:Bool}{get:Nat->List SV}{a:Nat}(h:k (natS zz a) [])(hn:n=nl a)(hz:z=zz)(hi:getH hp i= .own z 1 m get)(hg:∀j,j<n->get j=[.int .i64 (dig a j)]):
 YK al k (.own i 0 n 1) hp:=YE h (Ylt hn hz hi hg) (fun _=>by simp [natS,Yt,Ys])
theorem Yai{k:SV->List HO->Prop}{al:Bool}{hp:List HO}{t z:Bool}{a:Nat}(h:k (natS z a) []):YK al k (.vs true z (nl a) 1 (fun k=>[.int .i64 (dig a k)])) hp:=
 YE h (YB _ trivial) (fun _=>by simp [natS,Yt,Ys])
theorem Yqi(x:Nat):((x:Int)).tmod 32768=((x%32768:Nat):Int):=YGr rfl rfl
theorem Yqh{x:Nat}(h:x<=9223372036854775807):IntKind.i64.wrap (((x:Int)).tdiv 32768)=((x/32768:Nat):Int):=by
 have e:((x:Int)).tdiv 32768=((x/32768:Nat):Int):=YGg (y:=32768) rfl rfl
 rw[e,YE7 _ (by omega)]
def limbsC:Ctr:={ alias:=false,of:=fun l=>match l with
 | [.int .i64 n]=> .pre (0<=n/\n<=9223372036854775807) (.fin (natS (decide (nl n.toNat=0)) n.toNat) [])
 |_=>noC}
def cmpC:Ctr:={ alias:=false,of:=fun l=>match l with
 | [.vs _ _ n sz get,.vs _ _ m sz' get']=> .ex Nat fun a=> .ex Nat fun b=> .pre (padP a n sz get/\padP b m sz' get'/\n=nl a/\m=nl b) (.fin (.int .i64 (ordN a b)) [])
 |_=>noC}
def Q0:Env:={ ct:=fun _=>none,fn:=fun _=>none,meth:=fun _ _=>none}
theorem Ysh:Yu YE8 Q0:=by
 refine⟨fun f c h=>?_,fun f vf h=>?_,(fun _ _ _ h=>by cases h),by kernel_rfl,(fun _ h=>by cases h)⟩
 ·cases h
 ·cases h
theorem Yiy:limbsC.ok YE8 105:=by
 refine Yb Tryz.func105 Yzo Ysh 200 limbsC fun args k h=>?_
 simp only[limbsC]at h
 split at h
 ·rename_i n
  obtain⟨⟨h0,h1⟩,h⟩:=h
  obtain⟨n,rfl⟩:=YFW h0
  rw[YE4]at h
  refine⟨[.int .i64 n],by simp [leL,le],?_⟩
  (try dsimp only[v105,go_sem,reduceIte])
  (try simp only[Yd,YE5,YE3,reduceCtorEq,YE2])
  have hn5:nl n<=5:=nl_le.2 (by omega)
  refine Loop.keep [0,2] Nat (fun i=>[(0,.int .i64 ((n/32768^i:Nat):Int)),(3,.own 0 0 i 1)]) (fun i=>[(0,.own (decide (i=0)) 1 i (fun k=>[.int .i64 (dig n k)]))]) [.gone] (fun i=>i<=nl n) (fun i=>nl n-i) ?_ ?_
  ·refine⟨0,by omega,?_⟩
   (try dsimp only[go_sem,reduceIte])
   simp only[Ya]
   simp
  ·rintro i hi
   (try dsimp only[YE4,go_sem,reduceIte])
   (try simp only[Yd,YE5,YE3,reduceCtorEq,YE2])
   have hle:n/32768^i<=n:=YGd _ _
   refine⟨fun hlt=>?_,fun hge=>?_⟩
   ·have hin:i<nl n:=by
     rcases YFu i (nl n)with h'|h'
     ·exact h'
     ·rw[YGc (nl_le.1 h')]at hlt;exact absurd hlt (by decide)
    rw[Yqi,Yqh (by omega),YFn,<-Yx]
    (try dsimp only[go_sem,reduceIte])
    (try simp only[Yd,YE5,YE3,reduceCtorEq,YE2])
    refine⟨by decide,by decide,⟨by unfold YN;omega,fun j hj=>?_⟩,by decide,i+1,by omega,by omega,?_⟩
    ·match j,hj with
     |0,_=>exact⟨rfl,trivial,trivial⟩
    ·simp only[Ya]
     refine⟨by simp,by simp,fun j hj=>?_⟩
     rcases YFu j i with h'|h'
     ·rw[if_pos h'];simp only[leL,le,and_self]
     ·obtain rfl:j=i:=by omega
      rw[if_neg (Nat.lt_irrefl _),Nat.sub_self]
      simp only[Yj,YI,YD,leL,Nat.zero_mul,Ydy,refs,cond,le,dig,and_self]
   ·have hin:i=nl n:=by
     have:n<32768^i:=by
      rcases YFu n (32768^i)with h'|h'
      ·exact h'
      ·have:=Nat.div_pos h' (Yo i);omega
     have:=nl_le.2 this;omega
    subst hin
    exact YaD h rfl rfl rfl fun j hj=>rfl
 ·exact h.1.elim
theorem YdX:cmpC.ok YE8 107:=by
 refine Yb Tryz.func107 Yzq Ysh 200 cmpC fun args k h=>?_
 simp only[cmpC]at h
 split at h
 ·rename_i t1 z1 n sz get t2 z2 m sz' get'
  obtain⟨a,b,⟨⟨rfl,hn,ha,hg⟩,⟨rfl,hm,hb,hg'⟩,rfl,rfl⟩,h⟩:=h
  refine⟨[.vs t1 z1 (nl a) 1 (fun k=>[.int .i64 (dig a k)]),.vs t2 z2 (nl b) 1 (fun k=>[.int .i64 (dig b k)])],⟨by simpa [le]using hg,by simpa [le]using hg',trivial⟩,?_⟩
  (try dsimp only[v107,go_sem,reduceIte])
  (try simp only[Yd,YE5,YE3,reduceCtorEq,YE2])
  refine⟨fun hne=>⟨fun hlt=>Yh ?_,fun hge=>Yh ?_⟩,fun heq=>?_⟩
  ·have:a<b:=by
    rcases YFu a b with h'|h'
    ·exact h'
    ·have:=Ybu h';omega
   rw[ordN,if_pos this]at h;exact h
  ·have:b<a:=by
    rcases YFu b a with h'|h'
    ·exact h'
    ·have:=Ybu h';omega
   rw[ordN,if_neg (by omega),if_pos this]at h;exact h
  ·refine Loop.keep [0,0,3] Nat (fun j=>[(5,.int .i64 ((j:Int)-1))]) (fun _=>[]) [] (fun j=>j<=nl a/\∀i,j<=i->dig a i=dig b i) (fun j=>j) ?_ ?_
   ·refine⟨nl a,⟨by omega,fun i hi=>by rw[Y3 ha (by omega),Y3 hb (by omega)]⟩,?_⟩
    (try dsimp only[go_sem,reduceIte])
    simp only[Ya]
    rw[YE7 _ (by omega)]
   ·rintro j ⟨hj,haj⟩
    (try dsimp only[YE4,go_sem,reduceIte])
    (try simp only[Yd,YE5,YE3,reduceCtorEq,YE2])
    refine⟨fun hlt=>?_,fun hge=>?_⟩
    ·obtain⟨i,rfl⟩:∃i,j=i+1:=⟨j-1,by omega⟩
     have e:((i+1:Nat):Int)-1=i:=by omega
     have gt:∀t,i<t->dig a t=dig b t:=fun t ht=>haj t (by omega)
     rw[e]
     simp only[YE4]
     refine⟨⟨by omega,by omega⟩,⟨by omega,by omega⟩,fun hc=>Yh ?_,fun hc=>⟨⟨by omega,by omega⟩,⟨by omega,by omega⟩,fun hd=>Yh ?_,fun hd=>?_⟩⟩
     ·have:=YdI gt (by omega:dig a i<dig b i)
      rw[ordN,if_pos this]at h;exact h
     ·have:=YdI (fun t ht=>(gt t ht).symm) (by omega:dig b i<dig a i)
      rw[ordN,if_neg (by omega),if_pos this]at h;exact h
     ·refine⟨i,⟨by omega,fun t ht=>?_⟩,by omega,?_⟩
      ·rcases Nat.eq_or_lt_of_le ht with rfl|ht
       ·omega
       ·exact gt t ht
      ·simp only[Ya]
       rw[YE7 _ (by omega)]
    ·obtain rfl:j=0:=by omega
     have:a=b:=YeB fun i=>haj i (YGj _)
     subst this
     rw[ordN,if_neg (Nat.lt_irrefl _),if_neg (Nat.lt_irrefl _)]at h
     exact Yh h
 ·exact h.1.elim
def v135:VF:=⟨21,[.tmp 2],(ZR [u1 2 .mov [.cn .nil]] (.seq (.block 0 (.loop (.seq (ZR [Zm 3 0,Zl 4 3,Zq 5 .gtr 4 0,Zm 6 5,Zg 7 6 true 0,Zg 8 6 true 0,u2 9 6 true .len [.tm 8],u2 10 6 true (.ari .sub) [.tm 9,.cn (.int .i64 1)],u2 11 6 true (.idxAddr 1) [.tm 7,.tm 10],Zh 12 6 true 1 11,u2 13 6 true (.cmp .eql) [.tm 12,.cn (.int .i64 0)],u1 14 .and [.tm 6,.tm 13]] (ZC 14 .skip (.exit 0))) (.block 1 (.region [Zm 15 0,Zm 16 0,Zl 17 16,u1 18 (.ari .sub) [.tm 17,.cn (.int .i64 1)],u1 19 (.slice 1 false true) [.tm 15,.tm 18],Zm 0 19]))))) (ZR [Zm 20 0,Zm 2 20] .ret)))⟩
theorem Yr5:Yg YE8 Tryz.f135=some v135:=by kernel_rfl
def v108:VF:=⟨35,[.tmp 2],(ZR [u1 2 .mov [.cn .nil]] (ZR [Zi 3 0] (.seq (ZR [Zi 4 0] (.block 0 (.loop (.seq (ZR [Zm 5 4,Zm 6 0,Zl 7 6,Zr 8 .lss 5 7] (ZC 8 .skip (.exit 0))) (.seq (.block 1 (ZR [Zm 11 3,Zm 12 0,Zm 13 4,Zx 14 1 12 13,Zf 15 1 14,Zo 16 .add 11 15,Zm 3 16] (ZR [Zm 17 0,Zm 18 4,Zm 19 3,u1 20 .rem [.tm 19,.cn (.int .i64 32768)],Zx 21 1 17 18,Zs 1 21 20] (.region [Zm 22 3,u1 23 .quo [.tm 22,.cn (.int .i64 32768)],Zm 3 23])))) (.region [Zm 9 4,Zp 10 9 1,Zm 4 10])))))) (.seq (.block 2 (.loop (.seq (ZR [Zm 24 3,Zq 25 .gtr 24 0] (ZC 25 .skip (.exit 2))) (.block 3 (ZR [Zm 26 0,Zm 27 3,u1 28 .rem [.tm 27,.cn (.int .i64 32768)],u1 29 (.buildSlice 1 1 [(.int .i64 0)] [(0,1)]) [.tm 28],u1 30 (.append 1 8 [(.int .i64 0)]) [.tm 26,.tm 29],Zm 0 30] (.region [Zm 31 3,u1 32 .quo [.tm 31,.cn (.int .i64 32768)],Zm 3 32])))))) (ZR [Zm 33 0,Zc 34 135 33,Zm 2 34] .ret)))))⟩
theorem Yzr:Yg YE8 Tryz.f108=some v108:=by kernel_rfl
def v77:VF:=⟨47,[.tmp 4],(ZR [u1 4 .mov [.cn .nil]] (ZR [Zm 8 0,Zl 9 8,Zm 10 1,Zl 11 10,u1 12 .max [.tm 9,.tm 11],u1 13 (.make 1 8 [(.int .i64 0)]) [.tm 12,.tm 12],Zm 5 13] (.seq (ZR [Zi 6 0] (.block 0 (.loop (.seq (ZR [Zm 14 6,Zm 15 0,Zl 16 15,Zr 17 .lss 14 16] (ZC 17 .skip (.exit 0))) (.seq (.block 1 (.region [Zm 20 5,Zm 21 6,Zm 22 0,Zm 23 6,Zx 24 1 22 23,Zf 25 1 24,Zx 26 1 20 21,Zs 1 26 25])) (.region [Zm 18 6,Zp 19 18 1,Zm 6 19])))))) (.seq (ZR [Zi 7 0] (.block 2 (.loop (.seq (ZR [Zm 27 7,Zm 28 1,Zl 29 28,Zr 30 .lss 27 29] (ZC 30 .skip (.exit 2))) (.seq (.block 3 (.draw [] [Zu 33 5,Zu 34 7,Zu 35 5,Zu 36 7,ZX 37 1 35 36,Zv 38 1 37,Zu 39 1,Zu 40 7,ZX 41 1 39 40,Zv 42 1 41,w1 43 (.ari .add) [.tm 38,.tm 42],ZX 44 1 33 34,ZS 1 44 43])) (.region [Zm 31 7,Zp 32 31 1,Zm 7 32])))))) (ZR [Zm 45 5,Zc 46 108 45,Zm 4 46] .ret)))))⟩
theorem YEF:Yg YE8 Tryz.f77=some v77:=by kernel_rfl
def v106:VF:=⟨49,[.tmp 4],(ZR [u1 4 .mov [.cn .nil]] (ZR [Zm 8 0,Zl 9 8,Zm 10 1,Zl 11 10,Zo 12 .add 9 11,u1 13 (.make 1 8 [(.int .i64 0)]) [.tm 12,.tm 12],Zm 5 13] (.seq (ZR [Zi 6 0] (.block 0 (.loop (.seq (ZR [Zm 14 6,Zm 15 0,Zl 16 15,Zr 17 .lss 14 16] (ZC 17 .skip (.exit 0))) (.seq (.block 1 (ZR [Zi 7 0] (.block 2 (.loop (.seq (ZR [Zm 20 7,Zm 21 1,Zl 22 21,Zr 23 .lss 20 22] (ZC 23 .skip (.exit 2))) (.seq (.block 3 (.draw [] [Zu 26 5,Zu 27 6,Zu 28 7,w1 29 (.ari .add) [.tm 27,.tm 28],Zu 30 5,Zu 31 6,Zu 32 7,w1 33 (.ari .add) [.tm 31,.tm 32],ZX 34 1 30 33,Zv 35 1 34,Zu 36 0,Zu 37 6,ZX 38 1 36 37,Zv 39 1 38,Zu 40 1,Zu 41 7,ZX 42 1 40 41,Zv 43 1 42,w1 44 (.ari .mul) [.tm 39,.tm 43],w1 45 (.ari .add) [.tm 35,.tm 44],ZX 46 1 26 29,ZS 1 46 45])) (.region [Zm 24 7,Zp 25 24 1,Zm 7 25]))))))) (.region [Zm 18 6,Zp 19 18 1,Zm 6 19])))))) (ZR [Zm 47 5,Zc 48 108 47,Zm 4 48] .ret))))⟩
theorem Yzp:Yg YE8 Tryz.f106=some v106:=by kernel_rfl
def addC:Ctr:={ alias:=false,of:=fun l=>match l with
 | [.vs _ _ n sz get,.vs _ _ m sz' get']=> .ex Nat fun a=> .ex Nat fun b=> .pre (padP a n sz get/\padP b m sz' get'/\n<=90000/\m<=90000) (.fin (natS false (a+b)) [])
 |_=>noC}
def Q1:Env:={ ct:=fun _=>none,fn:=fun n=>match n with|135=>some v135|108=>some v108|_=>none,meth:=fun _ _=>none}
theorem YlR:Q1.ct 135=none:=rfl
theorem YlT:Q1.fn 135=some v135:=rfl
theorem YlQ:Q1.ct 108=none:=rfl
theorem YlS:Q1.fn 108=some v108:=rfl
theorem YAt:Yu YE8 Q1:=by
 refine⟨fun f c h=>?_,fun f vf h=>?_,(fun _ _ _ h=>by cases h),by kernel_rfl,(fun _ h=>by cases h)⟩
 ·cases h
 ·simp only[Q1]at h
  split at h
  ·cases h;exact⟨Tryz.f135,Tryz.func135,Yr5,Tryz.f135,Tryz.func135,by kernel_rfl,by kernel_rfl⟩
  ·cases h;exact⟨Tryz.f108,Tryz.func108,Yzr,Tryz.f108,Tryz.func108,by kernel_rfl,by kernel_rfl⟩
  ·cases h
theorem YgX:addC.ok YE8 77:=by
 refine Yb Tryz.func77 YEF YAt 300 addC fun args k h=>?_
 simp only[addC]at h
 split at h
 ·rename_i t1 z1 n sz get t2 z2 m sz' get'
  obtain⟨a,b,⟨⟨rfl,hn,ha,hg⟩,⟨rfl,hm,hb,hg'⟩,hn9,hm9⟩,h⟩:=h
  refine⟨[.vs t1 z1 n 1 (fun k=>[.int .i64 (dig a k)]),.vs t2 z2 m 1 (fun k=>[.int .i64 (dig b k)])],⟨by simpa [le]using hg,by simpa [le]using hg',trivial⟩,?_⟩
  (try dsimp only[v77,go_sem,reduceIte])
  (try simp only[Yd,YE5,YE3,reduceCtorEq,YE2])
  have en:max (n:Int) (m:Int)=((max n m:Nat):Int):=by omega
  rw[en]
  simp only[YE4]
  refine⟨⟨by decide,by omega,by unfold YN;omega⟩,?_⟩
  refine Loop.keep [0,0,3] Nat (fun i=>[(6,.int .i64 i)]) (fun i=>[(0,.own false 1 (max n m) (fun k=>[.int .i64 ((if k<i then dig a k else 0:Nat):Int)]))]) [] (fun i=>i<=n) (fun i=>n-i) ?_ ?_
  ·refine⟨0,by omega,?_⟩
   (try dsimp only[go_sem,reduceIte])
   simp only[Ya]
   simp [leL,le]
  ·rintro i hi
   (try dsimp only[YE4,go_sem,reduceIte])
   (try simp only[Yd,YE5,YE3,reduceCtorEq,YE2])
   refine⟨fun hlt=>?_,fun hge=>?_⟩
   ·refine⟨⟨by omega,by omega⟩,⟨by omega,by omega⟩,by omega,i+1,by omega,by omega,?_⟩
    rw[YE7 ((i:Int)+1) (by omega)]
    simp only[Ya]
    refine⟨by simp,fun j hj=>?_⟩
    rcases Nat.lt_trichotomy j i with h'|h'|h'
    ·rw[if_neg (by omega),if_pos h',if_pos (by omega)];simp only[leL,le,and_self]
    ·subst h';rw[if_pos rfl,if_pos (by omega)];simp only[leL,le,and_self]
    ·rw[if_neg (by omega),if_neg (by omega),if_neg (by omega)];simp only[leL,le,and_self]
   ·obtain rfl:i=n:=by omega
    refine Loop.keep [0,0,3] Nat (fun j=>[(7,.int .i64 j)]) (fun j=>[(0,.own false 1 (max i m) (fun k=>[.int .i64 ((dig a k+(if k<j then dig b k else 0):Nat):Int)]))]) [] (fun j=>j<=m) (fun j=>m-j) ?_ ?_
    ·refine⟨0,by omega,?_⟩
     (try dsimp only[go_sem,reduceIte])
     simp only[Ya]
     refine⟨by simp,fun j hj=>?_⟩
     rcases YFu j i with h'|h'
     ·rw[if_pos h',if_neg (YGe _),YF8];try simp only[leL,le,and_self]
     ·rw[if_neg (by omega),if_neg (YGe _),Y3 ha h',YF8];try simp only[leL,le,and_self]
    ·rintro j hj
     (try dsimp only[YE4,go_sem,reduceIte])
     (try simp only[Yd,YE5,YE3,reduceCtorEq,YE2])
     refine⟨fun hlt=>?_,fun hge=>?_⟩
     ·refine⟨⟨by omega,by omega⟩,by omega,⟨by omega,by omega⟩,⟨by omega,by omega⟩,by omega,j+1,by omega,by omega,?_⟩
      have h1:=YJ a j
      have h2:=YJ b j
      have e:IntKind.i64.wrap (((dig a j+if j<j then dig b j else 0:Nat):Int)+(dig b j:Int))=((dig a j+dig b j:Nat):Int):=by
       rw[if_neg (Nat.lt_irrefl _),YE7 _ (by omega)];omega
      rw[YE7 ((j:Int)+1) (by omega),e]
      simp only[Ya]
      refine⟨by simp,fun q hq=>?_⟩
      rcases Nat.lt_trichotomy q j with h'|h'|h'
      ·rw[if_neg (by omega),if_pos h',if_pos (by omega)];simp only[leL,le,and_self]
      ·subst h';rw[if_pos rfl,if_pos (by omega)];simp only[leL,le,and_self]
      ·rw[if_neg (by omega),if_neg (by omega),if_neg (by omega)];simp only[leL,le,and_self]
     ·obtain rfl:j=m:=by omega
      have eR:(fun k=>[SV.int .i64 ((dig a k+(if k<j then dig b k else 0):Nat):Int)])=fun k=>[SV.int .i64 (((fun i=>dig a i+dig b i) k:Nat):Int)]:=by
       funext k
       split
       ·rfl
       ·rename_i hk;show _=[SV.int .i64 ((dig a k+dig b k:Nat):Int)];rw[Y3 hb (by omega)]
      rw[eR]
      have hX:pre (fun i=>dig a i+dig b i) (max i j)=a+b:=by
       rw[Yrd,YiI,YiI,YFT (YFS ha (YFq (by decide) (by omega))),YFT (YFS hb (YFq (by decide) (by omega)))]
      have hQ:∀q,q<max i j->(fun i=>dig a i+dig b i) q<=32767*35184372088832:=fun q _=>by
       have h1:=YJ a q
       have h2:=YJ b q
       show dig a q+dig b q<=_
       omega
      have hN:max i j<=90000:=by omega
      generalize hR:(fun i=>dig a i+dig b i)=R at hX hQ⊢
      generalize max i j=N at hX hQ hN⊢
      generalize a+b=X at hX h
      have hXN:X<32768^(N+4):=hX▸Yvp R 35184372088832 N (by decide) hQ
      (try dsimp only[YlQ,YlS,v108,YE4,go_sem,reduceIte])
      (try simp only[Yd,YE5,YE3,reduceCtorEq,YE2])
      refine Loop.keep [0,2,0] Nat (fun i=>[(3,.int .i64 ((pre R i/32768^i:Nat):Int)),(4,.int .i64 i)]) (fun i=>[(0,.own false 1 N (fun k=>[.int .i64 ((if k<i then dig X k else R k:Nat):Int)]))]) [] (fun i=>i<=N) (fun i=>N-i) ?_ ?_
      ·refine⟨0,by omega,?_⟩
       (try dsimp only[go_sem,reduceIte])
       simp only[Ya]
       simp [pre]
      ·rintro i hi
       (try dsimp only[YE4,go_sem,reduceIte])
       (try simp only[Yd,YE5,YE3,reduceCtorEq,YE2])
       refine⟨fun hlt=>?_,fun hge=>?_⟩
       ·have hin:i<N:=by omega
        refine⟨⟨by omega,by omega⟩,hin,by decide,⟨by omega,by omega⟩,hin,by decide,i+1,by omega,by omega,?_⟩
        have hc:=Yt5 R 35184372088832 i fun q hq=>hQ q (by omega)
        have hr:=hQ i hin
        have e:IntKind.i64.wrap (((pre R i/32768^i:Nat):Int)+((if i<i then dig X i else R i:Nat):Int))=((R i+pre R i/32768^i:Nat):Int):=by
         rw[if_neg (Nat.lt_irrefl _)]
         generalize pre R i/32768^i=c at hc
         generalize R i=r at hr
         rw[YE7 _ (by omega)];omega
        have hx:R i+pre R i/32768^i<=9223372036854775807:=by
         generalize pre R i/32768^i=c at hc
         omega
        rw[e,YE7 ((i:Int)+1) (by omega),Yqi,Yqh hx,Yre R hin,Yvo,hX]
        simp only[Ya]
        refine⟨⟨by omega,by simp⟩,⟨by omega,by omega⟩,fun q hq=>?_⟩
        rcases Nat.lt_trichotomy q i with h'|h'|h'
        ·rw[if_neg (by omega),if_pos h',if_pos (by omega)];simp only[leL,le,and_self]
        ·subst h';rw[if_pos rfl,if_pos (by omega)];simp only[leL,le,and_self]
        ·rw[if_neg (by omega),if_neg (by omega),if_neg (by omega)];simp only[leL,le,and_self]
       ·obtain rfl:i=N:=by omega
        rw[hX]
        refine Loop.keepP 0 [0,2] Nat (fun t=>[(0,.own 0 0 (i+t) 1),(3,.int .i64 ((X/32768^(i+t):Nat):Int))]) (fun t=>[(0,.own false 1 (i+t) (fun k=>[.int .i64 (dig X k)]))]) [] (fun t=>t<=4) (fun t=>4-t) ?_ ?_
        ·refine⟨0,by omega,?_⟩
         (try dsimp only[go_sem,reduceIte])
         simp only[Ya]
         refine⟨⟨⟨by omega,by omega⟩,by simp⟩,by omega,fun q hq=>by rw[if_pos hq]⟩
        ·rintro t ht
         (try dsimp only[YE4,go_sem,reduceIte])
         (try simp only[Yd,YE5,YE3,reduceCtorEq,YE2])
         refine⟨fun hlt=>?_,fun hge=>?_⟩
         ·have ht4:t<4:=by
           rcases YFu t 4 with h'|h'
           ·exact h'
           ·obtain rfl:t=4:=by omega
            rw[YGc hXN]at hlt;exact absurd hlt (by decide)
          have hc:=Yt5 R 35184372088832 i hQ
          rw[hX]at hc
          generalize hc0:X/32768^i=c0 at hc
          have hc2:X/32768^(i+t)<=c0:=by
           rw[<-hc0];rw[YFi,<-YFn];exact YGd _ _
          have hx:X/32768^(i+t)<=9223372036854775807:=YFa hc2 (by omega)
          rw[Yqi,Yqh hx,YFn,<-Yx]
          (try dsimp only[go_sem,reduceIte])
          (try simp only[Yd,YE5,YE3,reduceCtorEq,YE2])
          refine⟨by decide,by decide,⟨by unfold YN;omega,fun j hj=>?_⟩,by decide,t+1,by omega,by omega,?_⟩
          ·match j,hj with
           |0,_=>exact⟨rfl,trivial,trivial⟩
          ·simp only[Ya]
           refine⟨⟨⟨by omega,by omega⟩,by rw[Nat.add_assoc]⟩,rfl,by omega,fun q hq=>?_⟩
           rcases YFu q (i+t)with h'|h'
           ·rw[if_pos h'];simp only[leL,le,and_self]
           ·obtain rfl:q=i+t:=by omega
            rw[if_neg (Nat.lt_irrefl _),Nat.sub_self]
            simp only[Yj,YI,YD,leL,Nat.zero_mul,Ydy,refs,cond,le,dig,and_self]
         ·have hXT:X<32768^(i+t):=by
           rcases YFu X (32768^(i+t))with h'|h'
           ·exact h'
           ·have:=Nat.div_pos h' (Yo (i+t))
            generalize X/32768^(i+t)=c at*
            omega
          have hT:i+t<=90004:=by omega
          generalize i+t=M at hXT hT⊢
          (try dsimp only[YlR,YlT,v135,YE4,go_sem,reduceIte])
          (try simp only[Yd,YE5,YE3,reduceCtorEq,YE2])
          refine Loop.keep [0] Nat (fun j=>[(0,.own 0 0 j 1)]) (fun _=>[(0,.own false 1 M (fun k=>[.int .i64 (dig X k)]))]) [] (fun j=>j<=M/\X<32768^j) (fun j=>j) ?_ ?_
          ·refine⟨M,⟨YFk _,hXT⟩,?_⟩
           (try dsimp only[go_sem,reduceIte])
           simp only[Ya]
           exact⟨by omega,by omega,by omega⟩
          ·rintro j ⟨hj,haj⟩
           (try dsimp only[YE4,go_sem,reduceIte])
           (try simp only[Yd,YE5,YE3,reduceCtorEq,YE2])
           refine⟨fun hlt=>?_,fun hlt=>?_,fun hb=>?_,fun hb=>?_⟩
           ·rw[Ym (by omega) (by omega)];omega
           ·rw[Ym (by omega) (by omega)];omega
           ·rw[YFd,decide_eq_true_eq,decide_eq_true_eq]at hb
            obtain⟨h1,h2⟩:=hb
            rw[Ym (by omega) (by omega),YE4]at h2
            refine⟨by rw[Ym (by omega) (by omega)];omega,j-1,⟨by omega,?_⟩,by omega,?_⟩
            ·obtain⟨m,rfl⟩:∃m,j=m+1:=⟨j-1,by omega⟩
             exact Ya2 haj (by simp at h2;exact_mod_cast h2)
            ·rw[Ym (by omega) (by omega)]
             simp only[Ya] <;> simp [leL,le]
           ·have e:nl X=j:=by
             refine Yav haj ?_
             rw[YFZ,decide_eq_false_iff_not,decide_eq_false_iff_not]at hb
             rcases YFB j with h0|h0
             ·exact .inl h0
             ·refine .inr fun hh=>hb.elim (fun h=>h (by omega)) fun h=>h ?_
              rw[Ym h0 (by omega),YE4,hh];rfl
            subst e
            exact YaD h rfl rfl rfl fun j hj=>rfl
 ·exact h.1.elim
def mulC:Ctr:={ alias:=false,of:=fun l=>match l with
 | [.vs _ _ n sz get,.vs _ _ m sz' get']=> .ex Nat fun a=> .ex Nat fun b=> .pre (padP a n sz get/\padP b m sz' get'/\n<=40000/\m<=40000) (.fin (natS false (a*b)) [])
 |_=>noC}
theorem Yx9{a b i k V:Nat}(h:V=(a%32768^i)*b+dig a i*(b%32768^k)*32768^i):
 V+dig a i*dig b k*32768^(i+k)=(a%32768^i)*b+dig a i*(b%32768^(k+1))*32768^i:=by
 rw[h,Yar b k,YFi]
 generalize 32768^i=P
 generalize 32768^k=Q
 grind
theorem YtW{a b i m:Nat}(hb:b<32768^m):(a%32768^i)*b+dig a i*(b%32768^m)*32768^i=(a%32768^(i+1))*b:=by
 rw[Yar a i,YFT hb]
 generalize 32768^i=P
 grind
theorem YnF(a b:Nat):∃W,W<1073741824/\∀i k,dig a i*dig b k<=W:=by
 obtain⟨U,hU⟩:∃U,U=32767:=⟨_,rfl⟩
 refine⟨U*U,by subst hU;decide,fun i k=>YFt ?_ ?_⟩
 ·have:=YJ a i;omega
 ·have:=YJ b k;omega
theorem YqW:mulC.ok YE8 106:=by
 refine Yb Tryz.func106 Yzp YAt 300 mulC fun args k h=>?_
 simp only[mulC]at h
 split at h
 ·rename_i t1 z1 n sz get t2 z2 m sz' get'
  obtain⟨a,b,⟨⟨rfl,hn,ha,hg⟩,⟨rfl,hm,hb,hg'⟩,hn9,hm9⟩,h⟩:=h
  refine⟨[.vs t1 z1 n 1 (fun k=>[.int .i64 (dig a k)]),.vs t2 z2 m 1 (fun k=>[.int .i64 (dig b k)])],⟨by simpa [le]using hg,by simpa [le]using hg',trivial⟩,?_⟩
  (try dsimp only[v106,go_sem,reduceIte])
  (try simp only[Yd,YE5,YE3,reduceCtorEq,YE2])
  obtain⟨W,hW,hWl⟩:=YnF a b
  have en:IntKind.i64.wrap ((n:Int)+(m:Int))=((n+m:Nat):Int):=by rw[YE7 _ (by omega)];omega
  rw[en]
  simp only[YE4]
  refine⟨⟨by decide,by omega,by unfold YN;omega⟩,?_⟩
  refine Loop.keep [0,0,3] (Nat×(Nat->Nat)) (fun x=>[(6,.int .i64 x.1)]) (fun x=>[(0,.own false 1 (n+m) (fun k=>[.int .i64 (x.2 k)]))]) [] (fun x=>x.1<=n/\pre x.2 (n+m)=(a%32768^x.1)*b/\∀q,x.2 q<=x.1*W) (fun x=>n-x.1) ?_ ?_
  ·refine⟨(0,fun _=>0),⟨YGj _,?_,fun q=>YGj _⟩,?_⟩
   ·have:∀N,pre (fun _=>0) N=0:=fun N=>by
     induction N with
     |zero=>rfl
     |succ N ih=>show pre (fun _=>0) N+0*32768^N=0;rw[ih,Nat.zero_mul]
    rw[this];simp [Nat.mod_one]
   ·(try dsimp only[go_sem,reduceIte])
    simp only[Ya]
    simp [leL,le]
  ·rintro⟨i,R⟩ ⟨hi,hR,hRb⟩
   dsimp only at hi hR hRb
   (try dsimp only[YE4,go_sem,reduceIte])
   (try simp only[Yd,YE5,YE3,reduceCtorEq,YE2])
   refine⟨fun hlt=>?_,fun hge=>?_⟩
   ·refine Loop.keep [0,0,3,0] (Nat×(Nat->Nat)) (fun x=>[(7,.int .i64 x.1)]) (fun x=>[(0,.own false 1 (n+m) (fun k=>[.int .i64 (x.2 k)]))]) [] (fun x=>x.1<=m/\pre x.2 (n+m)=(a%32768^i)*b+dig a i*(b%32768^x.1)*32768^i/\∀q,x.2 q<=(if q<i+x.1 then i+1 else i)*W) (fun x=>m-x.1) ?_ ?_
    ·refine⟨(0,R),⟨YGj _,by simp [hR,Nat.mod_one],fun q=>?_⟩,?_⟩
     ·have:=hRb q
      dsimp only
      split
      ·exact YFa this (YE9 _ (Nat.le_succ _))
      ·exact this
     ·(try dsimp only[go_sem,reduceIte])
      simp only[Ya]
      simp [leL,le]
    ·rintro⟨j,S⟩ ⟨hj,hS,hSb⟩
     dsimp only at hj hS hSb
     (try dsimp only[YE4,go_sem,reduceIte])
     (try simp only[Yd,YE5,YE3,reduceCtorEq,YE2])
     refine⟨fun hlt2=>?_,fun hge2=>?_⟩
     ·have w:IntKind.i64.wrap ((i:Int)+(j:Int))=((i+j:Nat):Int):=by rw[YE7 _ (by omega)];omega
      have hp:=hWl i j
      have hiW:i*W<=40000*1073741824:=YFt (by omega) (by omega)
      have hs:=hSb (i+j)
      rw[if_neg (Nat.lt_irrefl _)]at hs
      have e:IntKind.i64.wrap ((S (i+j):Int)+IntKind.i64.wrap ((dig a i:Int)*(dig b j:Int)))=((S (i+j)+dig a i*dig b j:Nat):Int):=by
       rw[<-YFU]
       generalize dig a i*dig b j=p at hp⊢
       generalize i*W=v at hs hiW
       rw[YE7 (p:Int) (by omega),YE7 _ (by omega)];omega
      rw[w]
      simp only[YE4]
      refine⟨⟨by omega,by omega⟩,by omega,⟨by omega,by omega⟩,⟨by omega,by omega⟩,⟨by omega,by omega⟩,by omega,(j+1,fun q=>if q=i+j then S q+dig a i*dig b j else S q),⟨by dsimp only;omega,?_,fun q=>?_⟩,by dsimp only;omega,?_⟩
      ·dsimp only
       rw[Yri S (i+j) (dig a i*dig b j) (n+m) (by omega)]
       exact Yx9 hS
      ·dsimp only
       have hq:=hSb q
       rcases Nat.lt_trichotomy q (i+j)with h'|h'|h'
       ·rw[if_pos h']at hq
        rw[if_neg (by omega),if_pos (by omega)];exact hq
       ·subst h'
        rw[if_pos rfl,if_pos (by omega),YGp]
        exact Nat.add_le_add hs hp
       ·rw[if_neg (by omega)]at hq
        rw[if_neg (by omega),if_neg (by omega)];exact hq
      ·rw[e,YE7 ((j:Int)+1) (by omega)]
       simp only[Ya]
       refine⟨⟨by omega,by omega⟩,fun q hq=>?_⟩
       rcases Nat.lt_trichotomy q (i+j)with h'|h'|h'
       ·rw[if_neg (by omega),if_neg (by omega)];simp only[leL,le,and_self]
       ·subst h';rw[if_pos rfl,if_pos rfl];simp only[leL,le,and_self]
       ·rw[if_neg (by omega),if_neg (by omega)];simp only[leL,le,and_self]
     ·obtain rfl:j=m:=by omega
      refine⟨(i+1,S),⟨by dsimp only;omega,?_,fun q=>?_⟩,by dsimp only;omega,?_⟩
      ·dsimp only
       rw[hS];exact YtW hb
      ·have:=hSb q
       dsimp only
       split at this
       ·exact this
       ·exact YFa this (YE9 _ (Nat.le_succ _))
      ·rw[YE7 ((i:Int)+1) (by omega)]
       simp only[Ya]
       exact⟨by omega,by omega⟩
   ·obtain rfl:i=n:=by omega
    have hX:pre R (i+m)=a*b:=by rw[hR,YFT ha]
    have hQ:∀q,q<i+m->R q<=32767*35184372088832:=fun q _=>by
     have:=hRb q
     have hiW:i*W<=40000*1073741824:=YFt (by omega) (by omega)
     omega
    have hN:i+m<=90000:=by omega
    generalize i+m=N at hX hQ hN⊢
    generalize a*b=X at hX h
    have hXN:X<32768^(N+4):=hX▸Yvp R 35184372088832 N (by decide) hQ
    (try dsimp only[YlQ,YlS,v108,YE4,go_sem,reduceIte])
    (try simp only[Yd,YE5,YE3,reduceCtorEq,YE2])
    refine Loop.keep [0,2,0] Nat (fun i=>[(3,.int .i64 ((pre R i/32768^i:Nat):Int)),(4,.int .i64 i)]) (fun i=>[(0,.own false 1 N (fun k=>[.int .i64 ((if k<i then dig X k else R k:Nat):Int)]))]) [] (fun i=>i<=N) (fun i=>N-i) ?_ ?_
    ·refine⟨0,by omega,?_⟩
     (try dsimp only[go_sem,reduceIte])
     simp only[Ya]
     simp [pre]
    ·rintro i hi
     (try dsimp only[YE4,go_sem,reduceIte])
     (try simp only[Yd,YE5,YE3,reduceCtorEq,YE2])
     refine⟨fun hlt=>?_,fun hge=>?_⟩
     ·have hin:i<N:=by omega
      refine⟨⟨by omega,by omega⟩,hin,by decide,⟨by omega,by omega⟩,hin,by decide,i+1,by omega,by omega,?_⟩
      have hc:=Yt5 R 35184372088832 i fun q hq=>hQ q (by omega)
      have hr:=hQ i hin
      have e:IntKind.i64.wrap (((pre R i/32768^i:Nat):Int)+((if i<i then dig X i else R i:Nat):Int))=((R i+pre R i/32768^i:Nat):Int):=by
       rw[if_neg (Nat.lt_irrefl _)]
       generalize pre R i/32768^i=c at hc
       generalize R i=r at hr
       rw[YE7 _ (by omega)];omega
      have hx:R i+pre R i/32768^i<=9223372036854775807:=by
       generalize pre R i/32768^i=c at hc
       omega
      rw[e,YE7 ((i:Int)+1) (by omega),Yqi,Yqh hx,Yre R hin,Yvo,hX]
      simp only[Ya]
      refine⟨⟨by omega,by simp⟩,⟨by omega,by omega⟩,fun q hq=>?_⟩
      rcases Nat.lt_trichotomy q i with h'|h'|h'
      ·rw[if_neg (by omega),if_pos h',if_pos (by omega)];simp only[leL,le,and_self]
      ·subst h';rw[if_pos rfl,if_pos (by omega)];simp only[leL,le,and_self]
      ·rw[if_neg (by omega),if_neg (by omega),if_neg (by omega)];simp only[leL,le,and_self]
     ·obtain rfl:i=N:=by omega
      rw[hX]
      refine Loop.keepP 0 [0,2] Nat (fun t=>[(0,.own 0 0 (i+t) 1),(3,.int .i64 ((X/32768^(i+t):Nat):Int))]) (fun t=>[(0,.own false 1 (i+t) (fun k=>[.int .i64 (dig X k)]))]) [] (fun t=>t<=4) (fun t=>4-t) ?_ ?_
      ·refine⟨0,by omega,?_⟩
       (try dsimp only[go_sem,reduceIte])
       simp only[Ya]
       refine⟨⟨⟨by omega,by omega⟩,by simp⟩,by omega,fun q hq=>by rw[if_pos hq]⟩
      ·rintro t ht
       (try dsimp only[YE4,go_sem,reduceIte])
       (try simp only[Yd,YE5,YE3,reduceCtorEq,YE2])
       refine⟨fun hlt=>?_,fun hge=>?_⟩
       ·have ht4:t<4:=by
         rcases YFu t 4 with h'|h'
         ·exact h'
         ·obtain rfl:t=4:=by omega
          rw[YGc hXN]at hlt;exact absurd hlt (by decide)
        have hc:=Yt5 R 35184372088832 i hQ
        rw[hX]at hc
        generalize hc0:X/32768^i=c0 at hc
        have hc2:X/32768^(i+t)<=c0:=by
         rw[<-hc0];rw[YFi,<-YFn];exact YGd _ _
        have hx:X/32768^(i+t)<=9223372036854775807:=YFa hc2 (by omega)
        rw[Yqi,Yqh hx,YFn,<-Yx]
        (try dsimp only[go_sem,reduceIte])
        (try simp only[Yd,YE5,YE3,reduceCtorEq,YE2])
        refine⟨by decide,by decide,⟨by unfold YN;omega,fun j hj=>?_⟩,by decide,t+1,by omega,by omega,?_⟩
        ·match j,hj with
         |0,_=>exact⟨rfl,trivial,trivial⟩
        ·simp only[Ya]
         refine⟨⟨⟨by omega,by omega⟩,by rw[Nat.add_assoc]⟩,rfl,by omega,fun q hq=>?_⟩
         rcases YFu q (i+t)with h'|h'
         ·rw[if_pos h'];simp only[leL,le,and_self]
         ·obtain rfl:q=i+t:=by omega
          rw[if_neg (Nat.lt_irrefl _),Nat.sub_self]
          simp only[Yj,YI,YD,leL,Nat.zero_mul,Ydy,refs,cond,le,dig,and_self]
       ·have hXT:X<32768^(i+t):=by
         rcases YFu X (32768^(i+t))with h'|h'
         ·exact h'
         ·have:=Nat.div_pos h' (Yo (i+t))
          generalize X/32768^(i+t)=c at*
          omega
        have hT:i+t<=90004:=by omega
        generalize i+t=M at hXT hT⊢
        (try dsimp only[YlR,YlT,v135,YE4,go_sem,reduceIte])
        (try simp only[Yd,YE5,YE3,reduceCtorEq,YE2])
        refine Loop.keep [0] Nat (fun j=>[(0,.own 0 0 j 1)]) (fun _=>[(0,.own false 1 M (fun k=>[.int .i64 (dig X k)]))]) [] (fun j=>j<=M/\X<32768^j) (fun j=>j) ?_ ?_
        ·refine⟨M,⟨YFk _,hXT⟩,?_⟩
         (try dsimp only[go_sem,reduceIte])
         simp only[Ya]
         exact⟨by omega,by omega,by omega⟩
        ·rintro j ⟨hj,haj⟩
         (try dsimp only[YE4,go_sem,reduceIte])
         (try simp only[Yd,YE5,YE3,reduceCtorEq,YE2])
         refine⟨fun hlt=>?_,fun hlt=>?_,fun hb=>?_,fun hb=>?_⟩
         ·rw[Ym (by omega) (by omega)];omega
         ·rw[Ym (by omega) (by omega)];omega
         ·rw[YFd,decide_eq_true_eq,decide_eq_true_eq]at hb
          obtain⟨h1,h2⟩:=hb
          rw[Ym (by omega) (by omega),YE4]at h2
          refine⟨by rw[Ym (by omega) (by omega)];omega,j-1,⟨by omega,?_⟩,by omega,?_⟩
          ·obtain⟨m,rfl⟩:∃m,j=m+1:=⟨j-1,by omega⟩
           exact Ya2 haj (by simp at h2;exact_mod_cast h2)
          ·rw[Ym (by omega) (by omega)]
           simp only[Ya] <;> simp [leL,le]
         ·have e:nl X=j:=by
           refine Yav haj ?_
           rw[YFZ,decide_eq_false_iff_not,decide_eq_false_iff_not]at hb
           rcases YFB j with h0|h0
           ·exact .inl h0
           ·refine .inr fun hh=>hb.elim (fun h=>h (by omega)) fun h=>h ?_
            rw[Ym h0 (by omega),YE4,hh];rfl
          subst e
          exact YaD h rfl rfl rfl fun j hj=>rfl
 ·exact h.1.elim
def v132:VF:=⟨19,[.tmp 4],(ZR [u1 4 .mov [.cn .nil]] (ZR [Zm 6 1,u1 7 .quo [.tm 6,.cn (.int .i64 15)],u1 8 (.make 1 8 [(.int .i64 0)]) [.tm 7,.tm 7],Zm 5 8] (ZR [Zm 9 5,Zm 10 0,Zm 11 1,u1 12 .rem [.tm 11,.cn (.int .i64 15)],u1 13 (.conv .u64) [.tm 12],u1 14 .shl [.cn (.int .i64 1),.tm 13],Zc 15 105 14,Zd 16 106 10 15,u1 17 (.append 1 8 [(.int .i64 0)]) [.tm 9,.tm 16],Zc 18 135 17,Zm 4 18] .ret)))⟩
theorem YzK:Yg YE8 Tryz.f132=some v132:=by kernel_rfl
def v133:VF:=⟨40,[.tmp 6],(ZR [u1 6 .mov [.cn .nil]] (ZR [Zm 11 0,Zm 12 0,Zd 13 106 11 12,Zm 7 13] (ZR [Zm 14 1,u1 15 .quo [.tm 14,.cn (.int .i64 15)],Zm 16 7,Zl 17 16,u1 18 .min [.tm 15,.tm 17],Zm 8 18] (ZR [u1 19 (.buildSlice 1 0 [(.int .i64 0)] []) [],Zm 20 7,Zm 21 8,u1 22 (.slice 1 false true) [.tm 20,.tm 21],u1 23 (.append 1 8 [(.int .i64 0)]) [.tm 19,.tm 22],Zc 24 135 23,Zm 9 24] (ZR [u1 25 (.buildSlice 1 0 [(.int .i64 0)] []) [],Zm 26 7,Zm 27 8,u1 28 (.slice 1 true false) [.tm 26,.tm 27],u1 29 (.append 1 8 [(.int .i64 0)]) [.tm 25,.tm 28],Zm 10 29] (.seq (ZR [Zm 30 2,Zm 31 30,Zg 32 31 true 9,u2 33 31 true .len [.tm 32],u2 34 31 true (.cmp .gtr) [.tm 33,.cn (.int .i64 0)],u1 35 .and [.tm 31,.tm 34]] (ZC 35 (.region [Zm 36 10,u1 37 (.call 105) [.cn (.int .i64 1)],Zd 38 77 36 37,Zm 10 38]) .skip)) (ZR [Zm 39 10,Zm 6 39] .ret)))))))⟩
theorem YzL:Yg YE8 Tryz.f133=some v133:=by kernel_rfl
def v134:VF:=⟨38,[.tmp 4],(ZR [u1 4 .mov [.cn .nil]] (.seq (ZR [Zm 8 1] (ZC 8 (.region [Zm 9 0,u1 10 (.call 105) [.cn (.int .i64 1)],Zd 11 77 9 10,Zm 0 11]) .skip)) (ZR [Zm 12 0,Zl 13 12,u1 14 (.make 1 8 [(.int .i64 0)]) [.tm 13,.tm 13],Zm 5 14] (ZR [Zi 6 0] (.seq (ZR [Zm 15 0,Zl 16 15,u1 17 (.ari .sub) [.tm 16,.cn (.int .i64 1)],Zm 7 17] (.block 0 (.loop (.seq (ZR [Zm 18 7,Zq 19 .geq 18 0] (ZC 19 .skip (.exit 0))) (.seq (.block 1 (ZR [Zm 22 6,u1 23 (.ari .mul) [.cn (.int .i64 32768),.tm 22],Zm 24 0,Zm 25 7,Zx 26 1 24 25,Zf 27 1 26,Zo 28 .add 23 27,Zm 6 28] (ZR [Zm 29 5,Zm 30 7,Zm 31 6,u1 32 .quo [.tm 31,.cn (.int .i64 2)],Zx 33 1 29 30,Zs 1 33 32] (.region [Zm 34 6,u1 35 .rem [.tm 34,.cn (.int .i64 2)],Zm 6 35])))) (.region [Zm 20 7,u1 21 (.ari .sub) [.tm 20,.cn (.int .i64 1)],Zm 7 21])))))) (ZR [Zm 36 5,Zc 37 135 36,Zm 4 37] .ret))))))⟩
theorem YzM:Yg YE8 Tryz.f134=some v134:=by kernel_rfl
theorem Yw2(y s k:Nat):dig (y*32768^s) k=if k<s then 0 else dig y (k-s):=by
 unfold dig
 split
 ·rename_i h
  obtain⟨d,rfl⟩:∃d,s=k+(d+1):=⟨s-k-1,by omega⟩
  rw[YFi,<-YFg,Nat.mul_right_comm,Nat.mul_div_cancel _ (Yo k),Yx,<-YFg,Nat.mul_mod_left]
 ·rename_i h
  obtain⟨d,rfl⟩:∃d,k=s+d:=⟨k-s,by omega⟩
  rw[YFi,<-YFn,Nat.mul_div_cancel _ (Yo s),Nat.add_sub_cancel_left]
theorem YvA(a n:Nat):a*2^(n%15)*32768^(n/15)=a*2^n:=by
 have:(32768:Nat)=2^15:=by decide
 rw[this,<-YFh,YFg,<-YFi,Nat.mod_add_div]
def shiftC:Ctr:={ alias:=false,of:=fun l=>match l with
 | [.vs _ _ n sz get,.int .i64 q]=> .ex Nat fun a=> .pre (padP a n sz get/\n<=30000/\0<=q/\q<=300000) (.fin (natS false (a*2^q.toNat)) [])
 |_=>noC}
def Q2:Env:={ ct:=fun n=>match n with|105=>some limbsC|106=>some mulC|77=>some addC|_=>none,fn:=fun n=>match n with|135=>some v135|_=>none,meth:=fun _ _=>none}
theorem Yfg:Q2.ct 105=some limbsC:=rfl
theorem YlU:Q2.ct 106=some mulC:=rfl
theorem YkR:Q2.ct 77=some addC:=rfl
theorem YhA:Q2.ct 135=none:=rfl
theorem YhB:Q2.fn 135=some v135:=rfl
theorem YvX:Yu YE8 Q2:=by
 refine⟨fun f c h=>?_,fun f vf h=>?_,(fun _ _ _ h=>by cases h),by kernel_rfl,(fun _ h=>by cases h)⟩
 ·simp only[Q2]at h
  split at h
  ·cases h;exact⟨Yiy,Tryz.f105,Tryz.func105,by kernel_rfl,by kernel_rfl⟩
  ·cases h;exact⟨YqW,Tryz.f106,Tryz.func106,by kernel_rfl,by kernel_rfl⟩
  ·cases h;exact⟨YgX,Tryz.f77,Tryz.func77,by kernel_rfl,by kernel_rfl⟩
  ·cases h
 ·simp only[Q2]at h
  split at h
  ·cases h;exact⟨Tryz.f135,Tryz.func135,Yr5,Tryz.f135,Tryz.func135,by kernel_rfl,by kernel_rfl⟩
  ·cases h
theorem Yct:shiftC.ok YE8 132:=by
 refine Yb Tryz.func132 YzK YvX 300 shiftC fun args k h=>?_
 simp only[shiftC]at h
 split at h
 ·rename_i t1 z1 n sz get q
  obtain⟨a,⟨⟨rfl,hn,ha,hg⟩,hn9,h0,h1⟩,h⟩:=h
  obtain⟨q,rfl⟩:=YFW h0
  rw[YE4]at h
  refine⟨[.vs t1 z1 n 1 (fun k=>[.int .i64 (dig a k)]),.int .i64 q],⟨by simpa [le]using hg,⟨rfl,rfl⟩,trivial⟩,?_⟩
  (try dsimp only[v132,Yfg,YlU,limbsC,mulC,natS,YE4,go_sem,reduceIte])
  (try simp only[Yd,YE5,YE3,reduceCtorEq,YE2])
  have w1:IntKind.i64.wrap ((q:Int).tdiv 15)=((q/15:Nat):Int):=by
   have:(q:Int).tdiv 15=((q/15:Nat):Int):=YGg (y:=15) rfl rfl
   rw[this,YE7 _ (by omega)]
  have w2:IntKind.u64.wrap ((q:Int).tmod 15)=((q%15:Nat):Int):=by
   have:(q:Int).tmod 15=((q%15:Nat):Int):=YGr (y:=15) rfl rfl
   rw[this,YFN _ (by omega)]
  have hp:2^(q%15)<32768:=YFS (Nat.pow_lt_pow_right (by decide) (YFC _ (by decide)):2^(q%15)<2^15) (by decide)
  have w3:IntKind.i64.wrap (1*2^min (q%15) 64)=((2^(q%15):Nat):Int):=by
   have e4:min (q%15) 64=q%15:=by omega
   have e5:(1:Int)*2^(q%15)=((2^(q%15):Nat):Int):=by simp
   rw[e4,e5]
   generalize 2^(q%15)=P at hp⊢
   exact YE7 _ (by omega)
  have hp2:(0:Int)<=((2^(q%15):Nat):Int)/\((2^(q%15):Nat):Int)<=9223372036854775807:=by
   generalize 2^(q%15)=P at hp⊢
   omega
  rw[w1,w2]
  simp only[YE4]
  simp only[w3,YE4]
  have hl1:nl (2^(q%15))<=1:=nl_le.2 (by simpa using hp)
  have hX:a*2^(q%15)<32768^(n+1):=by
   rw[Yx];exact Nat.mul_lt_mul'' ha hp
  have hl2:=nl_le.2 hX
  refine⟨by decide,⟨by decide,by omega,by omega,by unfold YN;omega⟩,by decide,by omega,hp2,a,2^(q%15),⟨Yw hn ha,Ye (by omega),by omega,by omega⟩,by unfold YN;omega,?_⟩
  have eR:(fun k=>if k<q/15 then [SV.int .i64 0]else [SV.int .i64 ((dig (a*2^(q%15)) (k-q/15):Nat):Int)])=fun k=>[SV.int .i64 ((dig (a*2^q) k:Nat):Int)]:=by
   funext k
   rw[<-YvA a q,Yw2]
   split
   ·rfl
   ·rfl
  rw[eR,YGi]
  have hT:q/15+nl (a*2^(q%15))<=90004:=by omega
  have hXT:a*2^q<32768^(q/15+nl (a*2^(q%15))):=by
   rw[<-YvA a q,Nat.add_comm,YFi]
   exact Nat.mul_lt_mul_of_pos_right (YbD _) (Yo _)
  generalize q/15+nl (a*2^(q%15))=M at hXT hT⊢
  generalize a*2^q=X at hXT h⊢
  (try dsimp only[YhA,YhB,v135,YE4,go_sem,reduceIte])
  (try simp only[Yd,YE5,YE3,reduceCtorEq,YE2])
  refine Loop.keep [0] Nat (fun j=>[(0,.own 0 0 j 1)]) (fun _=>[(0,.own false 1 M (fun k=>[.int .i64 (dig X k)]))]) [] (fun j=>j<=M/\X<32768^j) (fun j=>j) ?_ ?_
  ·refine⟨M,⟨YFk _,hXT⟩,?_⟩
   (try dsimp only[go_sem,reduceIte])
   simp only[Ya]
   omega
  ·rintro j ⟨hj,haj⟩
   (try dsimp only[YE4,go_sem,reduceIte])
   (try simp only[Yd,YE5,YE3,reduceCtorEq,YE2])
   refine⟨fun hlt=>?_,fun hlt=>?_,fun hb=>?_,fun hb=>?_⟩
   ·rw[Ym (by omega) (by omega)];omega
   ·rw[Ym (by omega) (by omega)];omega
   ·rw[YFd,decide_eq_true_eq,decide_eq_true_eq]at hb
    obtain⟨h1,h2⟩:=hb
    rw[Ym (by omega) (by omega),YE4]at h2
    refine⟨by rw[Ym (by omega) (by omega)];omega,j-1,⟨by omega,?_⟩,by omega,?_⟩
    ·obtain⟨m,rfl⟩:∃m,j=m+1:=⟨j-1,by omega⟩
     exact Ya2 haj (by simp at h2;exact_mod_cast h2)
    ·rw[Ym (by omega) (by omega)]
     simp only[Ya] <;> simp [leL,le]
   ·have e:nl X=j:=by
     refine Yav haj ?_
     rw[YFZ,decide_eq_false_iff_not,decide_eq_false_iff_not]at hb
     rcases YFB j with h0|h0
     ·exact .inl h0
     ·refine .inr fun hh=>hb.elim (fun h=>h (by omega)) fun h=>h ?_
      rw[Ym h0 (by omega),YE4,hh];rfl
    subst e
    exact YaD h rfl rfl rfl fun j hj=>rfl
 ·exact h.1.elim
def halveC:Ctr:={ alias:=false,of:=fun l=>match l with
 | [.vs _ _ n sz get,.bool up]=> .ex Nat fun a=> .pre (padP a n sz get/\n<=40000) (.fin (natS false ((a+(if up then 1 else 0))/2)) [])
 |_=>noC}
theorem YxA(a i:Nat):(32768*(a/32768^(i+1)%2)+dig a i)%2=a/32768^i%2:=by
 unfold dig;rw[Yx,<-YFn]
 generalize a/32768^i=y
 omega
theorem YtD(a i:Nat):(32768*(a/32768^(i+1)%2)+dig a i)/2=dig (a/2) i:=by
 unfold dig;rw[Yx,<-YFn,YFn a 2,YFc 2,<-YFn a]
 generalize a/32768^i=y
 omega
theorem YtE:halveC.ok YE8 134:=by
 refine Yb Tryz.func134 YzM YvX 300 halveC fun args k h=>?_
 simp only[halveC]at h
 split at h
 ·rename_i t1 z1 n sz get up
  obtain⟨a,⟨⟨rfl,hn,ha,hg⟩,hn9⟩,h⟩:=h
  refine⟨[.vs t1 z1 n 1 (fun k=>[.int .i64 (dig a k)]),.bool up],⟨by simpa [le]using hg,rfl,trivial⟩,?_⟩
  (try dsimp only[v134,Yfg,YkR,limbsC,addC,natS,YE4,go_sem,reduceIte])
  (try simp only[Yd,YE5,YE3,reduceCtorEq,YE2])
  refine⟨fun hup=>⟨⟨by decide,by decide⟩,a,1,⟨Yw hn ha,Ye (by decide),by omega,by decide⟩,?_⟩,fun hup=>⟨?_,?_⟩⟩
  all_goals subst hup
  all_goals first
   |exact⟨by decide,by omega,by omega,by unfold YN;omega⟩
   | (have hl:nl (a+1)<=n+1:=nl_le.2 (by rw[Yx];omega)
      refine⟨⟨by decide,by omega,by omega,by unfold YN;omega⟩,?_⟩
      have hY:=YbD (a+1)
      have hL:nl (a+1)<=40001:=by omega
      have h:CSat (CRes.fin (natS false ((a+1)/2)) []) k:=h
      generalize nl (a+1)=L at hY hL⊢
      generalize a+1=Y at hY h⊢)
   | (have hY:=ha
      have hL:n<=40001:=by omega
      have h:CSat (CRes.fin (natS false (a/2)) []) k:=h
      generalize n=L at hY hL⊢
      generalize a=Y at hY h⊢)
  all_goals
   refine Loop.keep [0,4] Nat (fun j=>[(6,.int .i64 ((Y/32768^j%2:Nat):Int)),(7,.int .i64 ((j:Int)-1))]) (fun j=>[(0,.own false 1 L (fun k=>[.int .i64 ((if j<=k then dig (Y/2) k else 0:Nat):Int)]))]) [] (fun j=>j<=L) (fun j=>j) ?_ ?_
   ·refine⟨L,YFk _,?_⟩
    (try dsimp only[go_sem,reduceIte])
    simp only[Ya]
    rw[YGc hY,YE7 _ (by omega)]
    refine⟨⟨by omega,by simp,rfl⟩,fun q hq=>?_⟩
    rw[if_neg (by omega)];rfl
   ·rintro j hj
    (try dsimp only[YE4,go_sem,reduceIte])
    (try simp only[Yd,YE5,YE3,reduceCtorEq,YE2])
    refine⟨fun hlt=>?_,fun hge=>?_⟩
    ·obtain⟨i,rfl⟩:∃i,j=i+1:=⟨j-1,by omega⟩
     have e0:((i+1:Nat):Int)-1=i:=by omega
     rw[e0]
     simp only[YE4]
     refine⟨⟨by omega,by omega⟩,by decide,⟨by omega,by omega⟩,by omega,by decide,i,by omega,by omega,?_⟩
     have h1:=YxA Y i
     have h2:=YtD Y i
     have h3:=YJ Y i
     have h4:Y/32768^(i+1)%2<2:=YFC _ (by decide)
     generalize Y/32768^(i+1)%2=c at h1 h2 h4⊢
     have e1:IntKind.i64.wrap (IntKind.i64.wrap (32768*(c:Int))+((dig Y i:Nat):Int))=((32768*c+dig Y i:Nat):Int):=by
      rw[YE7 (32768*(c:Int)) (by omega),YE7 _ (by omega)];omega
     have e2:((32768*c+dig Y i:Nat):Int).tmod 2=((Y/32768^i%2:Nat):Int):=by
      rw[<-h1];exact YGr (y:=2) rfl rfl
     have e3:IntKind.i64.wrap (((32768*c+dig Y i:Nat):Int).tdiv 2)=((dig (Y/2) i:Nat):Int):=by
      rw[<-h2]
      have:((32768*c+dig Y i:Nat):Int).tdiv 2=(((32768*c+dig Y i)/2:Nat):Int):=YGg (y:=2) rfl rfl
      rw[this,YE7 _ (by omega)]
     rw[e1,e2,e3,YE7 ((i:Int)-1) (by omega)]
     simp only[Ya]
     refine⟨by omega,fun q hq=>?_⟩
     rcases Nat.lt_trichotomy q i with h'|h'|h'
     ·rw[if_neg (by omega),if_neg (by omega),if_neg (by omega)];simp only[leL,le,and_self]
     ·subst h';rw[if_pos rfl,if_pos (by omega)];simp only[leL,le,and_self]
     ·rw[if_neg (by omega),if_pos (by omega),if_pos (by omega)];simp only[leL,le,and_self]
    ·obtain rfl:j=0:=by omega
     have eR:(fun k=>[SV.int .i64 ((if 0<=k then dig (Y/2) k else 0:Nat):Int)])=fun k=>[SV.int .i64 ((dig (Y/2) k:Nat):Int)]:=by
      funext k;rw[if_pos (YGj _)]
     rw[eR]
     have hXT:Y/2<32768^L:=YFG (YGd _ _) hY
     have hT:L<=90004:=by omega
     generalize Y/2=X at hXT h⊢
     generalize L=M at hXT hT⊢
     (try dsimp only[YhA,YhB,v135,YE4,go_sem,reduceIte])
     (try simp only[Yd,YE5,YE3,reduceCtorEq,YE2])
     refine Loop.keep [0] Nat (fun j=>[(0,.own 0 0 j 1)]) (fun _=>[(0,.own false 1 M (fun k=>[.int .i64 (dig X k)]))]) [] (fun j=>j<=M/\X<32768^j) (fun j=>j) ?_ ?_
     ·refine⟨M,⟨YFk _,hXT⟩,?_⟩
      (try dsimp only[go_sem,reduceIte])
      simp only[Ya]
      omega
     ·rintro j ⟨hj,haj⟩
      (try dsimp only[YE4,go_sem,reduceIte])
      (try simp only[Yd,YE5,YE3,reduceCtorEq,YE2])
      refine⟨fun hlt=>?_,fun hlt=>?_,fun hb=>?_,fun hb=>?_⟩
      ·rw[Ym (by omega) (by omega)];omega
      ·rw[Ym (by omega) (by omega)];omega
      ·rw[YFd,decide_eq_true_eq,decide_eq_true_eq]at hb
       obtain⟨h1,h2⟩:=hb
       rw[Ym (by omega) (by omega),YE4]at h2
       refine⟨by rw[Ym (by omega) (by omega)];omega,j-1,⟨by omega,?_⟩,by omega,?_⟩
       ·obtain⟨m,rfl⟩:∃m,j=m+1:=⟨j-1,by omega⟩
        exact Ya2 haj (by simp at h2;exact_mod_cast h2)
       ·rw[Ym (by omega) (by omega)]
        simp only[Ya] <;> simp [leL,le]
      ·have e:nl X=j:=by
        refine Yav haj ?_
        rw[YFZ,decide_eq_false_iff_not,decide_eq_false_iff_not]at hb
        rcases YFB j with h0|h0
        ·exact .inl h0
        ·refine .inr fun hh=>hb.elim (fun h=>h (by omega)) fun h=>h ?_
         rw[Ym h0 (by omega),YE4,hh];rfl
       subst e
       exact YaD h rfl rfl rfl fun j hj=>rfl
 ·exact h.1.elim
def sqN(a s:Nat)(up:Bool):Nat:=if up/\a*a%32768^s≠0 then a*a/32768^s+1 else a*a/32768^s
def squareC:Ctr:={ alias:=false,of:=fun l=>match l with
 | [.vs _ _ n sz get,.int .i64 q,.bool up]=> .ex Nat fun a=> .pre (padP a n sz get/\n<=20000/\0<=q/\q<=300000) (.all Bool fun z=> .fin (natS z (sqN a (q.toNat/15) up)) [])
 |_=>noC}
theorem YDO{x s M:Nat}(hM:min s (nl x)=M):x/32768^s=x/32768^M/\x%32768^s=x%32768^M/\nl (x/32768^M)=nl x-M:=by
 have hnl:nl (x/32768^M)=nl x-M:=by
  rcases YFB x with h0|h0
  ·subst h0;rw[Nat.zero_div,nl_0,Nat.zero_sub]
  ·have hMl:M<=nl x:=by omega
   have h1:x/32768^M<32768^(nl x-M):=by
    rw[YFE (Yo M),<-YFi,Nat.sub_add_cancel hMl];exact YbD x
   refine Yav h1 ?_
   rcases Nat.eq_or_lt_of_le hMl with h|h
   ·exact .inl (by omega)
   ·refine .inr ?_
    rw[YcC,show M+(nl x-M-1)=nl x-1 by omega]
    exact YmZ (by omega)
 rcases YFu s (nl x)with h|h
 ·obtain rfl:M=s:=by omega
  exact⟨rfl,rfl,hnl⟩
 ·obtain rfl:M=nl x:=by omega
  have h1:=YbD x
  have h2:=nl_le.1 h
  exact⟨by rw[YGc h1,YGc h2],by rw[YFT h1,YFT h2],hnl⟩
theorem YrU:squareC.ok YE8 133:=by
 refine Yb Tryz.func133 YzL YvX 300 squareC fun args k h=>?_
 simp only[squareC]at h
 split at h
 ·rename_i t1 z1 n sz get q up
  obtain⟨a,⟨⟨rfl,hn,ha,hg⟩,hn9,h0,h1⟩,h⟩:=h
  obtain⟨q,rfl⟩:=YFW h0
  rw[YE4]at h
  refine⟨[.vs t1 z1 n 1 (fun k=>[.int .i64 (dig a k)]),.int .i64 q,.bool up],⟨by simpa [le]using hg,⟨rfl,rfl⟩,rfl,trivial⟩,?_⟩
  (try dsimp only[v133,Yfg,YlU,YkR,addC,limbsC,mulC,natS,YE4,go_sem,reduceIte])
  (try simp only[Yd,YE5,YE3,reduceCtorEq,YE2])
  have w1:IntKind.i64.wrap ((q:Int).tdiv 15)=((q/15:Nat):Int):=by
   have:(q:Int).tdiv 15=((q/15:Nat):Int):=YGg (y:=15) rfl rfl
   rw[this,YE7 _ (by omega)]
  have hX:a*a<32768^(n+n):=by rw[YFi];exact Nat.mul_lt_mul'' ha ha
  have hl:=nl_le.2 hX
  rw[w1]
  refine⟨a,a,⟨Yw hn ha,Yw hn ha,by omega⟩,by decide,by decide,?_⟩
  have e1:min ((q/15:Nat):Int) ((nl (a*a):Nat):Int)=((min (q/15) (nl (a*a)):Nat):Int):=by omega
  simp only[e1,YE4,YGh]
  refine⟨⟨by omega,by omega⟩,by unfold YN;omega,?_⟩
  generalize hM:min (q/15) (nl (a*a))=M
  generalize hXX:a*a%32768^M=X
  have hXT:X<32768^M:=hXX▸YFC _ (Yo M)
  have hT:M<=90004:=by omega
  (try dsimp only[YhA,YhB,v135,YE4,go_sem,reduceIte])
  (try simp only[Yd,YE5,YE3,reduceCtorEq,YE2])
  refine Loop.keep [0] Nat (fun j=>[(0,.own 0 0 j 1)]) (fun _=>[(0,.own false 1 M (fun k=>[.int .i64 (dig X k)]))]) [] (fun j=>j<=M/\X<32768^j) (fun j=>j) ?_ ?_
  ·refine⟨M,⟨YFk _,hXT⟩,?_⟩
   (try dsimp only[go_sem,reduceIte])
   simp only[Ya]
   refine⟨by omega,by omega,by simp,fun k' hk=>?_⟩
   rw[if_neg (YGe _),<-hXX,Ybo hk]
   simp only[leL,le,Nat.sub_zero,and_self]
  ·rintro j ⟨hj,haj⟩
   (try dsimp only[YE4,go_sem,reduceIte])
   (try simp only[Yd,YE5,YE3,reduceCtorEq,YE2])
   refine⟨fun hlt=>?_,fun hlt=>?_,fun hb=>?_,fun hb=>?_⟩
   ·rw[Ym (by omega) (by omega)];omega
   ·rw[Ym (by omega) (by omega)];omega
   ·rw[YFd,decide_eq_true_eq,decide_eq_true_eq]at hb
    obtain⟨h1,h2⟩:=hb
    rw[Ym (by omega) (by omega),YE4]at h2
    refine⟨by rw[Ym (by omega) (by omega)];omega,j-1,⟨by omega,?_⟩,by omega,?_⟩
    ·obtain⟨m,rfl⟩:∃m,j=m+1:=⟨j-1,by omega⟩
     exact Ya2 haj (by simp at h2;exact_mod_cast h2)
    ·rw[Ym (by omega) (by omega)]
     simp only[Ya] <;> simp [leL,le]
   ·have e:nl X=j:=by
     refine Yav haj ?_
     rw[YFZ,decide_eq_false_iff_not,decide_eq_false_iff_not]at hb
     rcases YFB j with h0|h0
     ·exact .inl h0
     ·refine .inr fun hh=>hb.elim (fun h=>h (by omega)) fun h=>h ?_
      rw[Ym h0 (by omega),YE4,hh];rfl
    subst e
    (try dsimp only[go_sem,reduceIte])
    (try simp only[Yd,YE5,YE3,reduceCtorEq,YE2])
    obtain⟨c1,c2,c3⟩:=YDO hM
    have hle:YgC (nl (a*a)) M=nl (a*a)-M:=by unfold YgC;split <;> omega
    have hadd:∀k,YbJ M k=M+k:=fun k=>by unfold YbJ;split <;> omega
    refine⟨by decide,⟨by omega,by omega⟩,by unfold YN;rw[hle];omega,fun hup=>?_,fun hup=>?_⟩
    ·(try dsimp only[Yfg,YkR,limbsC,addC,natS,YE4,go_sem,reduceIte])
     (try simp only[Yd,YE5,YE3,reduceCtorEq,YE2])
     rw[YFd,decide_eq_true_eq]at hup
     obtain⟨rfl,hup⟩:=hup
     have hX0:X≠0:=fun h0=>by subst h0;rw[nl_0]at hup;omega
     have e:sqN a (q/15) true=a*a/32768^M+1:=by
      unfold sqN;rw[c2,hXX,c1,if_pos ⟨rfl,hX0⟩]
     rw[e]at h
     refine⟨⟨by decide,by decide⟩,a*a/32768^M,1,⟨⟨rfl,by rw[hle];omega,?_,fun k' hk=>?_⟩,Ye (by decide),by rw[hle];omega,by decide⟩,Yai (t:=true) (h false)⟩
     ·rw[hle,YGh,<-c3];exact YbD _
     ·dsimp only
      rw[if_neg (YGe _),YcC,hadd,Nat.sub_zero]
      exact Yc _
    ·have hX0:¬(up=true/\a*a%32768^(q/15)≠0):=fun hh=>by
      rw[c2,hXX]at hh
      have:=nl_pos.2 (Nat.pos_of_ne_zero hh.2)
      rw[hh.1,YGm,decide_eq_false_iff_not]at hup
      omega
     have e:sqN a (q/15) up=a*a/32768^M:=by
      unfold sqN;rw[if_neg hX0,c1]
     rw[e]at h
     refine YaD (h false) (by rw[hle,c3,YGh]) (YGi _) rfl fun k' hk=>?_
     rw[if_neg (YGe _),YcC,hadd,Nat.sub_zero]
 ·exact h.1.elim
theorem Yy4(a s:Nat):sqN a s false=a*a/32768^s:=by
 unfold sqN;rw[if_neg (fun h=>by cases h.1)]
theorem Yus(a s:Nat):sqN a s true=cdiv (a*a) (32768^s):=by
 unfold sqN cdiv
 have h1:=YFH (a*a) (32768^s)
 rw[YFc]at h1
 generalize a*a/32768^s*32768^s=p at*
 rcases YFB (a*a%32768^s)with h0|h0
 ·rw[if_neg (fun h=>h.2 h0),if_neg (by omega)]
 ·rw[if_pos ⟨rfl,by omega⟩,if_pos (by omega)]
theorem YxB(a:Nat):(a+1)/2=cdiv a 2:=by
 unfold cdiv;split <;> omega
def lgR(n many:Nat):Nat×Nat:=if n=2^lgK n then(lgK n*2^many,lgK n*2^many)
 else gl (2^(2*many+60)) false many (n*2^(2*many+60-lgK n)) (n*2^(2*many+60-lgK n)) (lgK n)
def v104:VF:=⟨95,[.tmp 4,.tmp 5],(ZR [u1 4 .mov [.cn .nil],u1 5 .mov [.cn .nil]] (ZR [Zi 6 0] (.seq (.block 0 (.loop (.seq (ZR [Zm 13 0,Zm 14 6,Zp 15 14 1,u1 16 (.conv .u64) [.tm 15],u1 17 .shr [.tm 13,.tm 16],Zq 18 .gtr 17 0] (ZC 18 .skip (.exit 0))) (.block 1 (.region [Zm 19 6,Zp 20 19 1,Zm 6 20]))))) (ZR [Zm 21 6,Zc 22 105 21,Zm 7 22] (.seq (ZR [Zm 23 0,Zm 24 6,u1 25 (.conv .u64) [.tm 24],u1 26 .shl [.cn (.int .i64 1),.tm 25],Zr 27 .eql 23 26] (ZC 27 (ZR [Zm 28 7,Zm 29 1,Zd 30 132 28 29,Zm 31 7,Zm 32 1,Zd 33 132 31 32,Zm 4 30,Zm 5 33] .ret) .skip)) (ZR [Zm 34 1,u1 35 (.ari .mul) [.cn (.int .i64 2),.tm 34],Zp 36 35 60,Zm 8 36] (ZR [Zm 37 0,Zc 38 105 37,Zm 39 8,Zm 40 6,Zo 41 .sub 39 40,Zd 42 132 38 41,Zm 9 42] (ZR [Zm 43 9,Zm 10 43] (ZR [u1 44 (.call 105) [.cn (.int .i64 1)],Zm 45 8,Zp 46 45 1,Zd 47 132 44 46,Zm 11 47] (.seq (ZR [Zi 12 0] (.block 2 (.loop (.seq (ZR [Zm 48 12,Zm 49 1,Zr 50 .lss 48 49] (ZC 50 .skip (.exit 2))) (.seq (.block 3 (ZR [Zm 53 9,Zm 54 8,u1 55 (.call 133) [.tm 53,.tm 54,.cn (.bool false)],Zm 9 55] (ZR [Zm 56 10,Zm 57 8,u1 58 (.call 133) [.tm 56,.tm 57,.cn (.bool true)],Zm 10 58] (ZR [Zm 59 9,Zm 60 11,Zd 61 107 59 60,Zq 62 .geq 61 0] (ZC 62 (ZR [Zm 63 9,u1 64 (.call 134) [.tm 63,.cn (.bool false)],Zm 9 64] (ZR [Zm 65 10,u1 66 (.call 134) [.tm 65,.cn (.bool true)],Zm 10 66] (.region [Zm 67 7,Zm 68 7,Zd 69 77 67 68,u1 70 (.call 105) [.cn (.int .i64 1)],Zd 71 77 69 70,Zm 7 71]))) (ZR [Zm 72 10,Zm 73 11,Zd 74 107 72 73,Zq 75 .lss 74 0] (ZC 75 (.region [Zm 76 7,Zm 77 7,Zd 78 77 76 77,Zm 7 78]) (ZR [Zm 79 7,Zm 80 1,Zm 81 12,Zo 82 .sub 80 81,Zd 83 132 79 82,Zm 84 7,u1 85 (.call 105) [.cn (.int .i64 1)],Zd 86 77 84 85,Zm 87 1,Zm 88 12,Zo 89 .sub 87 88,Zd 90 132 86 89,Zm 4 83,Zm 5 90] .ret)))))))) (.region [Zm 51 12,Zp 52 51 1,Zm 12 52])))))) (ZR [Zm 91 7,Zm 92 7,u1 93 (.call 105) [.cn (.int .i64 1)],Zd 94 77 92 93,Zm 4 91,Zm 5 94] .ret)))))))))))⟩
theorem Yzn:Yg YE8 Tryz.f104=some v104:=by kernel_rfl
def logC:Ctr:={ alias:=false,of:=fun l=>match l with
 | [.int .i64 n,.int .i64 q]=> .pre ((1<=n/\n<=1000000000001)/\0<=q/\q<=3840/\q%15=0) (.all Bool fun z=> .all Bool fun z'=> .fin (.tup [natS z (lgR n.toNat q.toNat).1,natS z' (lgR n.toNat q.toNat).2]) [])
 |_=>noC}
def Q3:Env:={ ct:=fun n=>match n with|105=>some limbsC|107=>some cmpC|77=>some addC|132=>some shiftC|133=>some squareC|134=>some halveC|_=>none,fn:=fun _=>none,meth:=fun _ _=>none}
theorem YlV:Q3.ct 105=some limbsC:=rfl
theorem Ysl:Q3.ct 107=some cmpC:=rfl
theorem YvY:Q3.ct 77=some addC:=rfl
theorem YlW:Q3.ct 132=some shiftC:=rfl
theorem Ysm:Q3.ct 133=some squareC:=rfl
theorem Ysn:Q3.ct 134=some halveC:=rfl
theorem Q3_ok:Yu YE8 Q3:=by
 refine⟨fun f c h=>?_,fun f vf h=>?_,(fun _ _ _ h=>by cases h),by kernel_rfl,(fun _ h=>by cases h)⟩
 ·simp only[Q3]at h
  split at h
  ·cases h;exact⟨Yiy,Tryz.f105,Tryz.func105,by kernel_rfl,by kernel_rfl⟩
  ·cases h;exact⟨YdX,Tryz.f107,Tryz.func107,by kernel_rfl,by kernel_rfl⟩
  ·cases h;exact⟨YgX,Tryz.f77,Tryz.func77,by kernel_rfl,by kernel_rfl⟩
  ·cases h;exact⟨Yct,Tryz.f132,Tryz.func132,by kernel_rfl,by kernel_rfl⟩
  ·cases h;exact⟨YrU,Tryz.f133,Tryz.func133,by kernel_rfl,by kernel_rfl⟩
  ·cases h;exact⟨YtE,Tryz.f134,Tryz.func134,by kernel_rfl,by kernel_rfl⟩
  ·cases h
 ·cases h
theorem ord_ge{a b:Nat}:0<=ordN a b↔b<=a:=by
 unfold ordN;split
 ·omega
 ·split <;> omega
theorem ord_lt{a b:Nat}:ordN a b<0↔a<b:=by
 unfold ordN;split
 ·omega
 ·split <;> omega
theorem pw15{e m:Nat}(h:e<15*m):2^e<32768^m:=by
 rw[show(32768:Nat)=2^15 by decide,<-YFh]
 exact Nat.pow_lt_pow_right (by decide) h
theorem Ykh{x e m:Nat}(h:x<2^e)(he:e<15*m):nl x<=m:=nl_le.2 (Nat.lt_trans h (pw15 he))
theorem nsz{x q:Nat}(hq:q<=3840)(h:x<=16*2^(2*q+60)):nl x<=1000:=by
 have e:16*2^(2*q+60)=2^(2*q+64):=by rw[show 2*q+64=4+(2*q+60)by omega,YFi 2 4]
 rw[e]at h
 have h2:2^(2*q+64)<2^(2*q+65):=Nat.pow_lt_pow_right (by decide) (by omega)
 exact Ykh (YFG h h2) (by omega)
theorem YvB{A M:Nat}(hM:0<M)(h:A<=2*M):A*A/M<=4*M/\cdiv (A*A) M<=4*M:=by
 have:A*A<=4*M*M:=YFa (YFt h h) (by grind)
 exact⟨Nat.div_le_of_le_mul (by rw[YFc M];exact this),Yam this⟩
theorem Yti{x M:Nat}(h:x<=4*M):cdiv x 2<=2*M:=Yam (by omega)
theorem YCn:logC.ok YE8 104:=by
 refine Yb Tryz.func104 Yzn Q3_ok 400 logC fun args k h=>?_
 simp only[logC]at h
 split at h
 ·rename_i n q
  obtain⟨⟨⟨hn1,hn2⟩,h0,h1,hq⟩,h⟩:=h
  obtain⟨n,rfl⟩:=YFW (show 0<=n by omega)
  obtain⟨q,rfl⟩:=YFW h0
  rw[YE4,YE4]at h
  refine⟨[.int .i64 n,.int .i64 q],by simp [leL,le],?_⟩
  (try dsimp only[v104,go_sem,reduceIte])
  (try simp only[Yd,YE5,YE3,reduceCtorEq,YE2])
  obtain⟨b1,b2⟩:=YmV (n:=n) (by omega)
  have hk40:lgK n<40:=by
   rcases YFu (lgK n) 40 with h'|h'
   ·exact h'
   ·have:=YFa (YFq (by decide) h':2^40<=2^lgK n) b1
    omega
  refine Loop.keep [0,0] Nat (fun i=>[(6,.int .i64 i)]) (fun _=>[]) [] (fun i=>i<=lgK n) (fun i=>lgK n-i) ?_ ?_
  ·refine⟨0,YGj _,?_⟩
   (try dsimp only[go_sem,reduceIte])
   simp only[Ya]
   rfl
  ·rintro i hi
   (try dsimp only[YE4,go_sem,reduceIte])
   (try simp only[Yd,YE5,YE3,reduceCtorEq,YE2])
   have w1:IntKind.i64.wrap ((i:Int)+1)=((i+1:Nat):Int):=by rw[YE7 _ (by omega)];omega
   have w2:IntKind.u64.wrap ((i+1:Nat):Int)=((i+1:Nat):Int):=YFN _ (by omega)
   have w3:(n:Int).fdiv (2^min (i+1) 64)=((n/2^(i+1):Nat):Int):=YbA (by omega)
   simp only[w1,w2,YE4,w3]
   refine⟨by omega,fun hlt=>?_,fun hge=>?_⟩
   ·have hlt:i<lgK n:=by
     rcases YFu i (lgK n)with h'|h'
     ·exact h'
     ·obtain rfl:i=lgK n:=by omega
      rw[YGc b2]at hlt;exact absurd hlt (by decide)
    refine⟨i+1,by omega,by omega,?_⟩
    simp only[Ya]
   ·have hik:i=lgK n:=by
     rcases YFu i (lgK n)with h'|h'
     ·have h2:2^(i+1)<=n:=YFa (YFq (by decide) h') b1
      have:=Nat.div_pos h2 (YFF (by decide))
      generalize n/2^(i+1)=c at*
      omega
     ·omega
    (try dsimp only[YlV,YlW,limbsC,shiftC,natS,YE4,go_sem,reduceIte])
    (try simp only[Yd,YE5,YE3,reduceCtorEq,YE2])
    have v1:IntKind.u64.wrap (i:Int)=(i:Int):=YFN _ (by omega)
    have v2:IntKind.i64.wrap (1*2^min i 64)=((2^i:Nat):Int):=by
     have e4:min i 64=i:=by omega
     have e5:(1:Int)*2^i=((2^i:Nat):Int):=by simp
     have e6:2^i<=n:=by rw[hik];exact b1
     rw[e4,e5]
     generalize 2^i=P at e6⊢
     exact YE7 _ (by omega)
    have v3:IntKind.i64.wrap (IntKind.i64.wrap (2*(q:Int))+60)=((2*q+60:Nat):Int):=by
     rw[YE7 (2*(q:Int)) (by omega),YE7 _ (by omega)];omega
    have v4:IntKind.i64.wrap (((2*q+60:Nat):Int)-(i:Int))=((2*q+60-i:Nat):Int):=by
     rw[YE7 _ (by omega)];omega
    have v5:IntKind.i64.wrap (((2*q+60:Nat):Int)+1)=((2*q+61:Nat):Int):=by
     rw[YE7 _ (by omega)];omega
    have n1:nl i<=1:=nl_le.2 (by omega)
    have n2:nl n<=3:=nl_le.2 (by omega)
    simp only[v1,YE4,v2,v3,v4,v5]
    refine⟨⟨by omega,by omega⟩,by omega,fun he=>⟨i,⟨Ye (by omega),by omega,by omega,by omega⟩,i,⟨Ye (by omega),by omega,by omega,by omega⟩,?_⟩,fun hne=>⟨⟨by omega,by omega⟩,n,⟨Ye (by omega),by omega,by omega,by omega⟩,⟨by decide,by decide⟩,1,⟨Ye (by decide),by decide,by omega,by omega⟩,?_⟩⟩
    ·have hp:n=2^lgK n:=by rw[<-hik];exact_mod_cast he
     have e:lgR n q=(i*2^q,i*2^q):=by unfold lgR;rw[if_pos hp,hik]
     rw[e]at h
     exact YE (show k _ []from h false false) (YB _ ⟨trivial,trivial,trivial⟩) (fun _=>by simp [natS,Yt,Ys])
    ·have hnp:n≠2^lgK n:=fun hh=>hne (by rw[hik];exact_mod_cast hh)
     have hlg:lgR n q=gl (2^(2*q+60)) false q (n*2^(2*q+60-i)) (n*2^(2*q+60-i)) i:=by
      unfold lgR;rw[if_neg hnp,hik]
     obtain⟨m1,m2,_⟩:=mant (n:=n) (D:=2*q+60) (by omega) (by omega)
     rw[<-hik]at m1 m2
     have hs:(32768:Nat)^((2*q+60)/15)=2^(2*q+60):=by
      rw[show(32768:Nat)=2^15 by decide,<-YFh];congr 1;omega
     refine Loop.keep [0,0,6,2] (Nat×Nat×Nat×Nat×Bool×Bool×Bool) (fun x=>[(7,.vs true x.2.2.2.2.1 (nl x.2.2.2.1) 1 (fun k=>[.int .i64 (dig x.2.2.2.1 k)])),(9,.vs true x.2.2.2.2.2.1 (nl x.2.1) 1 (fun k=>[.int .i64 (dig x.2.1 k)])),(10,.vs true x.2.2.2.2.2.2 (nl x.2.2.1) 1 (fun k=>[.int .i64 (dig x.2.2.1 k)])),(12,.int .i64 x.1)]) (fun _=>[]) [] (fun x=>x.1<=q/\lgR n q=gl (2^(2*q+60)) false (q-x.1) x.2.1 x.2.2.1 x.2.2.2.1/\x.2.1<=2*2^(2*q+60)/\x.2.2.1<=2*2^(2*q+60)/\x.2.2.2.1<2^(x.1+40)) (fun x=>q-x.1) ?_ ?_
     ·refine⟨(0,n*2^(2*q+60-i),n*2^(2*q+60-i),i,decide (nl i=0),false,false),⟨YGj _,hlg,YGa m2,YGa m2,by dsimp only;omega⟩,?_⟩
      (try dsimp only[go_sem,reduceIte])
      simp only[Ya]
      rfl
     ·rintro⟨j,A,B,S,z1,z2,z3⟩ ⟨hj,hl,hA,hB,hS⟩
      dsimp only at hj hl hA hB hS
      (try dsimp only[YlV,YlW,Ysm,Ysn,YvY,Ysl,limbsC,shiftC,squareC,halveC,addC,cmpC,natS,YE4,go_sem,reduceIte])
      (try simp only[Yd,YE5,YE3,reduceCtorEq,YE2])
      have h2M:1*2^(2*q+61)=2*2^(2*q+60):=by rw[YFR,show 2*q+61=1+(2*q+60)by omega,YFi 2 1]
      have hq1:q<=3840:=by omega
      have hM:0<2^(2*q+60):=YFF (by decide)
      have fz:∀x,x<=16*2^(2*q+60)->nl x<=1000:=fun x hx=>nsz hq1 hx
      have hSz:∀x,x<2^(j+42)->nl x<=1000:=fun x hx=>by
       exact Ykh hx (by omega)
      have hS2:2^(j+42)=4*2^(j+40):=by rw[show j+42=2+(j+40)by omega,YFi 2 2]
      have hS1:2^(j+1+40)=2*2^(j+40):=by rw[show j+1+40=1+(j+40)by omega,YFi 2 1]
      obtain⟨a4,_⟩:=YvB hM hA
      obtain⟨_,b4⟩:=YvB hM hB
      have eA:sqN A ((2*q+60)/15) false=A*A/2^(2*q+60):=by rw[Yy4,hs]
      have eB:sqN B ((2*q+60)/15) true=cdiv (B*B) (2^(2*q+60)):=by rw[Yus,hs]
      refine⟨fun hlt=>⟨A,⟨Ye (YFa (fz A (by omega)) (by decide)),YFa (fz A (by omega)) (by decide),by omega,by omega⟩,fun y1=>⟨B,⟨Ye (YFa (fz B (by omega)) (by decide)),YFa (fz B (by omega)) (by decide),by omega,by omega⟩,fun y2=>?_⟩⟩,fun hge=>?_⟩
      ·rw[eA,eB,h2M]
       obtain⟨g,hg⟩:∃g,q-j=g+1:=⟨q-j-1,by omega⟩
       have eq1:q-(j+1)=g:=by omega
       have ej:IntKind.i64.wrap ((j:Int)+1)=((j+1:Nat):Int):=by rw[YE7 _ (by omega)];omega
       have eqj:IntKind.i64.wrap ((q:Int)-(j:Int))=((q-j:Nat):Int):=by rw[YE7 _ (by omega)];omega
       rw[hg,gl]at hl
       rw[ej,eqj]
       simp only[YE4]
       rw[hg]
       clear eA eB h2M
       generalize A*A/2^(2*q+60)=X at*
       generalize cdiv (B*B) (2^(2*q+60))=Y at*
       generalize 2^(2*q+60)=M at*
       have fX:=fz X (by omega)
       have fY:=fz Y (by omega)
       have f2:=fz (2*M) (by omega)
       have f1:nl 1<=1:=by decide
       have fS:=hSz S (by omega)
       have fSS:=hSz (S+S) (by omega)
       refine⟨X,2*M,⟨Ye (by omega),Ye (by omega),rfl,rfl⟩,fun hc=>?_,fun hc=>?_⟩
       ·have hc:=ord_ge.1 hc
        rw[if_neg (by omega),if_neg (by simp),Nat.two_mul]at hl
        refine⟨X,⟨Ye (by omega),by omega⟩,Y,⟨Ye (by omega),by omega⟩,S,S,⟨Ye (by omega),Ye (by omega),by omega⟩,⟨by decide,by decide⟩,S+S,1,⟨Ye (by omega),Ye (by decide),by omega,by decide⟩,(j+1,X/2,cdiv Y 2,S+S+1,false,false,false),⟨by dsimp only;omega,by dsimp only;rw[eq1];exact hl,by dsimp only;omega,Yti b4,by dsimp only;omega⟩,by dsimp only;omega,?_⟩
        simp only[if_true,if_false,YF8,YxB]
        simp only[Ya]
       ·have hc:¬2*M<=X:=fun hh=>hc (ord_ge.2 hh)
        rw[if_pos (by omega)]at hl
        refine⟨Y,2*M,⟨Ye (by omega),Ye (by omega),rfl,rfl⟩,fun hd=>?_,fun hd=>?_⟩
        ·have hd:=ord_lt.1 hd
         rw[if_pos hd,Nat.two_mul]at hl
         refine⟨S,S,⟨Ye (by omega),Ye (by omega),by omega⟩,(j+1,X,Y,S+S,false,y1,y2),⟨by dsimp only;omega,by dsimp only;rw[eq1];exact hl,by dsimp only;omega,by dsimp only;omega,by dsimp only;omega⟩,by dsimp only;omega,?_⟩
         simp only[Ya]
        ·rw[if_neg fun hh=>hd (ord_lt.2 hh)]at hl
         have fS1:=hSz (S+1) (by omega)
         refine⟨S,⟨Ye (by omega),by omega,by omega,by omega⟩,⟨by decide,by decide⟩,S,1,⟨Ye (by omega),Ye (by decide),by omega,by decide⟩,S+1,⟨Ye (by omega),by omega,by omega,by omega⟩,?_⟩
         rw[hl]at h
         exact YE (show k _ []from h false false) (YB _ ⟨trivial,trivial,trivial⟩) (fun _=>by simp [natS,Yt,Ys])
      ·have fS:=hSz S (by omega)
       have e0:q-j=0:=by omega
       rw[e0,gl]at hl
       refine⟨⟨by decide,by decide⟩,S,1,⟨Ye (by omega),Ye (by decide),by omega,by decide⟩,?_⟩
       rw[hl]at h
       exact YE (show k _ []from h z1 false) (YB _ ⟨trivial,trivial,trivial⟩) (fun _=>by simp [natS,Yt,Ys])
 ·exact h.1.elim
end Go.Proofs.YtmiclogmkfobgaaGreat.Q
