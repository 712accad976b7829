/- Scales: roots are exact, for the program and for the reference; in plain Lean. -/
import Derived.Test.YtmiclogmkfobgaaGreatMgX51h
import Derived.Test.YtmiclogmkfobgaaGreatMgX51k
import Derived.Test.YtmiclogmkfobgaaGreatMgX51r
import Derived.Test.YtmiclogmkfobgaaGreatMgX51f
import Derived.Test.YtmiclogmkfobgaaGreatMgX51e
import Derived.Test.YtmiclogmkfobgaaGreatMgX51c
import Derived.Test.YtmiclogmkfobgaaGreatMgX51d
import Derived.Test.YtmiclogmkfobgaaGreatProg
open Bool renaming and_eq_false_iff->YGZ,and_eq_true->YGi,eq_iff_iff->YHz,false_and->YHp,false_eq_true->YGC,not_and->YHt,not_eq_false'->YG0,not_eq_true'->YGA,or_eq_false_iff->YG8,or_eq_true->YG6,true_and->YHq
open Int renaming eq_ofNat_of_zero_le->YGM,mul_le_mul_of_nonneg_right->YGE,mul_nonneg->YHv,natCast_mul->YG1,toNat_natCast->YGb,toNat_zero->YHw
open Go.IntWalk renaming i64_in->YGd,u64_in->YGF,up_tdiv->YHh,up_tmod->YHF
open List renaming getD_eq_getElem?_getD->YGl,getElem?_append_left->YGR,getElem?_append_right->YG4,length_append->YHg,length_cons->YHf,mem_append->YGT,mem_cons->YGK,mem_cons_of_mem->YGx,mem_cons_self->YGy,mem_singleton->YGU,take_length->YHe
open Nat renaming add_mul->YGG,add_zero->YHi,div_add_mod->YGP,div_div_eq_div_mul->YGv,div_eq_of_lt->YHo,div_le_self->YHm,div_lt_iff_lt_mul->YGL,eq_zero_or_pos->YGI,gcd->YHa,le_of_eq->YGu,le_of_lt->YHn,le_of_not_lt->YHy,le_refl->YGr,le_trans->YGg,lt_of_le_of_lt->YGN,lt_of_lt_of_le->YGV,lt_or_ge->YGz,mod_eq_of_lt->YG3,mod_lt->YGJ,mul_add->YGQ,mul_assoc->YGm,mul_comm->YGj,mul_le_mul->YGB,mul_le_mul_left->YGk,mul_le_mul_right->YGf,mul_left_comm->YG5,mul_one->YHj,mul_pos->YHd,not_lt_zero->YG7,one_mul->YGW,pow_add->YGo,pow_le_pow_right->YGs,pow_mul->YGn,pow_pos->YGO,pow_succ->YGt,reduceAdd->YGa,reduceEqDiff->YF8,reduceLeDiff->YF9,succ_mul->YHD,zero_add->YHu,zero_le->YHk
open Go.Proofs.Tryz renaming prog->YGc
set_option linter.all false
namespace Go.Proofs.YtmiclogmkfobgaaGreat
open Go Go.Vx
set_option maxRecDepth 100000
def Whl(L:Int)(p:Int×Int):Prop:=∃n,p.1*L=n*p.2
theorem Whl.add{L:Int}{e:Exn}(h:Whl L (e.n,e.d))(hh:0<e.h->e.h∣L)(to:Int):Whl L (e.add to):=by
 obtain⟨n,hn⟩:=h
 simp only at hn
 unfold Exn.add
 split
 ·rename_i c
  obtain⟨x,hx⟩:=hh c
  refine⟨n+(to-e.f)*x,?_⟩
  simp only
  rw[Int.add_mul,Int.add_mul]
  have e1:e.n*e.h*L=n*(e.d*e.h):=by rw[Int.mul_right_comm,hn];ac_rfl
  have e2:(to-e.f)*e.d*L=(to-e.f)*x*(e.d*e.h):=by rw[hx];ac_rfl
  rw[e1,e2]
 ·exact⟨n,hn⟩
theorem Whl.exE{L note:Int}:∀(r:List (Int×Int))(e:Exn),Whl L (e.n,e.d)->(0<e.h->e.h∣L)->(∀b,b∈r->b.2∣L)->Whl L (exE note r e)
 | [],e,h,hh,_=>h.add hh note
 |b::r,e,h,hh,hb=>by
  rw[Go.Proofs.YtmiclogmkfobgaaGreat.exE]
  split
  ·exact h.add hh note
  ·exact Whl.exE r _ (h.add hh b.1) (fun _=>hb b (YGy ..)) fun x hx=>hb x (YGx _ hx)
theorem YmX:∀{r:List (Int×Int)}{last:Int},benL r last=true->∀b,b∈r->8<=b.2/\b.2<=64
 | [],_,_,b,hb=>by cases hb
 |c::r,last,h,b,hb=>by
  simp only[benL,inS,YGi,decide_eq_true_eq]at h
  rcases YGK.1 hb with rfl|hb
  ·omega
  ·exact YmX h.2 b hb
theorem YxW{h L:Nat}{x:Int}(hx:x=(h:Int))(hd:h∣L):x∣(L:Int):=by rw[hx];exact Int.ofNat_dvd.2 hd
theorem Yz7{s:Scl}(hs:chkL s=0){note:Int}(hn:0<=note/\note<=139):Thr (expF s.bs note).1.toNat (expF s.bs note).2.toNat:=by
 obtain⟨h1,h2,h3⟩:=Ycd hs
 simp only[okS,YGi]at h3
 have hm:=YmX h3.1.2
 obtain⟨x0,x1,x2,x3,x4⟩:=Yi2 hs hn
 have hrng:∀i:Nat,i<s.bs.length->8<=(s.bs.getD i default).2/\(s.bs.getD i default).2<=64:=fun i hi=>hm _ (Yk hi)
 obtain⟨t,ht⟩:∃t:Nat->Nat,t=fun i=>if i<s.bs.length then(s.bs.getD i default).2.toNat else 8:=⟨_,rfl⟩
 have htr:∀i,8<=t i/\t i<=64:=fun i=>by
  rw[ht]
  simp only
  split
  ·rename_i c
   have:=hrng i c
   omega
  ·exact⟨by decide,by decide⟩
 obtain⟨L,d,q,hL,⟨d0,d1,d2⟩,hd,hq,he⟩:=LB.tri_ok (htr 0) (htr 1) (htr 2)
 have hdv:∀b,b∈s.bs->b.2∣(L:Int):=fun b hb=>by
  obtain⟨i,hi,hb'⟩:=YdP hb
  have hr:=hrng i hi
  have hti:t i=(s.bs.getD i default).2.toNat:=by rw[ht];simp only;rw[if_pos hi]
  have hx:b.2=((t i:Nat):Int):=by rw[hti,<-hb'];omega
  refine YxW hx ?_
  rcases(by omega:i=0\/i=1\/i=2)with rfl|rfl|rfl
  ·exact d0
  ·exact d1
  ·exact d2
 have hw:Whl (L:Int) (expF s.bs note):=by
  rw[x0]
  exact Whl.exE s.bs ⟨0,0,0,1⟩ ⟨0,by simp⟩ (fun h=>absurd h (by simp)) hdv
 obtain⟨n,hn'⟩:=hw
 have hL0:0<L:=by rw[hL];exact YHd hd.1 hq
 have hn0:0<=n:=by
  refine Int.le_of_not_gt fun hlt=>?_
  have a1:n*(expF s.bs note).2<0:=Int.mul_neg_of_neg_of_pos hlt (by omega)
  have a2:0<=(expF s.bs note).1*(L:Int):=YHv x1 (by omega)
  omega
 refine⟨L,d,q,n.toNat,hL,hd,hq,he,?_⟩
 have e1:(((expF s.bs note).1.toNat*L:Nat):Int)=((n.toNat*(expF s.bs note).2.toNat:Nat):Int):=by
  rw[YG1,YG1,Int.toNat_of_nonneg x1,Int.toNat_of_nonneg hn0,Int.toNat_of_nonneg (by omega)]
  exact hn'
 exact Int.ofNat.inj e1
theorem Thr.red{g num den:Nat}(hg:1<=g)(h:Thr (g*num) (g*den)):Thr num den:=by
 obtain⟨L,d,q,n,hL,hd,hq,he,hE⟩:=h
 refine⟨L,d,q,n,hL,hd,hq,he,?_⟩
 refine Nat.eq_of_mul_eq_mul_left (show 0<g from hg) ?_
 rw[<-YGm,hE];ac_rfl
structure Prt (s:Scl) (note:Int) (m num den:Nat):Prop where
 em:s.d-s.c=(m:Int)
 en:(expF s.bs note).1=(num:Int)
 ed:(expF s.bs note).2=(den:Int)
 mr:1<=m/\m<=500000
 nr:num<=1000000000
 dr:1<=den/\den<=1000000
 th:Thr num den
theorem prt{s:Scl}(hs:chkL s=0){note:Int}(hn:0<=note/\note<=139):∃m num den,Prt s note m num den:=by
 have hr:=Yjr hs
 obtain⟨_,x1,x2,x3,x4⟩:=Yi2 hs hn
 have k1:note*(expF s.bs note).2<=139*262144:=YbE hn.2 x4 hn.1 (by decide)
 refine⟨(s.d-s.c).toNat,(expF s.bs note).1.toNat,(expF s.bs note).2.toNat,?_,?_,?_,?_,?_,?_,Yz7 hs hn⟩
 ·omega
 ·omega
 ·omega
 ·omega
 ·omega
 ·omega
theorem Yl7{s:Scl}{note:Int}{m num den:Nat}(p:Prt s note m num den):YhB (s.d-s.c) (expF s.bs note).1 (expF s.bs note).2=((rtN m num den:Int),exN m num den):=by
 unfold YhB
 rw[p.em,p.en,p.ed,Yza p.mr p.nr p.dr p.th]
theorem Yvf{s:Scl}(hs:chkL s=0){note:Int}(hn:0<=note/\note<=139):0<=(YhB (s.d-s.c) (expF s.bs note).1 (expF s.bs note).2).1/\(YhB (s.d-s.c) (expF s.bs note).1 (expF s.bs note).2).1<=500000:=by
 obtain⟨m,num,den,p⟩:=prt hs hn
 rw[Yl7 p]
 have:=YnX (num:=num) p.mr p.dr.1
 simp only
 omega
theorem YlH{s:Scl}(hs:chkL s=0){note:Int}(hn:0<=note/\note<=139):0<=(diaS s note).1/\(diaS s note).1<=(diaS s note).2/\1<=(diaS s note).2/\(diaS s note).2<=3000000:=by
 have hr:=Yjr hs
 obtain⟨m,num,den,p⟩:=prt hs hn
 have hle:=YnX (num:=num) p.mr p.dr.1
 unfold diaS
 simp only
 rw[Yl7 p]
 simp only
 split
 ·rename_i hx
  unfold exN at hx
  rw[YGi,decide_eq_true_eq]at hx
  omega
 ·omega
set_option maxHeartbeats 4000000
def v27:VF:=⟨15,[.tmp 6],(ZR [u1 6 .mov [.cn (.bool false)]] (ZR [Zm 7 0,Zm 8 1,Zr 9 .geq 7 8,Zm 10 9,Zg 11 10 true 0,Zg 12 10 true 2,u2 13 10 true (.cmp .leq) [.tm 11,.tm 12],u1 14 .and [.tm 10,.tm 13],Zm 6 14] .ret))⟩
theorem YEY:Yg YGc Tryz.f27=some v27:=by kernel_rfl
def v28:VF:=⟨9,[.tmp 2],(ZR [u1 2 .mov [.cn (.bool false)]] (ZR [Zm 3 0,Zq 4 .geq 3 1,Zm 5 4,Zg 6 5 true 0,u2 7 5 true (.cmp .leq) [.tm 6,.cn (.int .i64 20)],u1 8 .and [.tm 5,.tm 7],Zm 2 8] .ret))⟩
theorem YEZ:Yg YGc Tryz.f28=some v28:=by kernel_rfl
def v39:VF:=⟨16,[.tmp 4],(ZR [u1 2 .box [.tm 0],u1 4 .mov [.cn (.bool false)]] (ZR [Zm 5 1,Za 6 2 2,Zf 7 1 6,u1 8 (.idxAddr 2) [.tm 7,.cn (.int .i64 0)],Za 9 0 8,Zf 10 1 9,Zr 11 .geq 5 10,Zm 12 11,Zg 13 12 true 1,u2 14 12 true (.cmp .leq) [.tm 13,.cn (.int .i64 139)],u1 15 .and [.tm 12,.tm 14],Zm 4 15] .ret))⟩
theorem YE8:Yg YGc Tryz.f39=some v39:=by kernel_rfl
def v43:VF:=⟨16,[.tmp 4],(ZR [u1 2 .box [.tm 0],u1 4 .mov [.cn (.bool false)]] (ZR [Zm 5 1,Za 6 2 2,Zf 7 1 6,u1 8 (.idxAddr 2) [.tm 7,.cn (.int .i64 0)],Za 9 0 8,Zf 10 1 9,Zr 11 .geq 5 10,Zm 12 11,Zg 13 12 true 1,u2 14 12 true (.cmp .leq) [.tm 13,.cn (.int .i64 139)],u1 15 .and [.tm 12,.tm 14],Zm 4 15] .ret))⟩
theorem YFb:Yg YGc Tryz.f43=some v43:=by kernel_rfl
def v10:VF:=⟨87,[.tmp 2],(ZR [u1 1 .box [.tm 0],Zi 2 0] (.seq (ZR [Za 9 2 1,Zf 10 1 9,Zl 11 10,Zq 12 .gtr 11 3] (ZC 12 (ZR [Zi 2 3] .ret) .skip)) (ZR [Za 13 2 1,Zf 14 1 13,Zl 15 14,Zq 16 .gtr 15 0,Zm 17 16,Zj 18 17 true 0 1,Zh 19 17 true 1 18,u2 20 17 true (.call 27) [.tm 19,.cn (.int .i64 1000),.cn (.int .i64 500000)],u1 21 .and [.tm 17,.tm 20],Zm 22 21,Zj 23 22 true 1 1,Zh 24 22 true 1 23,Zj 25 22 true 0 1,Zh 26 22 true 1 25,u2 27 22 true (.ari .sub) [.tm 26,.cn (.int .i64 1)],u2 28 22 true .min [.cn (.int .i64 50000),.tm 27],u2 29 22 true (.call 27) [.tm 24,.cn (.int .i64 0),.tm 28],u1 30 .and [.tm 22,.tm 29],Zm 3 30] (.seq (ZR [Za 31 3 1,Zf 32 1 31,Za 33 4 1,Zf 34 1 33,Za 35 5 1,Zf 36 1 35,Za 37 6 1,Zf 38 1 37,u1 39 (.build [(.int .i64 0),(.int .i64 0),(.int .i64 0),(.int .i64 0)] [(0,1),(1,1),(2,1),(3,1)]) [.tm 32,.tm 34,.tm 36,.tm 38],Zi 40 0] (.block 0 (.loop (ZR [Zq 41 .lss 40 4] (.seq (ZC 41 .skip (.exit 0)) (.seq (.block 1 (ZR [u1 42 (.index false 4 1) [.tm 39,.tm 40],Zm 5 42] (.region [Zm 43 3,Zm 44 43,Zg 45 44 true 5,u2 46 44 true (.call 27) [.tm 45,.cn (.int .i64 1),.cn (.int .i64 20)],u1 47 .and [.tm 44,.tm 46],Zm 3 47]))) (.region [Zp 48 40 1,Zm 40 48]))))))) (ZR [Zi 6 (-1)] (.seq (ZR [Za 49 2 1,Zf 50 1 49,Zl 51 50,Zi 52 0] (.block 2 (.loop (ZR [Zr 53 .lss 52 51] (.seq (ZC 53 .skip (.exit 2)) (.seq (.block 3 (ZR [Zx 54 2 50 52,Zt 55 2 54,Zn 8,Zs 2 8 55] (ZR [Zm 56 3,Zm 57 56,Zj 58 57 true 0 8,Zh 59 57 true 1 58,Zg 60 57 true 6,u2 61 57 true (.cmp .gtr) [.tm 59,.tm 60],u1 62 .and [.tm 57,.tm 61],Zm 63 62,Zj 64 63 true 0 8,Zh 65 63 true 1 64,u2 66 63 true (.cmp .leq) [.tm 65,.cn (.int .i64 139)],u1 67 .and [.tm 63,.tm 66],Zm 68 67,Zj 69 68 true 1 8,Zh 70 68 true 1 69,u2 71 68 true (.call 27) [.tm 70,.cn (.int .i64 8),.cn (.int .i64 64)],u1 72 .and [.tm 68,.tm 71],Zm 3 72] (.region [Zm 73 6,Za 74 0 8,Zf 75 1 74,u1 76 .max [.tm 73,.tm 75],Zm 6 76])))) (.region [Zp 77 52 1,Zm 52 77]))))))) (.seq (ZR [Zm 78 3,u1 79 .not [.tm 78],Zm 80 79,Zj 81 80 false 3 1,Zh 82 80 false 1 81,Zj 83 80 false 4 1,Zh 84 80 false 1 83,u2 85 80 false (.cmp .geq) [.tm 82,.tm 84],u1 86 .or [.tm 80,.tm 85]] (ZC 86 (ZR [Zi 2 2] .ret) .skip)) (ZR [Zi 2 0] .ret))))))))⟩
theorem YEL:Yg YGc Tryz.f10=some v10:=by kernel_rfl
def v11:VF:=⟨115,[.tmp 2],(ZR [u1 1 .box [.tm 0],Zi 2 0] (.seq (ZR [Za 5 2 1,Zf 6 1 5,Zl 7 6,Zq 8 .gtr 7 3] (ZC 8 (ZR [Zi 2 3] .ret) .skip)) (.seq (ZR [Zi 3 0] (.block 0 (.loop (.seq (ZR [Zm 9 3,Za 10 2 1,Zf 11 1 10,Zl 12 11,Zr 13 .lss 9 12] (ZC 13 .skip (.exit 0))) (.seq (.block 1 (ZR [Za 16 2 1,Zf 17 1 16,Zm 18 3,Zx 19 2 17 18,Zt 20 2 19,Zn 4,Zs 2 4 20] (.seq (.draw [] [Zy 21 0 4,Zv 22 1 21,w1 23 (.cmp .lss) [.tm 22,.cn (.int .i64 0)],Zu 24 23,⟨Zj 25 24 false 0 4,[]⟩,⟨Zh 26 24 false 1 25,[]⟩,⟨u2 27 24 false (.cmp .gtr) [.tm 26,.cn (.int .i64 139)],[]⟩,w1 28 .or [.tm 24,.tm 27],Zu 29 28,⟨Zj 30 29 false 1 4,[]⟩,⟨Zh 31 29 false 1 30,[]⟩,⟨u2 32 29 false (.cmp .lss) [.tm 31,.cn (.int .i64 8)],[]⟩,w1 33 .or [.tm 29,.tm 32],Zu 34 33,⟨Zj 35 34 false 1 4,[]⟩,⟨Zh 36 34 false 1 35,[]⟩,⟨u2 37 34 false (.cmp .gtr) [.tm 36,.cn (.int .i64 64)],[]⟩,w1 38 .or [.tm 34,.tm 37],Zu 39 38,⟨Zg 40 39 false 3,[]⟩,⟨u2 41 39 false (.cmp .gtr) [.tm 40,.cn (.int .i64 0)],[]⟩,⟨Zg 42 39 false 41,[]⟩,⟨Zj 43 42 true 2 1,[]⟩,⟨Zh 44 42 true 1 43,[]⟩,⟨Zg 45 42 true 3,[]⟩,⟨u2 46 42 true (.ari .sub) [.tm 45,.cn (.int .i64 1)],[]⟩,⟨u2 47 42 true (.idxAddr 2) [.tm 44,.tm 46],[]⟩,⟨Zj 48 42 true 0 47,[]⟩,⟨Zh 49 42 true 1 48,[]⟩,⟨Zj 50 42 true 0 4,[]⟩,⟨Zh 51 42 true 1 50,[]⟩,⟨u2 52 42 true (.cmp .geq) [.tm 49,.tm 51],[]⟩,⟨u2 53 39 false .and [.tm 42,.tm 52],[]⟩,w1 54 .or [.tm 39,.tm 53]]) (ZC 54 (ZR [Zi 2 2] .ret) .skip)))) (.region [Zm 14 3,Zp 15 14 1,Zm 3 15])))))) (.seq (ZR [Za 55 2 1,Zf 56 1 55,Zl 57 56,Zq 58 .eql 57 0,Zm 59 58,Zj 60 59 false 0 1,Zh 61 59 false 1 60,u2 62 59 false (.cmp .lss) [.tm 61,.cn (.int .i64 1000)],u1 63 .or [.tm 59,.tm 62],Zm 64 63,Zj 65 64 false 0 1,Zh 66 64 false 1 65,u2 67 64 false (.cmp .gtr) [.tm 66,.cn (.int .i64 500000)],u1 68 .or [.tm 64,.tm 67],Zm 69 68,Zj 70 69 false 1 1,Zh 71 69 false 1 70,u2 72 69 false (.cmp .lss) [.tm 71,.cn (.int .i64 0)],u1 73 .or [.tm 69,.tm 72],Zm 74 73,Zj 75 74 false 1 1,Zh 76 74 false 1 75,u2 77 74 false (.cmp .gtr) [.tm 76,.cn (.int .i64 50000)],u1 78 .or [.tm 74,.tm 77],Zm 79 78,Zj 80 79 false 1 1,Zh 81 79 false 1 80,Zj 82 79 false 0 1,Zh 83 79 false 1 82,u2 84 79 false (.cmp .geq) [.tm 81,.tm 83],u1 85 .or [.tm 79,.tm 84]] (ZC 85 (ZR [Zi 2 2] .ret) .skip)) (.seq (ZR [Za 86 3 1,Zf 87 1 86,Zc 88 28 87,u1 89 .not [.tm 88],Zm 90 89,Zj 91 90 false 4 1,Zh 92 90 false 1 91,u2 93 90 false (.call 28) [.tm 92],u2 94 90 false .not [.tm 93],u1 95 .or [.tm 90,.tm 94],Zm 96 95,Zj 97 96 false 5 1,Zh 98 96 false 1 97,u2 99 96 false (.call 28) [.tm 98],u2 100 96 false .not [.tm 99],u1 101 .or [.tm 96,.tm 100],Zm 102 101,Zj 103 102 false 6 1,Zh 104 102 false 1 103,u2 105 102 false (.call 28) [.tm 104],u2 106 102 false .not [.tm 105],u1 107 .or [.tm 102,.tm 106],Zm 108 107,Zj 109 108 false 3 1,Zh 110 108 false 1 109,Zj 111 108 false 4 1,Zh 112 108 false 1 111,u2 113 108 false (.cmp .geq) [.tm 110,.tm 112],u1 114 .or [.tm 108,.tm 113]] (ZC 114 (ZR [Zi 2 2] .ret) .skip)) (ZR [Zi 2 0] .ret))))))⟩
theorem YEM:Yg YGc Tryz.f11=some v11:=by kernel_rfl
def v19:VF:=⟨28,[.tmp 6],(ZR [u1 3 .box [.tm 0],Zi 6 0] (.seq (ZR [Zt 8 7 3,Zc 9 10 8,Zm 7 9] (ZR [Zm 10 7,Zq 11 .neq 10 0] (ZC 11 (ZR [Zm 12 7,Zm 6 12] .ret) .skip))) (.seq (ZR [Zt 13 7 3,Zm 14 1,Zd 15 39 13 14,u1 16 .not [.tm 15],Zm 17 16,u2 18 17 false (.load true 7) [.tm 3],Zg 19 17 false 2,u2 20 17 false (.call 39) [.tm 18,.tm 19],u2 21 17 false .not [.tm 20],u1 22 .or [.tm 17,.tm 21],Zm 23 22,Zg 24 23 false 1,Zg 25 23 false 2,u2 26 23 false (.cmp .gtr) [.tm 24,.tm 25],u1 27 .or [.tm 23,.tm 26]] (ZC 27 (ZR [Zi 6 2] .ret) .skip)) (ZR [Zi 6 0] .ret))))⟩
theorem YEQ:Yg YGc Tryz.f19=some v19:=by kernel_rfl
def inSC:Ctr:={ alias:=false,of:=fun l=>match l with
 | [.int .i64 n,.int .i64 a,.int .i64 b]=> .fin (.bool (inS n a b)) []
 |_=> .pre False (.fin (.bool false) [])}
def partSC:Ctr:={ alias:=false,of:=fun l=>match l with
 | [.int .i64 n]=> .fin (.bool (Ybs n)) []
 |_=> .pre False (.fin (.bool false) [])}
def SK00:Env:={ ct:=fun _=>none,fn:=fun _=>none,meth:=fun _ _=>none}
theorem Yiv:Yq YGc SK00:=by
 refine⟨fun f c h=>?_,fun f vf h=>?_,(fun _ _ _ h=>by cases h),by kernel_rfl,(fun _ h=>by cases h)⟩
 ·cases h
 ·cases h
theorem inS_c:inSC.ok YGc 27:=by
 refine Yb Tryz.func27 YEY Yiv 100 inSC fun args k h=>?_
 simp only[inSC]at h
 split at h
 ·rename_i n a b
  refine⟨[.int .i64 n,.int .i64 a,.int .i64 b],by simp [leL,le],?_⟩
  dsimp only[v27,go_sem,reduceIte]
  simp only[Yc,YGa,YF9,reduceCtorEq,YF8]
  exact YK h
 ·exact h.1.elim
theorem Yy6:partSC.ok YGc 28:=by
 refine Yb Tryz.func28 YEZ Yiv 100 partSC fun args k h=>?_
 simp only[partSC]at h
 split at h
 ·rename_i n
  refine⟨[.int .i64 n],by simp [leL,le],?_⟩
  dsimp only[v28,go_sem,reduceIte]
  simp only[Yc,YGa,YF9,reduceCtorEq,YF8]
  exact YK h
 ·exact h.1.elim
def hasC:Ctr:={ alias:=false,of:=fun l=>match l with
 | [.agg [.int .i64 d,.int .i64 c,.vs _ _ n sz get,.int .i64 mn,.int .i64 md,.int .i64 cn,.int .i64 cd],.int .i64 note]=>
   .ex (List (Int×Int)) fun bs=> .pre (lsP 2 enc2 n sz get bs/\0<n/\n<=9223372036854775807) (.fin (.bool (hasS ⟨d,c,bs,mn,md,cn,cd⟩ note)) [])
 |_=> .pre False (.fin (.bool false) [])}
theorem YCJ:hasC.ok YGc 39:=by
 refine Yb Tryz.func39 YE8 Yiv 100 hasC fun args k h=>?_
 simp only[hasC]at h
 split at h
 ·rename_i d c tt z n sz get mn md cn cd note
  obtain⟨bs,⟨⟨rfl,rfl,hg⟩,hn0,hn⟩,h⟩:=h
  refine⟨[.agg [.int .i64 d,.int .i64 c,.vs tt z bs.length 2 (fun k=>enc2 (bs.getD k default)),.int .i64 mn,.int .i64 md,.int .i64 cn,.int .i64 cd],.int .i64 note],⟨⟨⟨rfl,rfl⟩,⟨rfl,rfl⟩,⟨id,rfl,rfl,rfl,hg⟩,⟨rfl,rfl⟩,⟨rfl,rfl⟩,⟨rfl,rfl⟩,⟨rfl,rfl⟩,trivial⟩,⟨rfl,rfl⟩,trivial⟩,?_⟩
  dsimp only[v39,enc2,YHw,go_sem,reduceIte]
  simp only[Yc,YGa,YF9,reduceCtorEq,YF8]
  refine⟨⟨by omega,by omega⟩,YK h⟩
 ·exact h.1.elim
theorem YzL:hasC.ok YGc 43:=by
 refine Yb Tryz.func43 YFb Yiv 100 hasC fun args k h=>?_
 simp only[hasC]at h
 split at h
 ·rename_i d c tt z n sz get mn md cn cd note
  obtain⟨bs,⟨⟨rfl,rfl,hg⟩,hn0,hn⟩,h⟩:=h
  refine⟨[.agg [.int .i64 d,.int .i64 c,.vs tt z bs.length 2 (fun k=>enc2 (bs.getD k default)),.int .i64 mn,.int .i64 md,.int .i64 cn,.int .i64 cd],.int .i64 note],⟨⟨⟨rfl,rfl⟩,⟨rfl,rfl⟩,⟨id,rfl,rfl,rfl,hg⟩,⟨rfl,rfl⟩,⟨rfl,rfl⟩,⟨rfl,rfl⟩,⟨rfl,rfl⟩,trivial⟩,⟨rfl,rfl⟩,trivial⟩,?_⟩
  dsimp only[v43,enc2,YHw,go_sem,reduceIte]
  simp only[Yc,YGa,YF9,reduceCtorEq,YF8]
  refine⟨⟨by omega,by omega⟩,YK h⟩
 ·exact h.1.elim
def ptB(g:Bool)(mn md cn cd:Int):Nat->Bool
 |0=>g
 |1=>g&&Ybs mn
 |2=>g&&Ybs mn&&Ybs md
 |3=>g&&Ybs mn&&Ybs md&&Ybs cn
 |_=>g&&Ybs mn&&Ybs md&&Ybs cn&&Ybs cd
def stepG(g:Bool×Int)(b:Int×Int):Bool×Int:=(g.1&&decide (g.2<b.1)&&decide (b.1<=139)&&inS b.2 8 64,max g.2 b.1)
theorem Yn9:∀(r:List (Int×Int))(g:Bool)(last:Int),(r.foldl stepG (g,last)).1=(g&&benL r last)
 | [],g,last=>by rw[benL,Bool.and_true];rfl
 |b::r,g,last=>by
  rw[List.foldl_cons,stepG,Yn9 r,benL]
  simp only
  by_cases c:last<b.1
  ·rw[decide_eq_true c,show max last b.1=b.1 by omega]
   simp only[Bool.and_true,YHq,Bool.and_assoc]
  ·rw[decide_eq_false c]
   simp only[Bool.and_false,YHp]
def chkLC:Ctr:={ alias:=false,of:=fun l=>match l with
 | [.agg [.int .i64 d,.int .i64 c,.vs _ _ n sz get,.int .i64 mn,.int .i64 md,.int .i64 cn,.int .i64 cd]]=>
   .ex (List (Int×Int)) fun bs=> .pre (lsP 2 enc2 n sz get bs/\n<=9223372036854775807) (.fin (.int .i64 (chkL ⟨d,c,bs,mn,md,cn,cd⟩)) [])
 |_=>noC}
def SK01:Env:={ ct:=fun n=>match n with|27=>some inSC|_=>none,fn:=fun _=>none,meth:=fun _ _=>none}
theorem Ybz:SK01.ct 27=some inSC:=rfl
theorem Yxb:Yq YGc SK01:=by
 refine⟨fun f c h=>?_,fun f vf h=>?_,(fun _ _ _ h=>by cases h),by kernel_rfl,(fun _ h=>by cases h)⟩
 ·simp only[SK01]at h
  split at h
  ·cases h;exact⟨inS_c,Tryz.f27,Tryz.func27,by kernel_rfl,by kernel_rfl⟩
  ·cases h
 ·cases h
theorem YCj:chkLC.ok YGc 10:=by
 refine Yb Tryz.func10 YEL Yxb 400 chkLC fun args k h=>?_
 simp only[chkLC]at h
 split at h
 ·rename_i d c tt z n sz get mn md cn cd
  obtain⟨bs,⟨⟨rfl,rfl,hg⟩,hn⟩,h⟩:=h
  refine⟨[.agg [.int .i64 d,.int .i64 c,.vs tt z bs.length 2 (fun k=>enc2 (bs.getD k default)),.int .i64 mn,.int .i64 md,.int .i64 cn,.int .i64 cd]],⟨⟨⟨rfl,rfl⟩,⟨rfl,rfl⟩,⟨id,rfl,rfl,rfl,hg⟩,⟨rfl,rfl⟩,⟨rfl,rfl⟩,⟨rfl,rfl⟩,⟨rfl,rfl⟩,trivial⟩,trivial⟩,?_⟩
  dsimp only[v10,Ybz,inSC,enc2,go_sem,reduceIte]
  simp only[Yc,YGa,YF9,reduceCtorEq,YF8]
  refine⟨fun hc=>?_,fun hc=>?_⟩
  ·rw[chkL,if_pos (by simp only;omega)]at h;exact Yf h
  ·rw[chkL,if_neg (by simp only;omega)]at h
   obtain⟨G,hG⟩:∃G,G=(decide (0<(bs.length:Int))&&inS d 1000 500000&&inS c 0 (min 50000 (IntKind.i64.wrap (d-1)))):=⟨_,rfl⟩
   rw[<-hG]
   refine Loop.keep [1,37] Nat (fun i=>[(3,.bool (ptB G mn md cn cd i)),(40,.int .i64 i)]) (fun _=>[]) [] (fun i=>i<=4) (fun i=>4-i) ?_ ?_
   ·refine⟨0,by omega,?_⟩
    dsimp only[go_sem,reduceIte]
    simp only[Ya]
    exact⟨by decide,rfl,rfl⟩
   ·intro i hi
    rcases(by omega:i=0\/i=1\/i=2\/i=3\/i=4)with rfl|rfl|rfl|rfl|rfl
    ·dsimp only[Ybz,inSC,YGb,go_sem,reduceIte]
     simp only[Yc,YGa,YF9,reduceCtorEq,YF8]
     refine⟨fun _=>⟨by decide,1,by decide,by decide,?_⟩,fun hh=>absurd (by decide) hh⟩
     simp only[Ya]
     exact⟨by decide,rfl,rfl⟩
    ·dsimp only[Ybz,inSC,YGb,go_sem,reduceIte]
     simp only[Yc,YGa,YF9,reduceCtorEq,YF8]
     refine⟨fun _=>⟨by decide,2,by decide,by decide,?_⟩,fun hh=>absurd (by decide) hh⟩
     simp only[Ya]
     exact⟨by decide,rfl,rfl⟩
    ·dsimp only[Ybz,inSC,YGb,go_sem,reduceIte]
     simp only[Yc,YGa,YF9,reduceCtorEq,YF8]
     refine⟨fun _=>⟨by decide,3,by decide,by decide,?_⟩,fun hh=>absurd (by decide) hh⟩
     simp only[Ya]
     exact⟨by decide,rfl,rfl⟩
    ·dsimp only[Ybz,inSC,YGb,go_sem,reduceIte]
     simp only[Yc,YGa,YF9,reduceCtorEq,YF8]
     refine⟨fun _=>⟨by decide,4,by decide,by decide,?_⟩,fun hh=>absurd (by decide) hh⟩
     simp only[Ya]
     exact⟨by decide,rfl,rfl⟩
    ·dsimp only[Ybz,inSC,YGb,go_sem,reduceIte]
     simp only[Yc,YGa,YF9,reduceCtorEq,YF8]
     refine⟨fun hh=>absurd hh (by decide),fun _=>?_⟩
     obtain⟨G2,hG2⟩:∃G2,G2=ptB G mn md cn cd 4:=⟨_,rfl⟩
     rw[<-hG2]
     refine Loop.keep [1,48,0] Nat (fun i=>[(3,.bool ((bs.take i).foldl stepG (G2, -1)).1),(6,.int .i64 ((bs.take i).foldl stepG (G2, -1)).2),(52,.int .i64 i)]) (fun _=>[]) [] (fun i=>i<=bs.length) (fun i=>bs.length-i) ?_ ?_
     ·refine⟨0,by omega,?_⟩
      dsimp only[go_sem,reduceIte]
      simp only[Ya]
      exact⟨by decide,rfl,rfl,rfl⟩
     ·intro i hi
      dsimp only[Ybz,inSC,enc2,YGb,go_sem,reduceIte]
      simp only[Yc,YGa,YF9,reduceCtorEq,YF8]
      refine⟨fun hlt=>⟨⟨by omega,by omega⟩,i+1,by omega,by omega,?_⟩,fun hge=>?_⟩
      ·rw[Yr (by omega),YGd ((i:Int)+1) (by omega)]
       simp only[Ya]
       exact⟨by decide,rfl,rfl,rfl⟩
      ·obtain rfl:i=bs.length:=by omega
       rw[YHe,Yn9]
       have e:okS ⟨d,c,bs,mn,md,cn,cd⟩=(G2&&benL bs (-1)&&decide (mn<md)):=by
        have hp:ptB G mn md cn cd 4=(G&&Ybs mn&&Ybs md&&Ybs cn&&Ybs cd):=rfl
        rw[hG2,hp,hG,okS]
        have e1:decide (bs≠ [])=decide (0<(bs.length:Int)):=by
         cases bs with
         |nil=>rfl
         |cons b r=>rw[decide_eq_true (by simp),decide_eq_true (by rw[YHf];omega)]
        simp only
        rw[e1]
        by_cases hd:inS d 1000 500000=true
        ·have hd':=hd
         simp only[inS,YGi,decide_eq_true_eq]at hd'
         rw[YGd (d-1) (by omega)]
        ·rw[Bool.not_eq_true]at hd
         rw[hd]
         simp only[Bool.and_false,YHp]
       rw[e]at h
       have e2:decide (md<=mn)= !decide (mn<md):=by
        by_cases hh:mn<md
        ·rw[decide_eq_true hh,decide_eq_false (by omega)];rfl
        ·rw[decide_eq_false hh,decide_eq_true (by omega)];rfl
       rw[e2,<-YHt]
       refine⟨fun hh=>?_,fun hh=>?_⟩
       ·rw[YGA]at hh
        rw[hh,if_neg (by decide)]at h;exact Yf h
       ·rw[YG0]at hh
        rw[hh,if_pos rfl]at h;exact Yf h
 ·exact h.1.elim
theorem YmW:∀(r:List (Int×Int))(last:Int),benL r last=true↔∀j,j<r.length->((r.getD j default).1<=139/\8<=(r.getD j default).2/\(r.getD j default).2<=64)/\(if j=0 then last else(r.getD (j-1) default).1)<(r.getD j default).1
 | [],last=>by simp [benL]
 |b::r,last=>by
  have ih:=YmW r b.1
  simp only[benL,inS,YGi,decide_eq_true_eq]
  constructor
  ·rintro⟨⟨⟨h1,h2⟩,h3,h4⟩,h5⟩ j hj
   cases j with
   |zero=>exact⟨⟨h2,h3,h4⟩,h1⟩
   |succ j=>
    have:=ih.1 h5 j (by simpa using hj)
    refine⟨this.1,?_⟩
    cases j with
    |zero=>exact this.2
    |succ j=>exact this.2
  ·intro h
   have h0:=h 0 (by simp)
   refine⟨⟨⟨h0.2,h0.1.1⟩,h0.1.2⟩,ih.2 fun j hj=>?_⟩
   have:=h (j+1) (by simpa using hj)
   refine⟨this.1,?_⟩
   cases j with
   |zero=>exact this.2
   |succ j=>exact this.2
theorem YmV(r:List (Int×Int)):benL r (-1)=true↔∀j,j<r.length->(0<=(r.getD j default).1/\(r.getD j default).1<=139/\8<=(r.getD j default).2/\(r.getD j default).2<=64)/\(0<j->(r.getD (j-1) default).1<(r.getD j default).1):=by
 rw[YmW]
 constructor
 ·intro h j
  induction j with
  |zero=>
   intro hj
   have:=h 0 hj
   simp only[if_pos]at this
   exact⟨by omega,fun hh=>absurd hh (by decide)⟩
  |succ j ih=>
   intro hj
   have h1:=h (j+1) hj
   have h2:=ih (by omega)
   rw[if_neg (by omega)]at h1
   simp only[Nat.add_sub_cancel]at h1⊢
   exact⟨by omega,fun _=>h1.2⟩
 ·intro h j hj
  have h1:=h j hj
  refine⟨h1.1.2,?_⟩
  by_cases c:j=0
  ·rw[if_pos c];omega
  ·rw[if_neg c];exact h1.2 (by omega)
def SK02:Env:={ ct:=fun n=>match n with|28=>some partSC|_=>none,fn:=fun _=>none,meth:=fun _ _=>none}
theorem Ypz:SK02.ct 28=some partSC:=rfl
theorem Yxc:Yq YGc SK02:=by
 refine⟨fun f c h=>?_,fun f vf h=>?_,(fun _ _ _ h=>by cases h),by kernel_rfl,(fun _ h=>by cases h)⟩
 ·simp only[SK02]at h
  split at h
  ·cases h;exact⟨Yy6,Tryz.f28,Tryz.func28,by kernel_rfl,by kernel_rfl⟩
  ·cases h
 ·cases h
theorem YzF:chkLC.ok YGc 11:=by
 refine Yb Tryz.func11 YEM Yxc 400 chkLC fun args k h=>?_
 simp only[chkLC]at h
 split at h
 ·rename_i d c tt z n sz get mn md cn cd
  obtain⟨bs,⟨⟨rfl,rfl,hg⟩,hn⟩,h⟩:=h
  refine⟨[.agg [.int .i64 d,.int .i64 c,.vs tt z bs.length 2 (fun k=>enc2 (bs.getD k default)),.int .i64 mn,.int .i64 md,.int .i64 cn,.int .i64 cd]],⟨⟨⟨rfl,rfl⟩,⟨rfl,rfl⟩,⟨id,rfl,rfl,rfl,hg⟩,⟨rfl,rfl⟩,⟨rfl,rfl⟩,⟨rfl,rfl⟩,⟨rfl,rfl⟩,trivial⟩,trivial⟩,?_⟩
  dsimp only[v11,enc2,go_sem,reduceIte]
  simp only[Yc,YGa,YF9,reduceCtorEq,YF8]
  refine⟨fun hc=>?_,fun hc=>?_⟩
  ·rw[chkL,if_pos (by simp only;omega)]at h;exact Yf h
  ·rw[chkL,if_neg (by simp only;omega)]at h
   refine Loop.keep [1] Nat (fun i=>[(3,.int .i64 i)]) (fun _=>[]) [] (fun i=>i<=bs.length/\∀j,j<i->(0<=(bs.getD j default).1/\(bs.getD j default).1<=139/\8<=(bs.getD j default).2/\(bs.getD j default).2<=64)/\(0<j->(bs.getD (j-1) default).1<(bs.getD j default).1)) (fun i=>bs.length-i) ?_ ?_
   ·refine⟨0,⟨by omega,fun j hj=>by omega⟩,?_⟩
    dsimp only[go_sem,reduceIte]
    simp only[Ya]
    exact⟨by decide,rfl⟩
   ·rintro i ⟨hi,hall⟩
    dsimp only[Ypz,partSC,enc2,YGb,go_sem,reduceIte]
    simp only[Yc,YGa,YF9,reduceCtorEq,YF8]
    refine⟨fun hlt=>⟨⟨by omega,by omega⟩,fun hh=>?_,fun h1 h2=>by rw[h1,decide_eq_true h2];rfl,fun hh=>?_,fun hh=>?_⟩,fun hge=>?_⟩
    ·rw[YGi,decide_eq_true_eq]at hh
     rw[YGd ((i:Int)-1) (by omega)]
     exact⟨by omega,by omega⟩
    ·have e:okS ⟨d,c,bs,mn,md,cn,cd⟩≠true:=fun ho=>by
      simp only[okS,YGi]at ho
      have:=(YmV bs).1 ho.1.2 i (by omega)
      simp only[YG6,YGi,decide_eq_true_eq]at hh
      rcases hh with hh|hh
      ·omega
      ·rw[YGd ((i:Int)-1) (by omega),show((i:Int)-1).toNat=i-1 by omega]at hh
       have:=this.2 (by omega)
       omega
     rw[if_neg e]at h;exact Yf h
    ·simp only[YG8,YGZ,decide_eq_false_iff_not]at hh
     refine⟨i+1,⟨by omega,fun j hj=>?_⟩,by omega,?_⟩
     ·by_cases hji:j<i
      ·exact hall j hji
      ·obtain rfl:j=i:=by omega
       refine⟨by omega,fun h0=>?_⟩
       rcases hh.2 with h3|h3
       ·omega
       ·rw[YGd ((j:Int)-1) (by omega),show((j:Int)-1).toNat=j-1 by omega]at h3
        omega
     ·rw[YGd ((i:Int)+1) (by omega)]
      simp only[Ya]
      exact⟨by decide,rfl⟩
    ·obtain rfl:i=bs.length:=by omega
     have hb:=(YmV bs).2 hall
     have e:okS ⟨d,c,bs,mn,md,cn,cd⟩=((!(decide ((bs.length:Int)=0) || decide (d<1000) || decide (500000<d) || decide (c<0) || decide (50000<c) || decide (d<=c)))&& !(!Ybs mn|| !Ybs md|| !Ybs cn|| !Ybs cd|| decide (md<=mn))):=by
      rw[YHz]
      simp only[okS,hb,inS,<-List.length_eq_zero_iff,YGi,YGA,YG8,YG0,decide_eq_true_eq,decide_eq_false_iff_not,ne_eq]
      constructor
      ·rintro⟨⟨⟨⟨⟨⟨⟨⟨h1,h2⟩,h3⟩,h4⟩,h5⟩,h6⟩,h7⟩,_⟩,h8⟩
       exact⟨⟨⟨⟨⟨⟨by omega,by omega⟩,by omega⟩,by omega⟩,by omega⟩,by omega⟩,⟨⟨⟨h4,h5⟩,h6⟩,h7⟩,by omega⟩
      ·rintro⟨⟨⟨⟨⟨⟨h1,h2⟩,h3⟩,h4⟩,h5⟩,h6⟩,⟨⟨⟨h7,h8⟩,h9⟩,h10⟩,h11⟩
       exact⟨⟨⟨⟨⟨⟨⟨⟨by omega,by omega⟩,by omega⟩,h7⟩,h8⟩,h9⟩,h10⟩,trivial⟩,by omega⟩
     rw[e]at h
     refine⟨fun hh=>?_,fun hh=>⟨fun hx=>?_,fun hx=>?_⟩⟩
     ·rw[hh,if_neg (by simp)]at h;exact Yf h
     ·rw[hx,if_neg (by simp)]at h;exact Yf h
     ·rw[hh,hx,if_pos (by decide)]at h;exact Yf h
 ·exact h.1.elim
def v41:VF:=⟨37,[.cell 4 false 1,.cell 5 false 1],(ZR [u1 2 .box [.tm 0],u1 4 (.alloc [(.int .i64 0)]) [],u1 5 (.alloc [(.int .i64 0)]) []] (.scope (ZR [u0 (.store 1) [.tm 5,.cn (.int .i64 1)]] (ZR [u1 6 (.alloc [(.int .i64 0)]) [],u1 7 (.alloc [(.int .i64 0)]) [],u0 (.store 1) [.tm 6,.cn (.int .i64 0)],u0 (.store 1) [.tm 7,.cn (.int .i64 0)]] (ZR [u1 11 (.mkfn (.func 65) 0) [.tm 7,.tm 4,.tm 6,.tm 5],Zm 8 11] (.seq .skip (.seq (ZR [Za 12 2 2,Zf 13 1 12,Zl 14 13,Zi 15 0] (.block 0 (.loop (ZR [Zr 16 .lss 15 14] (.seq (ZC 16 .skip (.exit 0)) (.seq (.block 1 (ZR [Zx 17 2 13 15,Zt 18 2 17,Zn 10,Zs 2 10 18] (.seq (ZR [Za 19 0 10,Zf 20 1 19,Zm 21 1,Zr 22 .geq 20 21] (ZC 22 (.exit 0) .skip)) (ZR [Zm 23 8,Za 24 0 10,Zf 25 1 24,u1 26 .callv [.tm 23,.tm 25]] (.draw [] [Zy 27 0 10,Zv 28 1 27,Zy 29 1 10,Zv 30 1 29,⟨Zs 1 6 28,[.tm 29]⟩,ZS 1 7 30]))))) (.region [Zp 31 15 1,Zm 15 31]))))))) (ZR [Zm 32 8,Zm 33 1,u1 34 .callv [.tm 32,.tm 33]] (.seq (.draw [] [Zv 35 1 4,Zv 36 1 5,⟨Zs 1 4 35,[.tm 5]⟩,ZS 1 5 36]) .ret)))))))))⟩
theorem YE9:Yg YGc Tryz.f41=some v41:=by kernel_rfl
def v65:VF:=⟨20,[],(ZR [Zf 6 1 1,Zq 7 .gtr 6 0] (ZC 7 (.draw [] [Zv 8 1 2,Zv 9 1 1,w1 10 (.ari .mul) [.tm 8,.tm 9],Zu 11 0,Zv 12 1 3,w1 13 (.ari .sub) [.tm 11,.tm 12],Zv 14 1 4,w1 15 (.ari .mul) [.tm 13,.tm 14],w1 16 (.ari .add) [.tm 10,.tm 15],Zv 17 1 4,Zv 18 1 1,w1 19 (.ari .mul) [.tm 17,.tm 18],⟨Zs 1 2 16,[.tm 4,.tm 1]⟩,ZS 1 4 19]) .skip))⟩
theorem YFv:Yg YGc Tryz.f65=some v65:=by kernel_rfl
def v20:VF:=⟨48,[.cell 4 true 2],(ZR [u1 2 .box [.tm 0],Zn 4] (ZR [Zt 12 7 2,Zm 13 1,Zd 14 41 12 13,Zm 11 14,Ze 15 0 11,Ze 16 1 11,Zm 5 15,Zm 6 16] (ZR [Za 18 0 2,Zf 19 1 18,Za 20 1 2,Zf 21 1 20,Zo 22 .sub 19 21,Zm 23 5,u1 24 .neg [.tm 23],u1 25 (.build [(.int .i64 0),(.int .i64 0)] [(0,1),(1,1)]) [.cn (.int .i64 2),.tm 24],u1 26 (.buildSlice 2 1 [(.int .i64 0),(.int .i64 0)] [(0,2)]) [.tm 25],Zm 27 6,u1 28 (.call 42) [.tm 22,.tm 26,.tm 27],Zm 17 28,Ze 29 0 17,Ze 30 1 17,Ze 31 2 17,Zm 7 29,Zm 8 30,Zm 9 31] (ZR [Za 32 1 2,Zf 33 1 32,Zm 34 7,Zo 35 .add 33 34,Za 36 1 2,Zf 37 1 36,Zm 38 7,Zo 39 .add 37 38,u1 40 (.build [(.int .i64 0),(.int .i64 0)] [(0,1),(1,1)]) [.tm 35,.tm 39],Zn 10,Zs 2 10 40] (.seq (ZR [Zm 41 8,u1 42 .not [.tm 41]] (ZC 42 (.region [Za 43 1 10,Zf 44 1 43,Zp 45 44 1,Za 46 1 10,Zs 1 46 45]) .skip)) (ZR [Zt 47 2 10,Zs 2 4 47] .ret))))))⟩
theorem YER:Yg YGc Tryz.f20=some v20:=by kernel_rfl
def v6:VF:=⟨18,[.cell 4 true 2,.tmp 5],(ZR [u1 2 .box [.tm 0],Zn 4,Zi 5 0] (.seq (ZR [Zt 7 7 2,Zm 8 1,Zm 9 1,u1 10 (.call 19) [.tm 7,.tm 8,.tm 9],Zm 6 10] (ZR [Zm 11 6,Zq 12 .neq 11 0] (ZC 12 (ZR [u1 13 (.build [(.int .i64 0),(.int .i64 0)] []) [],Zm 14 6,Zs 2 4 13,Zm 5 14] .ret) .skip))) (ZR [Zt 15 7 2,Zm 16 1,Zd 17 20 15 16,Zs 2 4 17,Zi 5 0] .ret)))⟩
theorem v6_is:Yg YGc Tryz.f6=some v6:=by kernel_rfl
theorem Ycj{α:Type}[Inhabited α]{l:List α}{i:Nat}(h:i<l.length):l.drop i=l.getD i default::l.drop (i+1):=by
 rw[List.drop_eq_getElem_cons h,YGl,List.getElem?_eq_getElem h];rfl
theorem Yj8{k:SV->List HO->Prop}{al:Bool}{hp:List HO}{κ κ':IntKind}{x y:Int}(h:k (.tup [.int κ x,.int κ' y]) []):YD al k (.tup [.int κ x,.int κ' y]) hp:=
 YC (show k _ []from h) (Yv (.tup [.int κ x,.int κ' y]) ⟨trivial,trivial,trivial⟩) (fun _=>by simp [Yl,Ym])
def askC:Ctr:={ alias:=false,of:=fun l=>match l with
 | [.agg [.int .i64 d,.int .i64 c,.vs _ _ n sz get,.int .i64 mn,.int .i64 md,.int .i64 cn,.int .i64 cd],.int .i64 low,.int .i64 high]=>
   .ex (List (Int×Int)) fun bs=> .pre (lsP 2 enc2 n sz get bs/\n<=9223372036854775807) (.fin (.int .i64 (askS ⟨d,c,bs,mn,md,cn,cd⟩ low high)) [])
 |_=>noC}
def SK10:Env:={ ct:=fun n=>match n with|10=>some chkLC|39=>some hasC|_=>none,fn:=fun _=>none,meth:=fun _ _=>none}
theorem YpA:SK10.ct 10=some chkLC:=rfl
theorem YpB:SK10.ct 39=some hasC:=rfl
theorem Yxd:Yq YGc SK10:=by
 refine⟨fun f c h=>?_,fun f vf h=>?_,(fun _ _ _ h=>by cases h),by kernel_rfl,(fun _ h=>by cases h)⟩
 ·simp only[SK10]at h
  split at h
  ·cases h;exact⟨YCj,Tryz.f10,Tryz.func10,by kernel_rfl,by kernel_rfl⟩
  ·cases h;exact⟨YCJ,Tryz.f39,Tryz.func39,by kernel_rfl,by kernel_rfl⟩
  ·cases h
 ·cases h
theorem YB4:askC.ok YGc 19:=by
 refine Yb Tryz.func19 YEQ Yxd 300 askC fun args k h=>?_
 simp only[askC]at h
 split at h
 ·rename_i d c tt z n sz get mn md cn cd low high
  obtain⟨bs,⟨⟨rfl,rfl,hg⟩,hn⟩,h⟩:=h
  refine⟨[.agg [.int .i64 d,.int .i64 c,.vs tt z bs.length 2 (fun k=>enc2 (bs.getD k default)),.int .i64 mn,.int .i64 md,.int .i64 cn,.int .i64 cd],.int .i64 low,.int .i64 high],⟨⟨⟨rfl,rfl⟩,⟨rfl,rfl⟩,⟨id,rfl,rfl,rfl,hg⟩,⟨rfl,rfl⟩,⟨rfl,rfl⟩,⟨rfl,rfl⟩,⟨rfl,rfl⟩,trivial⟩,⟨rfl,rfl⟩,⟨rfl,rfl⟩,trivial⟩,?_⟩
  dsimp only[v19,YpA,YpB,chkLC,hasC,enc2,go_sem,reduceIte]
  simp only[Yc,YGa,YF9,reduceCtorEq,YF8]
  have self:lsP 2 enc2 bs.length 2 (fun k=>[SV.int IntKind.i64 (bs.getD k default).fst,SV.int IntKind.i64 (bs.getD k default).snd]) bs:=⟨rfl,rfl,fun k _=>Yd _⟩
  refine⟨bs,⟨self,hn⟩,fun hc=>?_,fun hc=>?_⟩
  ·rw[askS,if_pos hc]at h;exact Yf h
  ·rw[askS,if_neg (by rw[hc];decide)]at h
   have hl:=(Ycd hc).1
   refine⟨bs,⟨self,hl,hn⟩,bs,fun _=>⟨self,hl,hn⟩,fun hh=>?_,fun hh=>?_⟩
   ·rw[if_pos hh]at h;exact Yf h
   ·rw[if_neg (by rw[hh];decide)]at h;exact Yf h
 ·exact h.1.elim
def expC:Ctr:={ alias:=false,of:=fun l=>match l with
 | [.agg [.int .i64 d,.int .i64 c,.vs _ _ n sz get,.int .i64 mn,.int .i64 md,.int .i64 cn,.int .i64 cd],.int .i64 note]=>
   .ex (List (Int×Int)) fun bs=> .pre (lsP 2 enc2 n sz get bs/\n<=9223372036854775807) (.fin (.tup [.int .i64 (expF bs note).1,.int .i64 (expF bs note).2]) [])
 |_=>noC}
def SK11:Env:={ ct:=fun _=>none,fn:=fun n=>match n with|65=>some v65|_=>none,meth:=fun _ _=>none}
theorem YjZ:SK11.ct 65=none:=rfl
theorem Yj0:SK11.fn 65=some v65:=rfl
theorem Yxe:Yq YGc SK11:=by
 refine⟨fun f c h=>?_,fun f vf h=>?_,(fun _ _ _ h=>by cases h),by kernel_rfl,(fun _ h=>by cases h)⟩
 ·cases h
 ·simp only[SK11]at h
  split at h
  ·cases h;exact⟨Tryz.f65,Tryz.func65,YFv,Tryz.f65,Tryz.func65,by kernel_rfl,by kernel_rfl⟩
  ·cases h
theorem exp_c:expC.ok YGc 41:=by
 refine Yb Tryz.func41 YE9 Yxe 500 expC fun args k h=>?_
 simp only[expC]at h
 split at h
 ·rename_i d c tt z n sz get mn md cn cd note
  obtain⟨bs,⟨⟨rfl,rfl,hg⟩,hn⟩,h⟩:=h
  refine⟨[.agg [.int .i64 d,.int .i64 c,.vs tt z bs.length 2 (fun k=>enc2 (bs.getD k default)),.int .i64 mn,.int .i64 md,.int .i64 cn,.int .i64 cd],.int .i64 note],⟨⟨⟨rfl,rfl⟩,⟨rfl,rfl⟩,⟨id,rfl,rfl,rfl,hg⟩,⟨rfl,rfl⟩,⟨rfl,rfl⟩,⟨rfl,rfl⟩,⟨rfl,rfl⟩,trivial⟩,⟨rfl,rfl⟩,trivial⟩,?_⟩
  dsimp only[v41,YjZ,Yj0,v65,enc2,go_sem,reduceIte]
  simp only[Yc,YGa,YF9,reduceCtorEq,YF8]
  obtain⟨R,hR⟩:∃R,R=expF bs note:=⟨_,rfl⟩
  rw[<-hR]at h
  refine Loop.keep [1,2,0,0,0,0,4,0] (Exn×Nat) (fun s=>[(15,.int .i64 s.2)]) (fun s=>[(1,.box [.int .i64 s.1.n]),(2,.box [.int .i64 s.1.d]),(3,.box [.int .i64 s.1.f]),(4,.box [.int .i64 s.1.h])]) [] (fun s=>s.2<=bs.length/\R=expL note (bs.drop s.2) s.1) (fun s=>bs.length-s.2) ?_ ?_
  ·refine⟨(⟨0,0,0,1⟩,0),⟨by simp,hR⟩,?_⟩
   dsimp only[go_sem,reduceIte]
   simp only[Ya]
   decide
  ·rintro⟨e,i⟩ ⟨hi,hinv⟩
   dsimp only at hi hinv
   dsimp only[YjZ,Yj0,v65,enc2,YGb,go_sem,reduceIte]
   simp only[Yc,YGa,YF9,reduceCtorEq,YF8]
   refine⟨fun hlt=>⟨⟨by omega,by omega⟩,fun hb=>?_,fun hb=>⟨fun hh=>?_,fun hh=>?_⟩⟩,fun hge=>?_⟩
   ·rw[Ycj (by omega:i<bs.length),expL,if_pos hb]at hinv
    rw[hinv]at h
    refine⟨fun hh=>?_,fun hh=>?_⟩
    ·rw[addE,if_pos hh]at h;exact Yj8 h
    ·rw[addE,if_neg hh]at h;exact Yj8 h
   ·rw[Ycj (by omega:i<bs.length),expL,if_neg hb,addE,if_pos hh]at hinv
    refine⟨(_,i+1),⟨by simp only;omega,hinv⟩,by simp only;omega,?_⟩
    rw[YGd ((i:Int)+1) (by omega)]
    simp only[Ya]
    exact⟨by decide,by decide,by decide,by decide,by decide,rfl⟩
   ·rw[Ycj (by omega:i<bs.length),expL,if_neg hb,addE,if_neg hh]at hinv
    refine⟨(_,i+1),⟨by simp only;omega,hinv⟩,by simp only;omega,?_⟩
    rw[YGd ((i:Int)+1) (by omega)]
    simp only[Ya]
    exact⟨by decide,by decide,by decide,by decide,by decide,rfl⟩
   ·obtain rfl:i=bs.length:=by omega
    rw[List.drop_length,expL]at hinv
    rw[hinv]at h
    refine⟨fun hh=>?_,fun hh=>?_⟩
    ·rw[addE,if_pos hh]at h;exact Yj8 h
    ·rw[addE,if_neg hh]at h;exact Yj8 h
 ·exact h.1.elim
def diaC:Ctr:={ alias:=false,of:=fun l=>match l with
 | [.agg [.int .i64 d,.int .i64 c,.vs _ _ n sz get,.int .i64 mn,.int .i64 md,.int .i64 cn,.int .i64 cd],.int .i64 note]=>
   .ex (List (Int×Int)) fun bs=> .pre (lsP 2 enc2 n sz get bs/\chkL ⟨d,c,bs,mn,md,cn,cd⟩=0/\0<=note/\note<=139) (.fin (.agg (enc2 (diaS ⟨d,c,bs,mn,md,cn,cd⟩ note))) [])
 |_=>noC}
def SK12:Env:={ ct:=fun n=>match n with|41=>some expC|42=>some prodC|_=>none,fn:=fun _=>none,meth:=fun _ _=>none}
theorem YpC:SK12.ct 41=some expC:=rfl
theorem YpD:SK12.ct 42=some prodC:=rfl
theorem Yxf:Yq YGc SK12:=by
 refine⟨fun f c h=>?_,fun f vf h=>?_,(fun _ _ _ h=>by cases h),by kernel_rfl,(fun _ h=>by cases h)⟩
 ·simp only[SK12]at h
  split at h
  ·cases h;exact⟨exp_c,Tryz.f41,Tryz.func41,by kernel_rfl,by kernel_rfl⟩
  ·cases h;exact⟨Ywd,Tryz.f42,Tryz.func42,by kernel_rfl,by kernel_rfl⟩
  ·cases h
 ·cases h
theorem YCq:diaC.ok YGc 20:=by
 refine Yb Tryz.func20 YER Yxf 500 diaC fun args k h=>?_
 simp only[diaC]at h
 split at h
 ·rename_i d c tt z n sz get mn md cn cd note
  obtain⟨bs,⟨⟨rfl,rfl,hg⟩,hs,hnote⟩,h⟩:=h
  refine⟨[.agg [.int .i64 d,.int .i64 c,.vs tt z bs.length 2 (fun k=>enc2 (bs.getD k default)),.int .i64 mn,.int .i64 md,.int .i64 cn,.int .i64 cd],.int .i64 note],⟨⟨⟨rfl,rfl⟩,⟨rfl,rfl⟩,⟨id,rfl,rfl,rfl,hg⟩,⟨rfl,rfl⟩,⟨rfl,rfl⟩,⟨rfl,rfl⟩,⟨rfl,rfl⟩,trivial⟩,⟨rfl,rfl⟩,trivial⟩,?_⟩
  dsimp only[v20,YpC,YpD,expC,prodC,enc2,go_sem,reduceIte]
  simp only[Yc,YGa,YF9,reduceCtorEq,YF8]
  have hr:=Yjr hs
  simp only at hr
  obtain⟨_,x1,x2,x3,x4⟩:=Yi2 hs hnote
  simp only at x1 x2 x3 x4
  have k1:note*(expF bs note).2<=139*262144:=YbE hnote.2 x4 hnote.1 (by decide)
  have e1:IntKind.i64.wrap (d-c)=d-c:=YGd _ (by omega)
  have e2:IntKind.i64.wrap (0-(expF bs note).1)= -(expF bs note).1:=by rw[YGd _ (by omega)];omega
  have hro:0<=(YhB (d-c) (expF bs note).1 (expF bs note).2).1/\(YhB (d-c) (expF bs note).1 (expF bs note).2).1<=500000:=Yvf hs hnote
  refine⟨bs,⟨⟨rfl,rfl,fun k _=>Yd _⟩,?_⟩,by decide,by decide,by decide,[(2, -(expF bs note).1)],⟨?_,?_,⟨by omega,by omega⟩,by omega,by omega⟩,by decide,by decide,by decide,?_⟩
  ·have:=(Ycd hs).2.1
   simp only at this;omega
  ·rw[e2]
   refine⟨rfl,rfl,fun k hk=>?_⟩
   obtain rfl:k=0:=by omega
   exact Yd _
  ·intro x hx
   rw[YGU]at hx
   subst hx
   simp only[okT0,YG8,decide_eq_false_iff_not]
   omega
  ·rw[e1]
   have e3:(YcS (d-c) [(2, -(expF bs note).1)] (expF bs note).2).1=(YhB (d-c) (expF bs note).1 (expF bs note).2).1:=rfl
   have e4:(YcS (d-c) [(2, -(expF bs note).1)] (expF bs note).2).2.1=(YhB (d-c) (expF bs note).1 (expF bs note).2).2:=rfl
   rw[e3,e4]
   unfold diaS at h
   simp only at h
   generalize YhB (d-c) (expF bs note).1 (expF bs note).2=r at*
   have e5:IntKind.i64.wrap (c+r.1)=c+r.1:=YGd _ (by omega)
   have e6:IntKind.i64.wrap (c+r.1+1)=c+r.1+1:=YGd _ (by omega)
   rw[e5,e6]
   refine⟨fun hh=>?_,fun hh=>?_⟩
   ·rw[if_neg (by rw[hh];decide)]at h
    exact Yc7 h
   ·rw[if_pos hh]at h
    exact Yc7 h
 ·exact h.1.elim
def diaFC:Ctr:={ alias:=false,of:=fun l=>match l with
 | [.agg [.int .i64 d,.int .i64 c,.vs _ _ n sz get,.int .i64 mn,.int .i64 md,.int .i64 cn,.int .i64 cd],.int .i64 note]=>
   .ex (List (Int×Int)) fun bs=> .pre (lsP 2 enc2 n sz get bs/\n<=9223372036854775807) (.fin (.tup [.agg (enc2 (diaF ⟨d,c,bs,mn,md,cn,cd⟩ note).1),.int .i64 (diaF ⟨d,c,bs,mn,md,cn,cd⟩ note).2]) [])
 |_=> .pre False (.fin (.tup [.agg [.int .i64 0,.int .i64 0],.int .i64 0]) [])}
theorem Yol{s:Scl}{low high:Int}(h:askS s low high=0):chkL s=0/\(YhW s<=low/\low<=139)/\(YhW s<=high/\high<=139)/\low<=high:=by
 unfold askS at h
 split at h
 ·rename_i h1;exact absurd h h1
 ·rename_i h1
  split at h
  ·cases h
  ·rename_i h2
   simp only[YG6,YGA,hasS,YGZ,decide_eq_false_iff_not,decide_eq_true_eq,not_or,Decidable.not_not]at h2
   exact⟨by simpa using h1,by omega⟩
theorem Ycl{s:Scl}(h:chkL s=0):0<=YhW s/\YhW s<=139:=by
 obtain⟨h1,_,h3⟩:=Ycd h
 simp only[okS,YGi]at h3
 have:=((YmV s.bs).1 h3.1.2 0 h1).1
 unfold YhW;omega
def SK13:Env:={ ct:=fun n=>match n with|19=>some askC|20=>some diaC|_=>none,fn:=fun _=>none,meth:=fun _ _=>none}
theorem YpE:SK13.ct 19=some askC:=rfl
theorem YpF:SK13.ct 20=some diaC:=rfl
theorem Yxg:Yq YGc SK13:=by
 refine⟨fun f c h=>?_,fun f vf h=>?_,(fun _ _ _ h=>by cases h),by kernel_rfl,(fun _ h=>by cases h)⟩
 ·simp only[SK13]at h
  split at h
  ·cases h;exact⟨YB4,Tryz.f19,Tryz.func19,by kernel_rfl,by kernel_rfl⟩
  ·cases h;exact⟨YCq,Tryz.f20,Tryz.func20,by kernel_rfl,by kernel_rfl⟩
  ·cases h
 ·cases h
theorem YCp:diaFC.ok YGc 6:=by
 refine Yb Tryz.func6 v6_is Yxg 300 diaFC fun args k h=>?_
 simp only[diaFC]at h
 split at h
 ·rename_i d c tt z n sz get mn md cn cd note
  obtain⟨bs,⟨⟨rfl,rfl,hg⟩,hn⟩,h⟩:=h
  refine⟨[.agg [.int .i64 d,.int .i64 c,.vs tt z bs.length 2 (fun k=>enc2 (bs.getD k default)),.int .i64 mn,.int .i64 md,.int .i64 cn,.int .i64 cd],.int .i64 note],⟨⟨⟨rfl,rfl⟩,⟨rfl,rfl⟩,⟨id,rfl,rfl,rfl,hg⟩,⟨rfl,rfl⟩,⟨rfl,rfl⟩,⟨rfl,rfl⟩,⟨rfl,rfl⟩,trivial⟩,⟨rfl,rfl⟩,trivial⟩,?_⟩
  dsimp only[v6,YpE,YpF,askC,diaC,enc2,go_sem,reduceIte]
  simp only[Yc,YGa,YF9,reduceCtorEq,YF8]
  have self:lsP 2 enc2 bs.length 2 (fun k=>[SV.int IntKind.i64 (bs.getD k default).fst,SV.int IntKind.i64 (bs.getD k default).snd]) bs:=⟨rfl,rfl,fun k _=>Yd _⟩
  refine⟨bs,⟨self,hn⟩,fun hc=>?_,fun hc=>?_⟩
  ·rw[diaF,if_pos hc]at h;exact Yew h
  ·rw[diaF,if_neg (by rw[hc];decide)]at h
   obtain⟨a1,a2,_⟩:=Yol hc
   have:=Ycl a1
   refine⟨bs,⟨self,a1,by omega,a2.2⟩,?_⟩
   (try simp only[Yc,YGa,YF9,reduceCtorEq,YF8])
   exact Yew h
 ·exact h.1.elim
set_option maxHeartbeats 8000000
def widS(s:Scl)(note:Int):Iv:=(sclF (piF (diaS s note)).1 s.mn s.md).1
def cutS(s:Scl)(note:Int):Iv×Int:=sclF (widS s note) s.cn s.cd
def mouS(s:Scl)(note:Int):Iv×Iv×Int:=if askS s note note≠0 then((0,0),(0,0),askS s note note)else(widS s note,(cutS s note).1,(cutS s note).2)
theorem scl_v{a:Iv}{n d:Int}(h0:0<=a.1)(h1:a.1<=a.2)(h2:a.2<=4000000000000)(hn:0<=n)(hn1:n<=100000)(hd:1<=d)(hd1:d<=100000):sclF a n d=((a.1*n/d, -((-(a.2*n))/d)),0):=by
 have he:=YnZ h0 h1 h2 hn hn1 hd hd1
 refine Prod.ext ?_ he
 unfold sclF at he⊢
 have e1:ivE [a]=0:=okE1 (by omega) h1 (by omega)
 rw[e1,if_neg (by decide),if_neg (by omega)]at he⊢
 unfold Yd9 at he⊢
 obtain⟨e,k1,k2⟩:=Yn6 he
 rw[e]
 have hm:a.1*n<=a.2*n:=YGE h1 hn
 unfold rndF at k1 k2⊢
 rw[Yjx k1,Yjx k2]
 have l1:lowI (a.1*n) [a.2*n]=a.1*n:=by
  simp only[lowI,List.foldl_cons,List.foldl_nil];rw[if_neg (by omega)]
 have l2:Ybc (a.1*n) [a.2*n]=a.2*n:=by
  simp only[Ybc,List.foldl_cons,List.foldl_nil];split <;> omega
 rw[l1,l2]
 simp only[rndT,if_true,YGC,if_false]
theorem YxJ{x d:Int}(hd:1<=d)(hx:0<=x):0<= -((-x)/d)/\ -((-x)/d)<=x:=by
 have m2: -x<=(-x)/d:=by
  rw[Int.le_ediv_iff_mul_le (by omega)]
  have:x*1<=x*d:=Int.mul_le_mul_of_nonneg_left hd hx
  rw[Int.neg_mul];omega
 have m3:(-x)/d<=0:=Int.ediv_nonpos_of_nonpos_of_neg (by omega) (by omega)
 omega
theorem YqW{x y d:Int}(hd:1<=d)(h:x<=y):x/d<= -((-y)/d):=by
 refine Int.ediv_le_of_le_mul (by omega) ?_
 have:=Int.ediv_mul_le (-y) (show d≠0 by omega)
 rw[Int.neg_mul];omega
theorem pi_v{a:Iv}(h0:0<=a.1)(h1:a.1<=a.2)(h2:a.2<=3000000):piF a=((a.1*3141592653589793238/1000000000000000000, -((-(a.2*3141592653589793239))/1000000000000000000)),0):=by
 have e1:ivE [a]=0:=okE1 (by omega) h1 (by omega)
 unfold piF
 rw[e1,if_neg (by decide)]
 unfold Yd9
 have l1:lowI (a.1*3141592653589793238) [a.1*3141592653589793239,a.2*3141592653589793238,a.2*3141592653589793239]=a.1*3141592653589793238:=by
  simp only[lowI,List.foldl_cons,List.foldl_nil];rw[if_neg (by omega),if_neg (by omega),if_neg (by omega)]
 have l2:Ybc (a.1*3141592653589793238) [a.1*3141592653589793239,a.2*3141592653589793238,a.2*3141592653589793239]=a.2*3141592653589793239:=by
  simp only[Ybc,List.foldl_cons,List.foldl_nil]
  repeat' split
  all_goals omega
 rw[l1,l2]
 unfold rndF
 simp only[rndT,if_true,YGC,if_false]
 rw[YeM (by omega) (by omega),YeM (by omega) (by omega)]
 rfl
theorem YkS{s:Scl}(h:chkL s=0):(1<=s.mn/\s.mn<=20)/\(1<=s.md/\s.md<=20)/\(1<=s.cn/\s.cn<=20)/\(1<=s.cd/\s.cd<=20):=by
 have h3:=(Ycd h).2.2
 simp only[okS,Ybs,inS,YGi,decide_eq_true_eq]at h3
 omega
theorem wid_v{s:Scl}(hs:chkL s=0){note:Int}(hn:0<=note/\note<=139):
 widS s note=((diaS s note).1*3141592653589793238/1000000000000000000*s.mn/s.md, -((-(-((-((diaS s note).2*3141592653589793239))/1000000000000000000)*s.mn))/s.md))/\
 0<=(widS s note).1/\(widS s note).1<=(widS s note).2/\(widS s note).2<=200000000:=by
 obtain⟨d0,d1,d2,d3⟩:=YlH hs hn
 obtain⟨p1,p2,_,_⟩:=YkS hs
 have hp:=pi_v d0 d1 d3
 obtain⟨A,hA⟩:∃A,A=(diaS s note).1*3141592653589793238/1000000000000000000:=⟨_,rfl⟩
 obtain⟨B,hB⟩:∃B,B= -((-((diaS s note).2*3141592653589793239))/1000000000000000000):=⟨_,rfl⟩
 have hA0:0<=A:=by omega
 have hAB:A<=B:=by omega
 have hB1:B<=10000000:=by omega
 have e:widS s note=(A*s.mn/s.md, -((-(B*s.mn))/s.md)):=by
  unfold widS
  rw[hp,<-hA,<-hB,scl_v hA0 hAB (by simp only;omega) (by omega) (by omega) p2.1 (by omega)]
 rw[<-hA,<-hB,e]
 have m1:A*s.mn<=B*s.mn:=YGE hAB (by omega)
 have m0:0<=A*s.mn:=YHv hA0 (by omega)
 have m2:B*s.mn<=10000000*20:=YbE hB1 p1.2 (by omega) (by decide)
 refine⟨rfl,Int.ediv_nonneg m0 (by omega),YqW p2.1 m1,?_⟩
 have:=(YxJ (d:=s.md) p2.1 (show 0<=B*s.mn by omega)).2
 simp only
 omega
theorem cut_e{s:Scl}(hs:chkL s=0){note:Int}(hn:0<=note/\note<=139):(cutS s note).2=0:=by
 obtain⟨_,w0,w1,w2⟩:=wid_v hs hn
 obtain⟨_,_,p1,p2⟩:=YkS hs
 exact YnZ w0 w1 (by omega) (by omega) (by omega) p2.1 (by omega)
def v8:VF:=⟨47,[.cell 4 true 2,.cell 5 true 2,.tmp 6],(ZR [u1 2 .box [.tm 0],Zn 4,Zn 5,Zi 6 0] (.seq (ZR [Zt 10 7 2,Zm 11 1,Zm 12 1,u1 13 (.call 19) [.tm 10,.tm 11,.tm 12],Zm 7 13] (ZR [Zm 14 7,Zq 15 .neq 14 0] (ZC 15 (ZR [u1 16 (.build [(.int .i64 0),(.int .i64 0)] []) [],u1 17 (.build [(.int .i64 0),(.int .i64 0)] []) [],Zm 18 7,Zs 2 4 16,Zs 2 5 17,Zm 6 18] .ret) .skip))) (ZR [Zt 20 7 2,Zm 21 1,Zd 22 20 20 21,Zc 23 23 22,Zm 19 23,Ze 24 0 19,Ze 25 1 19,Zn 8,Zs 2 8 24,Zm 9 25] (ZR [Zt 27 2 8,Za 28 3 2,Zf 29 1 28,Za 30 4 2,Zf 31 1 30,u1 32 (.call 24) [.tm 27,.tm 29,.tm 31],Zm 26 32,Ze 33 0 26,Ze 34 1 26,Zs 2 4 33] (ZR [Zt 36 2 4,Za 37 5 2,Zf 38 1 37,Za 39 6 2,Zf 40 1 39,u1 41 (.call 24) [.tm 36,.tm 38,.tm 40],Zm 35 41,Ze 42 0 35,Ze 43 1 35,Zs 2 5 42,Zm 6 43] (.seq (.draw [] [Zw 44 2 4,Zw 45 2 5,Zu 46 6,⟨Zs 2 4 44,[.tm 5]⟩,ZS 2 5 45,Zu 6 46]) .ret))))))⟩
theorem v8_is:Yg YGc Tryz.f8=some v8:=by kernel_rfl
theorem Yiy{k:SV->List HO->Prop}{al:Bool}{hp:List HO}{p q:Iv}{e:Int}(h:k (.tup [.agg (enc2 p),.agg (enc2 q),.int .i64 e]) []):YD al k (.tup [.agg [.int .i64 p.1,.int .i64 p.2],.agg [.int .i64 q.1,.int .i64 q.2],.int .i64 e]) hp:=
 YC (show k _ []from h) (Yv (.tup [.agg [.int .i64 p.1,.int .i64 p.2],.agg [.int .i64 q.1,.int .i64 q.2],.int .i64 e]) ⟨⟨trivial,trivial,trivial⟩,⟨trivial,trivial,trivial⟩,trivial,trivial⟩) (fun _=>by simp [enc2,Yl,Ym])
def mouC:Ctr:={ alias:=false,of:=fun l=>match l with
 | [.agg [.int .i64 d,.int .i64 c,.vs _ _ n sz get,.int .i64 mn,.int .i64 md,.int .i64 cn,.int .i64 cd],.int .i64 note]=>
   .ex (List (Int×Int)) fun bs=> .pre (lsP 2 enc2 n sz get bs/\n<=9223372036854775807) (.fin (.tup [.agg (enc2 (mouS ⟨d,c,bs,mn,md,cn,cd⟩ note).1),.agg (enc2 (mouS ⟨d,c,bs,mn,md,cn,cd⟩ note).2.1),.int .i64 (mouS ⟨d,c,bs,mn,md,cn,cd⟩ note).2.2]) [])
 |_=>noC}
def SM1:Env:={ ct:=fun n=>match n with|19=>some askC|20=>some diaC|23=>some piC|24=>some sclC|_=>none,fn:=fun _=>none,meth:=fun _ _=>none}
theorem YmI:SM1.ct 19=some askC:=rfl
theorem YmJ:SM1.ct 20=some diaC:=rfl
theorem YmK:SM1.ct 23=some piC:=rfl
theorem YmL:SM1.ct 24=some sclC:=rfl
theorem YBQ:Yq YGc SM1:=by
 refine⟨fun f c h=>?_,fun f vf h=>?_,(fun _ _ _ h=>by cases h),by kernel_rfl,(fun _ h=>by cases h)⟩
 ·simp only[SM1]at h
  split at h
  ·cases h;exact⟨YB4,Tryz.f19,Tryz.func19,by kernel_rfl,by kernel_rfl⟩
  ·cases h;exact⟨YCq,Tryz.f20,Tryz.func20,by kernel_rfl,by kernel_rfl⟩
  ·cases h;exact⟨pi_ok,Tryz.f23,Tryz.func23,by kernel_rfl,by kernel_rfl⟩
  ·cases h;exact⟨Ysy,Tryz.f24,Tryz.func24,by kernel_rfl,by kernel_rfl⟩
  ·cases h
 ·cases h
theorem mou_c:mouC.ok YGc 8:=by
 refine Yb Tryz.func8 v8_is YBQ 400 mouC fun args k h=>?_
 simp only[mouC]at h
 split at h
 ·rename_i d c tt z n sz get mn md cn cd note
  obtain⟨bs,⟨⟨rfl,rfl,hg⟩,hn⟩,h⟩:=h
  refine⟨[.agg [.int .i64 d,.int .i64 c,.vs tt z bs.length 2 (fun k=>enc2 (bs.getD k default)),.int .i64 mn,.int .i64 md,.int .i64 cn,.int .i64 cd],.int .i64 note],⟨⟨⟨rfl,rfl⟩,⟨rfl,rfl⟩,⟨id,rfl,rfl,rfl,hg⟩,⟨rfl,rfl⟩,⟨rfl,rfl⟩,⟨rfl,rfl⟩,⟨rfl,rfl⟩,trivial⟩,⟨rfl,rfl⟩,trivial⟩,?_⟩
  obtain⟨s,hs⟩:∃s:Scl,s=⟨d,c,bs,mn,md,cn,cd⟩:=⟨_,rfl⟩
  have h:k (.tup [.agg (enc2 (mouS ⟨d,c,bs,mn,md,cn,cd⟩ note).1),.agg (enc2 (mouS ⟨d,c,bs,mn,md,cn,cd⟩ note).2.1),.int .i64 (mouS ⟨d,c,bs,mn,md,cn,cd⟩ note).2.2]) []:=h
  dsimp only[v8,YmI,YmJ,YmK,YmL,askC,diaC,piC,sclC,ivoC,enc2,go_sem,reduceIte]
  simp only[Yc,YGa,YF9,reduceCtorEq,YF8]
  have self:lsP 2 enc2 bs.length 2 (fun k=>[SV.int IntKind.i64 (bs.getD k default).fst,SV.int IntKind.i64 (bs.getD k default).snd]) bs:=⟨rfl,rfl,fun k _=>Yd _⟩
  refine⟨bs,⟨self,hn⟩,fun hc=>?_,fun hc=>?_⟩
  ·rw[mouS,if_pos hc]at h
   exact Yiy (p:=(0,0)) (q:=(0,0)) h
  ·rw[mouS,if_neg (by rw[hc];decide)]at h
   obtain⟨a1,a2,_⟩:=Yol hc
   have:=Ycl a1
   refine⟨bs,⟨self,a1,by omega,a2.2⟩,?_⟩
   (try dsimp only[YmI,YmJ,YmK,YmL,askC,diaC,piC,sclC,ivoC,enc2,go_sem,reduceIte])
   (try simp only[Yc,YGa,YF9,reduceCtorEq,YF8])
   exact⟨by decide,by decide,by decide,by decide,by decide,by decide,Yiy (p:=widS ⟨d,c,bs,mn,md,cn,cd⟩ note) (q:=(cutS ⟨d,c,bs,mn,md,cn,cd⟩ note).1) (e:=(cutS ⟨d,c,bs,mn,md,cn,cd⟩ note).2) h⟩
 ·exact h.1.elim
def v13:VF:=⟨57,[.cell 6 true 5,.tmp 7],(ZR [u1 3 .box [.tm 0],u1 6 (.alloc [(.int .i64 0),(.int .i64 0),(.int .i64 0),(.int .i64 0),(.int .i64 0)]) [],Zi 7 0] (ZR [Zt 15 7 3,Zm 16 1,Zd 17 8 15 16,Zm 14 17,Ze 18 0 14,Ze 19 1 14,Ze 20 2 14,Zn 8,Zn 9,Zs 2 8 18,Zs 2 9 19,Zm 10 20] (.seq (ZR [Zm 21 10,Zq 22 .neq 21 0] (ZC 22 (ZR [u1 23 (.build [(.int .i64 0),(.int .i64 0),(.int .i64 0),(.int .i64 0),(.int .i64 0)] []) [],Zm 24 10,Zs 5 6 23,Zm 7 24] .ret) .skip)) (.seq (ZR [Zm 25 2,u1 26 (.call 34) [.tm 25,.cn (.int .i64 1),.cn (.int .i64 3)],u1 27 .not [.tm 26]] (ZC 27 (ZR [u1 28 (.build [(.int .i64 0),(.int .i64 0),(.int .i64 0),(.int .i64 0),(.int .i64 0)] []) [],Zs 5 6 28,Zi 7 2] .ret) .skip)) (ZR [Zt 30 7 3,Zm 31 1,Zd 32 6 30 31,Zm 29 32,Ze 33 0 29,Ze 34 1 29,Zn 11,Zs 2 11 33,Zm 12 34] (ZR [Zm 35 2,Za 36 0 11,Zf 37 1 36,Za 38 0 11,Zf 39 1 38,Za 40 0 8,Zf 41 1 40,Za 42 0 9,Zf 43 1 42,u1 44 (.build [(.int .i64 0),(.int .i64 0),(.int .i64 0),(.int .i64 0),(.int .i64 0)] [(0,1),(1,1),(2,1),(3,1),(4,1)]) [.tm 35,.tm 37,.tm 39,.tm 41,.tm 43],u1 13 (.alloc [(.int .i64 0),(.int .i64 0),(.int .i64 0),(.int .i64 0),(.int .i64 0)]) [],Zs 5 13 44] (.seq (ZR [Zm 45 2,Zq 46 .eql 45 3] (ZC 46 (.region [Za 47 0 11,Zf 48 1 47,u1 49 (.ari .mul) [.tm 48,.cn (.int .i64 2)],u1 50 .quo [.tm 49,.cn (.int .i64 3)],Za 51 2 13,Zs 1 51 50]) .skip)) (.seq (ZR [Zt 52 5 13,Zc 53 35 52,Zq 54 .neq 53 0] (ZC 54 (ZR [u1 55 (.build [(.int .i64 0),(.int .i64 0),(.int .i64 0),(.int .i64 0),(.int .i64 0)] []) [],Zs 5 6 55,Zi 7 7] .ret) .skip)) (ZR [Zt 56 5 13,Zs 5 6 56,Zi 7 0] .ret)))))))))⟩
theorem YEO:Yg YGc Tryz.f13=some v13:=by kernel_rfl
def bodB(s:Scl)(note kind:Int):Bdy:=⟨kind,(diaS s note).1,if kind=3 then Int.tdiv ((diaS s note).1*2) 3 else(diaS s note).1,(widS s note).1,(cutS s note).1.1⟩
def bod0:Bdy:=⟨0,0,0,0,0⟩
def bodF(s:Scl)(note kind:Int):Bdy×Int:=
 if(mouS s note).2.2≠0 then(bod0,(mouS s note).2.2)else if inF kind 1 3=true then if chkB (bodB s note kind)≠0 then(bod0,7)else(bodB s note kind,0)else(bod0,2)
def bodC:Ctr:={ alias:=false,of:=fun l=>match l with
 | [.agg [.int .i64 d,.int .i64 c,.vs _ _ n sz get,.int .i64 mn,.int .i64 md,.int .i64 cn,.int .i64 cd],.int .i64 note,.int .i64 kind]=>
   .ex (List (Int×Int)) fun bs=> .pre (lsP 2 enc2 n sz get bs/\n<=9223372036854775807) (.fin (.tup [.agg (encY (bodF ⟨d,c,bs,mn,md,cn,cd⟩ note kind).1),.int .i64 (bodF ⟨d,c,bs,mn,md,cn,cd⟩ note kind).2]) [])
 |_=>noC}
theorem Yba{k:SV->List HO->Prop}{al:Bool}{hp:List HO}{p:Bdy}{e:Int}(h:k (.tup [.agg (encY p),.int .i64 e]) []):YD al k (.tup [.agg [.int .i64 p.kind,.int .i64 p.bottom,.int .i64 p.top,.int .i64 p.mouth,.int .i64 p.cut],.int .i64 e]) hp:=
 YC (show k _ []from h) (Yv (.tup [.agg [.int .i64 p.kind,.int .i64 p.bottom,.int .i64 p.top,.int .i64 p.mouth,.int .i64 p.cut],.int .i64 e]) ⟨⟨trivial,trivial,trivial,trivial,trivial,trivial⟩,trivial,trivial⟩) (fun _=>by simp [encY,Yl,Ym])
def SM2:Env:={ ct:=fun n=>match n with|8=>some mouC|34=>some inC|6=>some diaFC|35=>some chkBC|_=>none,fn:=fun _=>none,meth:=fun _ _=>none}
theorem Yxi:SM2.ct 8=some mouC:=rfl
theorem YtU:SM2.ct 34=some inC:=rfl
theorem Yxh:SM2.ct 6=some diaFC:=rfl
theorem YtV:SM2.ct 35=some chkBC:=rfl
theorem YBR:Yq YGc SM2:=by
 refine⟨fun f c h=>?_,fun f vf h=>?_,(fun _ _ _ h=>by cases h),by kernel_rfl,(fun _ h=>by cases h)⟩
 ·simp only[SM2]at h
  split at h
  ·cases h;exact⟨mou_c,Tryz.f8,Tryz.func8,by kernel_rfl,by kernel_rfl⟩
  ·cases h;exact⟨in_c,Tryz.f34,Tryz.func34,by kernel_rfl,by kernel_rfl⟩
  ·cases h;exact⟨YCp,Tryz.f6,Tryz.func6,by kernel_rfl,by kernel_rfl⟩
  ·cases h;exact⟨Yqo,Tryz.f35,Tryz.func35,by kernel_rfl,by kernel_rfl⟩
  ·cases h
 ·cases h
theorem bod_c:bodC.ok YGc 13:=by
 refine Yb Tryz.func13 YEO YBR 400 bodC fun args k h=>?_
 simp only[bodC]at h
 split at h
 ·rename_i d c tt z n sz get mn md cn cd note kind
  obtain⟨bs,⟨⟨rfl,rfl,hg⟩,hn⟩,h⟩:=h
  refine⟨[.agg [.int .i64 d,.int .i64 c,.vs tt z bs.length 2 (fun k=>enc2 (bs.getD k default)),.int .i64 mn,.int .i64 md,.int .i64 cn,.int .i64 cd],.int .i64 note,.int .i64 kind],⟨⟨⟨rfl,rfl⟩,⟨rfl,rfl⟩,⟨id,rfl,rfl,rfl,hg⟩,⟨rfl,rfl⟩,⟨rfl,rfl⟩,⟨rfl,rfl⟩,⟨rfl,rfl⟩,trivial⟩,⟨rfl,rfl⟩,⟨rfl,rfl⟩,trivial⟩,?_⟩
  have h:k (.tup [.agg (encY (bodF ⟨d,c,bs,mn,md,cn,cd⟩ note kind).1),.int .i64 (bodF ⟨d,c,bs,mn,md,cn,cd⟩ note kind).2]) []:=h
  dsimp only[v13,Yxi,YtU,Yxh,YtV,mouC,inC,diaFC,chkBC,enc2,go_sem,reduceIte]
  simp only[Yc,YGa,YF9,reduceCtorEq,YF8]
  have self:lsP 2 enc2 bs.length 2 (fun k=>[SV.int IntKind.i64 (bs.getD k default).fst,SV.int IntKind.i64 (bs.getD k default).snd]) bs:=⟨rfl,rfl,fun k _=>Yd _⟩
  refine⟨bs,⟨self,hn⟩,by decide,by decide,by decide,fun hc=>?_,fun hc=>?_⟩
  ·rw[bodF,if_pos hc]at h
   exact Yba (p:=bod0) h
  ·rw[bodF,if_neg (by rw[hc];decide)]at h
   have hask:askS ⟨d,c,bs,mn,md,cn,cd⟩ note note=0:=by
    by_cases h0:askS ⟨d,c,bs,mn,md,cn,cd⟩ note note=0
    ·exact h0
    ·rw[mouS,if_pos h0]at hc;exact absurd hc h0
   obtain⟨hs,n0,_⟩:=Yol hask
   have hf:=Ycl hs
   have hm:mouS ⟨d,c,bs,mn,md,cn,cd⟩ note=(widS ⟨d,c,bs,mn,md,cn,cd⟩ note,(cutS ⟨d,c,bs,mn,md,cn,cd⟩ note).1,(cutS ⟨d,c,bs,mn,md,cn,cd⟩ note).2):=by
    rw[mouS,if_neg (by rw[hask];decide)]
   have hd:diaF ⟨d,c,bs,mn,md,cn,cd⟩ note=(diaS ⟨d,c,bs,mn,md,cn,cd⟩ note,0):=by
    rw[diaF,if_neg (by rw[hask];decide)]
   obtain⟨d0,d1,d2,d3⟩:=YlH hs (note:=note) (by omega)
   refine⟨fun hi=>?_,fun hi=>⟨bs,⟨self,hn⟩,?_⟩⟩
   ·rw[if_neg (by rw[hi];decide)]at h
    exact Yba (p:=bod0) h
   ·rw[if_pos hi]at h
    rw[hd,hm]
    dsimp only
    have e1:IntKind.i64.wrap ((diaS ⟨d,c,bs,mn,md,cn,cd⟩ note).1*2)=(diaS ⟨d,c,bs,mn,md,cn,cd⟩ note).1*2:=YGd _ (by omega)
    have e2:IntKind.i64.wrap (Int.tdiv ((diaS ⟨d,c,bs,mn,md,cn,cd⟩ note).1*2) 3)=Int.tdiv ((diaS ⟨d,c,bs,mn,md,cn,cd⟩ note).1*2) 3:=by
     refine YGd _ ?_
     rw[Int.tdiv_eq_ediv_of_nonneg (by omega)]
     omega
    rw[e1,e2]
    refine⟨by decide,by decide,fun hk=>⟨by decide,fun hx=>?_,fun hx=>?_⟩,fun hk=>⟨fun hx=>?_,fun hx=>?_⟩⟩
    all_goals
     have hB:bodB ⟨d,c,bs,mn,md,cn,cd⟩ note kind=⟨kind,(diaS ⟨d,c,bs,mn,md,cn,cd⟩ note).1,if kind=3 then Int.tdiv ((diaS ⟨d,c,bs,mn,md,cn,cd⟩ note).1*2) 3 else(diaS ⟨d,c,bs,mn,md,cn,cd⟩ note).1,(widS ⟨d,c,bs,mn,md,cn,cd⟩ note).1,(cutS ⟨d,c,bs,mn,md,cn,cd⟩ note).1.1⟩:=rfl
     first|rw[if_pos hk]at hB|rw[if_neg hk]at hB
     rw[hB]at h
    ·rw[if_pos hx]at h
     exact Yba (p:=bod0) h
    ·rw[if_neg (by rw[hx];decide)]at h
     exact Yba h
    ·rw[if_pos hx]at h
     exact Yba (p:=bod0) h
    ·rw[if_neg (by rw[hx];decide)]at h
     exact Yba h
 ·exact h.1.elim
def toN(note:Int):List (Int×Int)->Int
 | []=>note
 |c::_=>min note c.1
def exR(note:Int):List (Int×Int)->Int×Int->Int×Int
 | [],p=>p
 |b::r,p=>if b.1<note then exR note r (p.1*b.2+(toN note r-b.1)*p.2,p.2*b.2)else p
theorem YCx{note:Int}:∀(r:List (Int×Int))(e:Exn)(last:Int), -1<=last->benL r last=true->0<e.h->e.f<=last->e.f<note->exE note r e=exR note r (e.n*e.h+(toN note r-e.f)*e.d,e.d*e.h)
 | [],e,_,_,_,hh,_,_=>by rw[exE,exR,Exn.add,if_pos hh];rfl
 |c::t,e,last,hl,hb,hh,hf,hn=>by
  obtain⟨⟨b1,b2⟩,b3⟩:=YgE hb hl
  rw[exE,exR]
  by_cases h:note<=c.1
  ·rw[if_pos h,if_neg (by omega),Exn.add,if_pos hh]
   have hm:toN note (c::t)=min note c.1:=rfl
   have:toN note (c::t)=note:=by omega
   rw[this]
  ·rw[if_neg h,if_pos (by omega)]
   have hm:toN note (c::t)=min note c.1:=rfl
   have e1:toN note (c::t)=c.1:=by omega
   have:=YCx (note:=note) t ⟨c.1,c.2,(e.add c.1).1,(e.add c.1).2⟩ c.1 (by omega) b3 (show(0:Int)<c.2 by omega) (Int.le_refl _) (show c.1<note by omega)
   rw[this,e1,Exn.add,if_pos hh]
theorem exp_R{s:Scl}(hs:chkL s=0){note:Int}(hn:0<=note/\note<=139):expF s.bs note=exR note s.bs (0,1):=by
 rw[(Yi2 hs hn).1]
 have h3:=(Ycd hs).2.2
 simp only[okS,YGi]at h3
 have hb:=h3.1.2
 cases h:s.bs with
 |nil=>rfl
 |cons b r=>
  rw[h]at hb
  obtain⟨⟨b1,b2⟩,b3⟩:=YgE hb (by decide)
  rw[exE,exR]
  have e0:(⟨0,0,0,1⟩:Exn).add note=(0,1):=rfl
  have e1:(⟨0,0,0,1⟩:Exn).add b.1=(0,1):=rfl
  by_cases c:note<=b.1
  ·rw[if_pos c,if_neg (by omega),e0]
  ·rw[if_neg c,if_pos (by omega),e1]
   rw[YCx (note:=note) r ⟨b.1,b.2,0,1⟩ b.1 (by omega) b3 (show(0:Int)<b.2 by omega) (Int.le_refl _) (show b.1<note by omega)]
structure Rex (note:Int) (E:Int×Int) (r:List (Int×Int)) (j:Nat) (n d:Nat):Prop where
 ex:∃G:Nat,1<=G/\exR note r (((G*n:Nat):Int),((G*d:Nat):Int))=E/\G*d*64^r.length<=262144/\G*n<=139*j*(G*d)
 d1:1<=d
theorem Rex.bnd{note:Int}{E:Int×Int}{r:List (Int×Int)}{j n d:Nat}(h:Rex note E r j n d):d<=262144/\n<=139*j*262144/\d*64^r.length<=262144:=by
 obtain⟨⟨G,g1,_,g3,g4⟩,h2⟩:=h
 have hp:1<=64^r.length:=YGO (by decide)
 have a1:1*d<=G*d:=YGf d g1
 have a2:1*n<=G*n:=YGf n g1
 have a3:G*d*1<=G*d*64^r.length:=YGk _ hp
 have a4:139*j*(G*d)<=139*j*262144:=YGk _ (by omega)
 have a5:d*64^r.length<=G*d*64^r.length:=YGf _ (by omega)
 omega
theorem Rex.next{note:Int}{E:Int×Int}{b:Int×Int}{r:List (Int×Int)}{j n d:Nat}(h:Rex note E (b::r) j n d)(hn:note<=139)(hb:0<=b.1/\b.1<note)(h8:8<=b.2/\b.2<=64)(hr:b.1<=toN note r):
 ∃hh x:Nat,b.2=(hh:Int)/\toN note r-b.1=(x:Int)/\x<=139/\(8<=hh/\hh<=64)/\1<=YHa (n*hh+x*d) (d*hh)/\Rex note E r (j+1) ((n*hh+x*d)/YHa (n*hh+x*d) (d*hh)) (d*hh/YHa (n*hh+x*d) (d*hh)):=by
 obtain⟨⟨G,g1,g2,g3,g4⟩,h2⟩:=h
 have hto:toN note r<=note:=by unfold toN;split <;> omega
 obtain⟨hh,e1⟩:∃hh:Nat,b.2=(hh:Int):=⟨b.2.toNat,by omega⟩
 obtain⟨x,e2⟩:∃x:Nat,toN note r-b.1=(x:Int):=⟨(toN note r-b.1).toNat,by omega⟩
 have hdh:1<=d*hh:=YHd h2 (by omega)
 have hg:1<=YHa (n*hh+x*d) (d*hh):=Nat.gcd_pos_of_pos_right _ hdh
 refine⟨hh,x,e1,e2,by omega,by omega,hg,?_⟩
 obtain⟨g,hgd⟩:∃g,g=YHa (n*hh+x*d) (d*hh):=⟨_,rfl⟩
 rw[<-hgd]at hg⊢
 obtain⟨n',hn'⟩:g∣n*hh+x*d:=by rw[hgd];exact Nat.gcd_dvd_left _ _
 obtain⟨d',hd'⟩:g∣d*hh:=by rw[hgd];exact Nat.gcd_dvd_right _ _
 rw[hn',hd',Nat.mul_div_cancel_left _ hg,Nat.mul_div_cancel_left _ hg]
 have hd0:1<=d':=by
  rcases YGI d' with e|e
  ·rw[e,Nat.mul_zero]at hd';omega
  ·exact e
 refine⟨⟨G*g,YHd g1 hg,?_,?_,?_⟩,hd0⟩
 ·rw[<-g2,exR,if_pos hb.2]
  congr 1
  rw[e1,e2,YGm,YGm,<-hn',<-hd']
  refine Prod.ext ?_ ?_
  ·show((G*(n*hh+x*d):Nat):Int)=((G*n:Nat):Int)*(hh:Int)+(x:Int)*((G*d:Nat):Int)
   rw[<-YG1,<-YG1,<-Int.natCast_add]
   congr 1
   rw[YGQ];congr 1 <;> ac_rfl
  ·show((G*(d*hh):Nat):Int)=((G*d:Nat):Int)*(hh:Int)
   rw[<-YG1,YGm]
 ·rw[YGm G g d',<-hd']
  rw[YHf,YGt]at g3
  have:G*(d*hh)*64^r.length<=G*d*(64^r.length*64):=by
   have k:=YGk (G*d*64^r.length) (show hh<=64 by omega)
   refine YGg (YGu ?_) (YGg k (YGu ?_)) <;> ac_rfl
  omega
 ·rw[YGm G g n',YGm G g d',<-hn',<-hd']
  have k1:=YGf hh g4
  have k2:G*(x*d)<=139*(G*(d*hh)):=by
   have a:=YGB (show x<=139 by omega) (Nat.le_mul_of_pos_right (G*d) (show 0<hh by omega))
   refine YGg (YGu ?_) (YGg a (YGu ?_)) <;> ac_rfl
  have e3:G*(n*hh+x*d)=G*n*hh+G*(x*d):=by rw[YGQ];congr 1;ac_rfl
  have e4:139*(j+1)*(G*(d*hh))=139*j*(G*d)*hh+139*(G*(d*hh)):=by
   rw[YGQ,YHj,YGG];congr 1;ac_rfl
  omega
theorem Yva{s:Scl}{note:Int}{m num den:Nat}(p:Prt s note m num den){n d G:Nat}(hG:1<=G)(hE:(((G*n:Nat):Int),((G*d:Nat):Int))=expF s.bs note)(hd:1<=d)(hd2:d<=1000000)(hn:n<=1000000000):
 Thr n d/\rtN m n d=rtN m num den/\exN m n d=exN m num den:=by
 have e1:num=G*n:=by
  have:=p.en
  rw[<-hE]at this
  simp only at this
  omega
 have e2:den=G*d:=by
  have:=p.ed
  rw[<-hE]at this
  simp only at this
  omega
 have ht:=p.th
 rw[e1,e2]at ht
 have hr:=YEv (m:=m) (num:=n) (den:=d) hG
 rw[<-e1,<-e2]at hr
 exact⟨ht.red hG,hr.1.symm,hr.2.symm⟩
def v72:VF:=⟨12,[.tmp 4],(ZR [Zi 4 0] (.seq (.block 0 (.loop (.seq (ZR [Zm 5 1,Zq 6 .gtr 5 0] (ZC 6 .skip (.exit 0))) (.block 1 (.draw [] [Zu 7 1,Zu 8 0,Zu 9 1,w1 10 .rem [.tm 8,.tm 9],Zu 0 7,Zu 1 10]))))) (ZR [Zm 11 0,Zm 4 11] .ret)))⟩
theorem YFC:Yg YGc Tryz.f72=some v72:=by kernel_rfl
def v44:VF:=⟨79,[.tmp 4,.tmp 5],(ZR [u1 2 .box [.tm 0],Zi 4 0,Zi 5 0] (ZR [Zi 6 0,Zi 7 1] (.seq (ZR [Zi 8 0] (.block 0 (.loop (.seq (ZR [Zm 12 8,Za 13 2 2,Zf 14 1 13,Zl 15 14,Zr 16 .lss 12 15,Zm 17 16,Zj 18 17 true 2 2,Zh 19 17 true 1 18,Zg 20 17 true 8,u2 21 17 true (.idxAddr 2) [.tm 19,.tm 20],Zj 22 17 true 0 21,Zh 23 17 true 1 22,Zg 24 17 true 1,u2 25 17 true (.cmp .lss) [.tm 23,.tm 24],u1 26 .and [.tm 17,.tm 25]] (ZC 26 .skip (.exit 0))) (.seq (.block 1 (ZR [Zm 29 1,Zm 9 29] (.seq (ZR [Zm 30 8,Zp 31 30 1,Za 32 2 2,Zf 33 1 32,Zl 34 33,Zr 35 .lss 31 34] (ZC 35 (.region [Zm 36 9,Za 37 2 2,Zf 38 1 37,Zm 39 8,Zp 40 39 1,Zx 41 2 38 40,Za 42 0 41,Zf 43 1 42,u1 44 .min [.tm 36,.tm 43],Zm 9 44]) .skip)) (ZR [Za 45 2 2,Zf 46 1 45,Zm 47 8,Zx 48 2 46 47,Za 49 1 48,Zf 50 1 49,Zm 10 50] (ZR [Zm 51 6,Zm 52 10,Zo 53 .mul 51 52,Zm 54 9,Za 55 2 2,Zf 56 1 55,Zm 57 8,Zx 58 2 56 57,Za 59 0 58,Zf 60 1 59,Zo 61 .sub 54 60,Zm 62 7,Zo 63 .mul 61 62,Zo 64 .add 53 63,Zm 65 7,Zm 66 10,Zo 67 .mul 65 66,Zm 6 64,Zm 7 67] (ZR [Zm 68 6,Zm 69 7,Zd 70 72 68 69,Zm 11 70] (.draw [] [Zu 71 6,Zu 72 11,w1 73 .quo [.tm 71,.tm 72],Zu 74 7,Zu 75 11,w1 76 .quo [.tm 74,.tm 75],Zu 6 73,Zu 7 76]))))))) (.region [Zm 27 8,Zp 28 27 1,Zm 8 28])))))) (ZR [Zm 77 6,Zm 78 7,Zm 4 77,Zm 5 78] .ret))))⟩
theorem YFc:Yg YGc Tryz.f44=some v44:=by kernel_rfl
def SR0:Env:={ ct:=fun _=>none,fn:=fun _=>none,meth:=fun _ _=>none}
theorem YBU:Yq YGc SR0:=by
 refine⟨fun f c h=>?_,fun f vf h=>?_,(fun _ _ _ h=>by cases h),by kernel_rfl,(fun _ h=>by cases h)⟩
 ·cases h
 ·cases h
theorem YCI:gcdC.ok YGc 72:=by
 refine Yb Tryz.func72 YFC YBU 100 gcdC fun args k h=>?_
 simp only[gcdC]at h
 split at h
 ·rename_i a b
  obtain⟨x,y,⟨rfl,rfl,hx,hy⟩,h⟩:=h
  refine⟨[.int .i64 x,.int .i64 y],by simp [leL,le],?_⟩
  dsimp only[v72,go_sem,reduceIte]
  simp only[Yc,YGa,YF9,reduceCtorEq,YF8]
  refine Loop.keep [] (Nat×Nat) (fun s=>[(0,.int .i64 s.1),(1,.int .i64 s.2)]) (fun _=>[]) [] (fun s=>YHa s.1 s.2=YHa x y/\s.1<=9223372036854775807/\s.2<=9223372036854775807) (fun s=>s.2) ?_ ?_
  ·refine⟨(x,y),⟨rfl,hx,hy⟩,?_⟩
   dsimp only[go_sem,reduceIte]
   simp only[Ya]
  ·rintro⟨p,q⟩ ⟨he,hp,hq⟩
   dsimp only at he hp hq
   dsimp only[go_sem,reduceIte]
   simp only[Yc,YGa,YF9,reduceCtorEq,YF8]
   refine⟨fun hc=>⟨by omega,(q,p%q),⟨?_,by simp only;omega,?_⟩,?_,?_⟩,fun hc=>Yf ?_⟩
   ·rw[<-he,Nat.gcd_comm p q]
    show YHa q (p%q)=YHa q p
    rw[Nat.gcd_comm q (p%q),<-Nat.gcd_rec]
   ·have:=YGJ p (by omega:0<q)
    simp only;omega
   ·exact YGJ p (by omega:0<q)
   ·have e:(p:Int).tmod q=((p%q:Nat):Int):=YHF rfl rfl
    rw[e]
    simp only[Ya]
   ·obtain rfl:q=0:=by omega
    rw[Nat.gcd_zero_right]at he
    rw[he];exact h
 ·exact h.1.elim
def rexpC:Ctr:={ alias:=false,of:=fun l=>match l with
 | [.agg [.int .i64 d,.int .i64 c,.vs _ _ n sz get,.int .i64 mn,.int .i64 md,.int .i64 cn,.int .i64 cd],.int .i64 note]=>
   .ex (List (Int×Int)) fun bs=> .pre (lsP 2 enc2 n sz get bs/\chkL ⟨d,c,bs,mn,md,cn,cd⟩=0/\0<=note/\note<=139) (.all Nat fun x=> .all Nat fun y=> .imp (∃G j r,1<=G/\(((G*x:Nat):Int),((G*y:Nat):Int))=expF bs note/\Rex note (expF bs note) r j x y/\j<=3) (.fin (.tup [.int .i64 x,.int .i64 y]) []))
 |_=>noC}
def SR1:Env:={ ct:=fun n=>match n with|72=>some gcdC|_=>none,fn:=fun _=>none,meth:=fun _ _=>none}
theorem YmM:SR1.ct 72=some gcdC:=rfl
theorem YBV:Yq YGc SR1:=by
 refine⟨fun f c h=>?_,fun f vf h=>?_,(fun _ _ _ h=>by cases h),by kernel_rfl,(fun _ h=>by cases h)⟩
 ·simp only[SR1]at h
  split at h
  ·cases h;exact⟨YCI,Tryz.f72,Tryz.func72,by kernel_rfl,by kernel_rfl⟩
  ·cases h
 ·cases h
theorem YEr:rexpC.ok YGc 44:=by
 refine Yb Tryz.func44 YFc YBV 500 rexpC fun args k h=>?_
 simp only[rexpC]at h
 split at h
 ·rename_i d c tt z n sz get mn md cn cd note
  obtain⟨bs,⟨⟨rfl,rfl,hg⟩,hs,hnote⟩,h⟩:=h
  refine⟨[.agg [.int .i64 d,.int .i64 c,.vs tt z bs.length 2 (fun k=>enc2 (bs.getD k default)),.int .i64 mn,.int .i64 md,.int .i64 cn,.int .i64 cd],.int .i64 note],⟨⟨⟨rfl,rfl⟩,⟨rfl,rfl⟩,⟨id,rfl,rfl,rfl,hg⟩,⟨rfl,rfl⟩,⟨rfl,rfl⟩,⟨rfl,rfl⟩,⟨rfl,rfl⟩,trivial⟩,⟨rfl,rfl⟩,trivial⟩,?_⟩
  dsimp only[v44,YmM,gcdC,enc2,go_sem,reduceIte]
  simp only[Yc,YGa,YF9,reduceCtorEq,YF8]
  obtain⟨hl0,hl3,hok⟩:=Ycd hs
  simp only at hl0 hl3
  obtain⟨E,hE⟩:∃E,E=expF bs note:=⟨_,rfl⟩
  rw[<-hE]at h
  have hER:exR note bs (0,1)=E:=by rw[hE];exact(exp_R hs hnote).symm
  refine Loop.keep [1,0] (Nat×Nat×Nat) (fun s=>[(6,.int .i64 s.1),(7,.int .i64 s.2.1),(8,.int .i64 s.2.2)]) (fun _=>[]) [] (fun s=>s.2.2<=bs.length/\Rex note E (bs.drop s.2.2) s.2.2 s.1 s.2.1) (fun s=>bs.length-s.2.2) ?_ ?_
  ·refine⟨(0,1,0),⟨by simp,?_⟩,?_⟩
   ·have h3:64^(List.drop 0 bs).length<=64^3:=YGs (by decide) (by rw[List.drop_zero];exact hl3)
    exact⟨⟨1,by decide,hER,by rw[YGW,YGW];exact h3,by decide⟩,by decide⟩
   ·dsimp only[go_sem,reduceIte]
    simp only[Ya]
    exact⟨by decide,rfl,rfl,rfl⟩
  ·rintro⟨x,y,i⟩ ⟨hi,hinv⟩
   dsimp only at hi hinv
   dsimp only[YmM,gcdC,enc2,YGb,go_sem,reduceIte]
   simp only[Yc,YGa,YF9,reduceCtorEq,YF8]
   have hbnd:=Rex.bnd hinv
   refine⟨fun hlt=>by omega,fun hc=>?_,fun hc=>?_⟩
   ·rw[YGi,decide_eq_true_eq,decide_eq_true_eq]at hc
    have hi2:i<bs.length:=by omega
    simp only[okS,YGi]at hok
    have hben:=(YmV bs).1 hok.1.2
    obtain⟨⟨m1,m2,m3,m4⟩,_⟩:=hben i hi2
    have ew:IntKind.i64.wrap ((i:Int)+1)=((i+1:Nat):Int):=by rw[YGd _ (by omega)];omega
    have hto:toN note (bs.drop (i+1))=if i+1<bs.length then min note (bs.getD (i+1) default).1 else note:=by
     by_cases c1:i+1<bs.length
     ·rw[if_pos c1,Ycj c1];rfl
     ·rw[if_neg c1,List.drop_eq_nil_of_le (by omega)];rfl
    have hle:(bs.getD i default).1<=toN note (bs.drop (i+1)):=by
     rw[hto]
     split
     ·rename_i c1
      have:=(hben (i+1) c1).2 (by omega)
      rw[Nat.add_sub_cancel]at this
      omega
     ·omega
    rw[Ycj hi2]at hinv
    obtain⟨hh,t,e1,e2,t1,t2,g1,hnx⟩:=hinv.next hnote.2 ⟨m1,hc.2⟩ ⟨m3,m4⟩ hle
    rw[ew,YGb]
    have hx:x<=139*3*262144:=by
     have:139*i<=139*3:=by omega
     have:=YGf 262144 this
     omega
    have hy:y<=262144:=hbnd.1
    have hxh:x*hh<=139*3*262144*64:=YGB hx t2.2
    have hty:t*y<=139*262144:=YGB t1 hy
    have hyh:y*hh<=262144*64:=YGB hy t2.2
    have w1:IntKind.i64.wrap ((x:Int)*(bs.getD i default).2)=((x*hh:Nat):Int):=by
     rw[e1,<-YG1,YGd _ (by omega)]
    have w3:IntKind.i64.wrap ((y:Int)*(bs.getD i default).2)=((y*hh:Nat):Int):=by
     rw[e1,<-YG1,YGd _ (by omega)]
    have w2:∀z:Int,z=toN note (bs.drop (i+1))->IntKind.i64.wrap (((x*hh:Nat):Int)+IntKind.i64.wrap (IntKind.i64.wrap (z-(bs.getD i default).1)*(y:Int)))=((x*hh+t*y:Nat):Int):=fun z hz=>by
     rw[hz,e2,YGd (t:Int) (by omega),<-YG1,YGd ((t*y:Nat):Int) (by omega),<-Int.natCast_add,YGd _ (by omega)]
    have hq:∀a g:Nat,1<=g->a<=9223372036854775807->IntKind.i64.wrap ((a:Int).tdiv (g:Int))=((a/g:Nat):Int):=fun a g hg ha=>by
     rw[YHh rfl rfl]
     have:=YHm a g
     generalize a/g=u at*
     rw[YGd _ (by omega)]
    rw[w1,w3]
    refine⟨fun hlt=>?_,fun hge=>?_⟩
    ·rw[w2 _ (by rw[hto,if_pos (by omega)])]
     refine⟨by omega,by omega,by omega,x*hh+t*y,y*hh,⟨rfl,rfl,by omega,by omega⟩,by omega,by omega,(_,_,i+1),⟨by simp only;omega,hnx⟩,by simp only;omega,?_⟩
     rw[hq _ _ g1 (by omega),hq _ _ g1 (by omega)]
     simp only[Ya]
     decide
    ·rw[w2 _ (by rw[hto,if_neg (by omega)])]
     refine⟨by omega,by omega,x*hh+t*y,y*hh,⟨rfl,rfl,by omega,by omega⟩,by omega,by omega,(_,_,i+1),⟨by simp only;omega,hnx⟩,by simp only;omega,?_⟩
     rw[hq _ _ g1 (by omega),hq _ _ g1 (by omega)]
     simp only[Ya]
     decide
   ·have hfin:∃G,1<=G/\(((G*x:Nat):Int),((G*y:Nat):Int))=E:=by
     obtain⟨⟨G,G1,G2,_⟩,_⟩:=hinv
     refine⟨G,G1,?_⟩
     rw[<-G2]
     by_cases c1:i<bs.length
     ·rw[Ycj c1,exR,if_neg ?_]
      intro hb
      rw[decide_eq_true (by omega:(i:Int)<(bs.length:Int)),decide_eq_true hb]at hc
      cases hc
     ·rw[List.drop_eq_nil_of_le (by omega),exR]
    obtain⟨G,G1,G2⟩:=hfin
    exact Yj8 (h x y ⟨G,i,_,G1,G2,hinv,by omega⟩)
 ·exact h.1.elim
end Go.Proofs.YtmiclogmkfobgaaGreat
namespace Go.Proofs.YtmiclogmkfobgaaGreat.Q
open Go Go.Vx
def dig(a i:Nat):Nat:=a/32768^i%32768
theorem Yp(i:Nat):0<32768^i:=YGO (by decide)
theorem Yy(i:Nat):32768^(i+1)=32768^i*32768:=YGt ..
theorem YM(a i:Nat):dig a i<32768:=YGJ _ (by decide)
theorem YaC(a i:Nat):a%32768^(i+1)=a%32768^i+32768^i*dig a i:=Nat.mod_pow_succ
theorem YlI(a:Nat):dig a 0=a%32768:=by simp [dig]
theorem YbQ(i:Nat):dig 0 i=0:=by simp [dig]
theorem Ygi(a i:Nat):dig a (i+1)=dig (a/32768) i:=by
 unfold dig
 rw[YGv,Yy,YGj]
theorem Y3{a n i:Nat}(h:a<32768^n)(hi:n<=i):dig a i=0:=by
 unfold dig
 rw[YHo]
 exact YGV h (YGs (by decide) hi)
theorem Yg3{a b:Nat}:∀{n:Nat},(∀i,i<n->dig a i=dig b i)->a%32768^n=b%32768^n
 |0,_=>by simp [Nat.mod_one]
 |n+1,h=>by rw[YaC,YaC,Yg3 fun i hi=>h i (by omega),h n (by omega)]
theorem YlJ{a b n:Nat}(ha:a<32768^n)(hb:b<32768^n)(h:∀i,i<n->dig a i=dig b i):a=b:=by
 have:=Yg3 h
 rwa [YG3 ha,YG3 hb]at this
theorem YbA{a j k:Nat}(h:k<j):dig (a%32768^j) k=dig a k:=by
 unfold dig
 obtain⟨m,rfl⟩:∃m,j=k+(m+1):=⟨j-k-1,by omega⟩
 rw[YGo,Nat.mod_mul_right_div_self,YGt,YGj,Nat.mod_mul_right_mod]
def nlF:Nat->Nat->Nat
 |0,_=>0
 |f+1,a=>if a=0 then 0 else nlF f (a/32768)+1
def nl(a:Nat):Nat:=nlF a a
theorem YkN:∀(f a n:Nat),a<=f->(nlF f a<=n↔a<32768^n)
 |0,a,n,h=>by
  have:=Yp n
  simp only[nlF];omega
 |f+1,a,n,h=>by
  simp only[nlF]
  split
  ·rename_i h0;have:=Yp n;subst h0;simp;omega
  ·cases n with
   |zero=>simp;omega
   |succ n=>
    have:=YkN f (a/32768) n (by omega)
    rw[Yy,<-YGL (by decide),<-this]
    omega
theorem nl_le{a n:Nat}:nl a<=n↔a<32768^n:=YkN a a n (YGr _)
theorem YbO(a:Nat):a<32768^nl a:=nl_le.1 (YGr _)
theorem nl_0:nl 0=0:=rfl
theorem nl_pos{a:Nat}:0<nl a↔0<a:=by
 have:= @nl_le a 0
 simp at this;omega
theorem nl_eq0{a:Nat}:nl a=0↔a=0:=by
 have:= @nl_le a 0
 simp at this;omega
theorem YnD{a:Nat}(h:a≠0):dig a (nl a-1)≠0:=by
 obtain⟨n,hn⟩:∃n,nl a=n+1:=⟨nl a-1,by have:=nl_eq0 (a:=a);omega⟩
 rw[hn,Nat.add_sub_cancel]
 have h1:=YbO a
 have h2:¬a<32768^n:=fun hh=>by have:=nl_le.2 hh;omega
 rw[hn,Yy]at h1
 unfold dig
 have h3:a/32768^n<32768:=by rw[YGL (Yp n),YGj];exact h1
 rw[YG3 h3]
 have:=Nat.div_pos (YHy h2) (Yp n)
 omega
theorem YbF{a b:Nat}(h:a<=b):nl a<=nl b:=nl_le.2 (YGN h (YbO b))
theorem YaG{a n:Nat}(h:a<32768^n)(ht:n=0\/dig a (n-1)≠0):nl a=n:=by
 have h1:=nl_le.2 h
 rcases ht with rfl|ht
 ·omega
 ·rcases YGz (nl a) n with h2|h2
  ·exact absurd (Y3 (YbO a) (by omega:nl a<=n-1)) ht
  ·omega
theorem Ybe{a n:Nat}(h:a<32768^(n+1))(h0:dig a n=0):a<32768^n:=by
 have:=YaC a n
 rw[h0,YG3 h]at this
 rw[this]
 simpa using YGJ a (Yp n)
def cy(a b i:Nat):Nat:=(a%32768^i+b%32768^i)/32768^i
theorem cy_0(a b:Nat):cy a b 0=0:=by simp [cy,Nat.mod_one]
theorem YiN(a b i:Nat):cy a b i<=1:=by
 unfold cy
 have h1:=YGJ a (Yp i)
 have h2:=YGJ b (Yp i)
 have:(a%32768^i+b%32768^i)/32768^i<2:=by
  rw[YGL (Yp i)];omega
 omega
theorem YqD(a b i:Nat):(a+b)/32768^i=a/32768^i+b/32768^i+cy a b i:=by
 unfold cy
 have h1:=YGP a (32768^i)
 have h2:=YGP b (32768^i)
 generalize hP:32768^i=P at*
 have hp:0<P:=hP▸Yp i
 have e:a+b=P*(a/P+b/P)+(a%P+b%P):=by rw[YGQ];omega
 conv=>lhs;rw[e]
 rw[Nat.mul_add_div hp]
theorem Yfm(a b i:Nat):(dig a i+dig b i+cy a b i)%32768=dig (a+b) i:=by
 unfold dig
 rw[YqD]
 omega
theorem Yj7(a b i:Nat):(dig a i+dig b i+cy a b i)/32768=cy a b (i+1):=by
 have e:cy a b (i+1)=(a%32768^(i+1)+b%32768^(i+1))/32768^(i+1):=rfl
 rw[e,YaC,YaC,Yy,<-YGv]
 unfold cy
 generalize hP:32768^i=P at*
 have hp:0<P:=hP▸Yp i
 have e:a%P+P*dig a i+(b%P+P*dig b i)=P*(dig a i+dig b i)+(a%P+b%P):=by rw[YGQ];omega
 rw[e,Nat.mul_add_div hp]
def setD(V j x:Nat):Nat:=V-dig V j*32768^j+x*32768^j
theorem YaL(V j:Nat):V=32768^j*(32768*(V/32768^(j+1))+dig V j)+V%32768^j:=by
 have h1:=YGP V (32768^j)
 have h2:=YGP (V/32768^j) 32768
 rw[YGv,<-Yy]at h2
 unfold dig
 rw[h2,h1]
theorem YcY(V j x:Nat):setD V j x=32768^j*(32768*(V/32768^(j+1))+x)+V%32768^j:=by
 have:=YaL V j
 unfold setD
 generalize dig V j=d at*
 generalize V/32768^(j+1)=h at*
 generalize V%32768^j=l at*
 generalize 32768^j=P at*
 rw[YGQ]at this⊢
 rw[YGj d,YGj x]
 omega
theorem YdZ(V j x:Nat):setD V j x+dig V j*32768^j=V+x*32768^j:=by
 have:=YaL V j
 rw[YcY]
 generalize dig V j=d at*
 generalize V/32768^(j+1)=h at*
 generalize V%32768^j=l at*
 generalize 32768^j=P at*
 rw[YGQ]at this⊢
 rw[YGj d,YGj x]
 omega
theorem Yfe{V j x:Nat}(hx:x<32768):setD V j x/32768^(j+1)=V/32768^(j+1):=by
 have hl:=YGJ V (Yp j)
 have e:∀Y:Nat,Y/32768^(j+1)=Y/32768^j/32768:=fun Y=>by rw[Yy,YGv]
 rw[YcY,e (32768^j*(32768*(V/32768^(j+1))+x)+V%32768^j),Nat.mul_add_div (Yp j),YHo hl]
 generalize V/32768^(j+1)=h
 omega
theorem YcH{V j x:Nat}(hx:x<32768)(k:Nat):dig (setD V j x) k=if k=j then x else dig V k:=by
 have hl:=YGJ V (Yp j)
 rcases Nat.lt_trichotomy k j with h|h|h
 ·rw[if_neg (by omega),<-YbA h,<-YbA (a:=V) h,YcY,Nat.mul_add_mod,Nat.mod_mod]
 ·subst h
  rw[if_pos rfl,YcY]
  unfold dig
  rw[Nat.mul_add_div (Yp k),YHo hl]
  omega
 ·rw[if_neg (by omega)]
  obtain⟨m,rfl⟩:∃m,k=(j+1)+m:=⟨k-(j+1),by omega⟩
  unfold dig
  have e:setD V j x/32768^(j+1)=V/32768^(j+1):=by
   exact Yfe hx
  rw[YGo,<-YGv,<-YGv,e]
theorem YjD{V j x n:Nat}(hV:V<32768^n)(hx:x<32768)(hj:j<n):setD V j x<32768^n:=by
 obtain⟨m,rfl⟩:∃m,n=m+(j+1):=⟨n-(j+1),by omega⟩
 rw[YGo,<-YGL (Yp _)]at hV⊢
 rw[Yfe hx]
 exact hV
theorem Yjp{a b i k V c:Nat}(h:V+c*32768^(i+k)=(a%32768^i)*b+dig a i*(b%32768^k)*32768^i):
 setD V (i+k) ((dig V (i+k)+dig a i*dig b k+c)%32768)+((dig V (i+k)+dig a i*dig b k+c)/32768)*32768^(i+(k+1))=(a%32768^i)*b+dig a i*(b%32768^(k+1))*32768^i:=by
 have e1:=YdZ V (i+k) ((dig V (i+k)+dig a i*dig b k+c)%32768)
 have e2:=YGP (dig V (i+k)+dig a i*dig b k+c) 32768
 rw[YaC,show i+(k+1)=(i+k)+1 by omega,Yy]
 rw[YGo]at*
 generalize setD V (i+k) ((dig V (i+k)+dig a i*dig b k+c)%32768)=V' at*
 generalize(dig V (i+k)+dig a i*dig b k+c)%32768=r at*
 generalize(dig V (i+k)+dig a i*dig b k+c)/32768=q at*
 generalize dig V (i+k)=d at*
 generalize dig a i=x at*
 generalize dig b k=y at*
 generalize b%32768^k=bm at*
 generalize a%32768^i=am at*
 generalize 32768^i=P at*
 generalize 32768^k=R at*
 grind
theorem YrO{a b i n m:Nat}(hi:i<=n)(ha:a<32768^n)(hb:b<32768^m):(a%32768^i)*b<32768^(n+m+1):=by
 have h1:=YGJ a (Yp i)
 have h2:a%32768^i<=32768^n:=YGg (YHn h1) (YGs (by decide) hi)
 have h3:(a%32768^i)*b<=32768^n*32768^m:=YGB h2 (YHn hb)
 rw[<-YGo]at h3
 rw[Yy]
 have:=Yp (n+m)
 omega
theorem Yc9(a m k:Nat):dig (a/32768^m) k=dig a (m+k):=by
 unfold dig
 rw[YGo,YGv]
theorem YlW(a b:Nat):∃n,a<32768^n/\b<32768^n:=
 ⟨nl a+nl b,YGV (YbO a) (YGs (by decide) (by omega)),YGV (YbO b) (YGs (by decide) (by omega))⟩
theorem Yft{a b:Nat}(h:∀i,dig a i=dig b i):a=b:=by
 obtain⟨n,h1,h2⟩:=YlW a b
 exact YlJ h1 h2 fun i _=>h i
theorem YqC{a b m:Nat}(h:∀i,m<=i->dig a i=dig b i):a/32768^m=b/32768^m:=
 Yft fun i=>by rw[Yc9,Yc9];exact h _ (by omega)
theorem YeA{a b j:Nat}(h:∀i,j<i->dig a i=dig b i)(hd:dig a j<dig b j):a<b:=by
 have h1:=YaL a j
 have h2:=YaL b j
 rw[YqC (m:=j+1) fun i hi=>h i hi]at h1
 have h3:=YGJ a (Yp j)
 generalize b/32768^(j+1)=q at*
 generalize 32768^j=P at*
 generalize a%P=x at*
 generalize b%P=y at*
 generalize dig a j=d at*
 generalize dig b j=e at*
 have:P*(32768*q+d)+P<=P*(32768*q+e):=by
  rw[<-Nat.mul_succ];exact YGk _ (by omega)
 omega
def ordN(a b:Nat):Int:=if a<b then -1 else if b<a then 1 else 0
def pre(r:Nat->Nat):Nat->Nat
 |0=>0
 |i+1=>pre r i+r i*32768^i
theorem Yr8(r:Nat->Nat)(i:Nat):pre r (i+1)/32768^i=r i+pre r i/32768^i:=by
 show(pre r i+r i*32768^i)/32768^i=_
 rw[Nat.add_mul_div_right _ _ (Yp i),Nat.add_comm]
theorem Ywb(r:Nat->Nat)(i:Nat):(r i+pre r i/32768^i)/32768=pre r (i+1)/32768^(i+1):=by
 rw[<-Yr8,YGv,<-Yy]
theorem Ysa(r:Nat->Nat):∀(i d:Nat),pre r (i+d)%32768^i=pre r i%32768^i
 |_,0=>rfl
 |i,d+1=>by
  rw[<-Ysa r i d]
  show(pre r (i+d)+r (i+d)*32768^(i+d))%32768^i=_
  rw[YGo,YGj (32768^i),<-YGm,Nat.add_mul_mod_self_right]
theorem Yr7(r:Nat->Nat){i n:Nat}(h:i<n):(r i+pre r i/32768^i)%32768=dig (pre r n) i:=by
 obtain⟨d,rfl⟩:∃d,n=i+1+d:=⟨n-i-1,by omega⟩
 rw[<-Yr8,<-YbA (Nat.lt_succ_self i),Ysa,YbA (Nat.lt_succ_self i)]
 rfl
theorem Yr6(f g:Nat->Nat):∀n,pre (fun i=>f i+g i) n=pre f n+pre g n
 |0=>rfl
 |n+1=>by show pre (fun i=>f i+g i) n+(f n+g n)*32768^n=(pre f n+f n*32768^n)+(pre g n+g n*32768^n);rw[Yr6 f g n,YGG];omega
theorem Yju(a:Nat):∀n,pre (fun i=>dig a i) n=a%32768^n
 |0=>by simp [pre,Nat.mod_one]
 |n+1=>by show pre (fun i=>dig a i) n+dig a n*32768^n=_;rw[Yju a n,YaC,YGj]
theorem Ysb(r:Nat->Nat)(j x:Nat):∀n,j<n->pre (fun i=>if i=j then r i+x else r i) n=pre r n+x*32768^j
 |0,h=>absurd h (YG7 _)
 |n+1,h=>by
  show pre (fun i=>if i=j then r i+x else r i) n+(if n=j then r n+x else r n)*32768^n=(pre r n+r n*32768^n)+x*32768^j
  have same:∀m,m<=j->pre (fun i=>if i=j then r i+x else r i) m=pre r m:=by
   intro m
   induction m with
   |zero=>intro _;rfl
   |succ m ih=>
    intro hm
    show pre (fun i=>if i=j then r i+x else r i) m+(if m=j then r m+x else r m)*32768^m=pre r m+r m*32768^m
    rw[ih (by omega),if_neg (by omega)]
  rcases YGz j n with h'|h'
  ·rw[Ysb r j x n h',if_neg (by omega)];omega
  ·obtain rfl:n=j:=by omega
   rw[same n (YGr _),if_pos rfl,YGG];omega
theorem Yr9(r:Nat->Nat)(q:Nat):∀n,(∀i,i<n->r i<=32767*q)->pre r n<=q*32768^n
 |0,_=>by simp [pre]
 |n+1,h=>by
  have h1:=Yr9 r q n fun i hi=>h i (by omega)
  have h2:=YGf (32768^n) (h n (by omega))
  show pre r n+r n*32768^n<=_
  rw[Yy]
  have e:q*(32768^n*32768)=q*32768^n+32767*q*32768^n:=by
   generalize 32768^n=P;grind
  omega
theorem Yu0(r:Nat->Nat)(q n:Nat)(h:∀i,i<n->r i<=32767*q):pre r n/32768^n<=q:=
 YGg (Nat.div_le_div_right (Yr9 r q n h)) (by rw[Nat.mul_div_cancel _ (Yp n)];exact YGr _)
theorem Ywc(r:Nat->Nat)(q n:Nat)(hq:q<32768^4)(h:∀i,i<n->r i<=32767*q):pre r n<32768^(n+4):=by
 refine YGN (Yr9 r q n h) ?_
 rw[YGo,YGj]
 exact Nat.mul_lt_mul_of_pos_left hq (Yp n)
set_option maxRecDepth 100000
set_option maxHeartbeats 4000000
def v107:VF:=⟨41,[.tmp 4],(ZR [Zi 4 0] (.seq (ZR [Zm 6 0,Zl 7 6,Zm 8 1,Zl 9 8,Zr 10 .neq 7 9] (ZC 10 (.seq (ZR [Zm 11 0,Zl 12 11,Zm 13 1,Zl 14 13,Zr 15 .lss 12 14] (ZC 15 (ZR [Zi 4 (-1)] .ret) .skip)) (ZR [Zi 4 1] .ret)) .skip)) (.seq (ZR [Zm 16 0,Zl 17 16,u1 18 (.ari .sub) [.tm 17,.cn (.int .i64 1)],Zm 5 18] (.block 0 (.loop (.seq (ZR [Zm 19 5,Zq 20 .geq 19 0] (ZC 20 .skip (.exit 0))) (.seq (.block 1 (.seq (.seq (.draw [] [Zu 23 0,Zu 24 5,ZX 25 1 23 24,Zv 26 1 25,Zu 27 1,Zu 28 5,ZX 29 1 27 28,Zv 30 1 29,w1 31 (.cmp .lss) [.tm 26,.tm 30]]) (ZC 31 (ZR [Zi 4 (-1)] .ret) .skip)) (.seq (.draw [] [Zu 32 0,Zu 33 5,ZX 34 1 32 33,Zv 35 1 34,Zu 36 1,Zu 37 5,ZX 38 1 36 37,Zv 39 1 38,w1 40 (.cmp .gtr) [.tm 35,.tm 39]]) (ZC 40 (ZR [Zi 4 1] .ret) .skip)))) (.region [Zm 21 5,u1 22 (.ari .sub) [.tm 21,.cn (.int .i64 1)],Zm 5 22])))))) (ZR [Zi 4 0] .ret))))⟩
theorem YAj:Yg YGc Tryz.f107=some v107:=by kernel_rfl
def v105:VF:=⟨14,[.tmp 2],(ZR [u1 2 .mov [.cn .nil]] (ZR [u1 3 .mov [.cn .nil]] (.seq (.block 0 (.loop (.seq (ZR [Zm 4 0,Zq 5 .gtr 4 0] (ZC 5 .skip (.exit 0))) (.block 1 (ZR [Zm 6 3,Zm 7 0,u1 8 .rem [.tm 7,.cn (.int .i64 32768)],u1 9 (.buildSlice 1 1 [(.int .i64 0)] [(0,1)]) [.tm 8],u1 10 (.append 1 8 [(.int .i64 0)]) [.tm 6,.tm 9],Zm 3 10] (.region [Zm 11 0,u1 12 .quo [.tm 11,.cn (.int .i64 32768)],Zm 0 12])))))) (ZR [Zm 13 3,Zm 2 13] .ret))))⟩
theorem YAh:Yg YGc Tryz.f105=some v105:=by kernel_rfl
def padP(a n sz:Nat)(get:Nat->List SV):Prop:=sz=1/\n<=100000/\a<32768^n/\∀k,k<n->leXL (get k) [.int .i64 (dig a k)]
theorem Yx{a n:Nat}(hn:n<=100000)(ha:a<32768^n):padP a n 1 (fun k=>[.int .i64 (dig a k)]):=⟨rfl,hn,ha,fun k _=>Yd _⟩
theorem Ye{a:Nat}(hn:nl a<=100000):padP a (nl a) 1 (fun k=>[.int .i64 (dig a k)]):=Yx hn (YbO a)
def natS(z:Bool)(a:Nat):SV:= .vs true z (nl a) 1 (fun k=>[.int .i64 (dig a k)])
theorem Yl3{hp:List HO}{i n m:Nat}{z zz:Bool}{get:Nat->List SV}{a:Nat}(hn:n=nl a)(hz:z=zz)(hi:getH hp i= .own z 1 m get)(hg:∀j,j<n->get j=[.int .i64 (dig a j)]):
 le 0 0 (expo hp (.own i 0 n 1)) (natS zz a):=by
 have e:expo hp (.own i 0 n 1)= .vs true z n 1 (fun k=>viewN true hp 2 (get (Yb9 0 k))):=by
  show view true hp (viewN true hp 2) (.own i 0 n 1)=_
  unfold view
  rw[hi];rfl
 rw[e]
 unfold natS
 rw[YuK]
 refine⟨id,hz,hn,rfl,fun j hj=>?_⟩
 show leXL (viewN true hp 2 (get j)) _
 rw[hg j hj]
 exact Yd _
theorem YaP{k:SV->List HO->Prop}{al:Bool}{hp:List HO}{i n m:Nat}{z zz:Bool}{get:Nat->List SV}{a:Nat}(h:k (natS zz a) [])(hn:n=nl a)(hz:z=zz)(hi:getH hp i= .own z 1 m get)(hg:∀j,j<n->get j=[.int .i64 (dig a j)]):
 YD al k (.own i 0 n 1) hp:=YC h (Yl3 hn hz hi hg) (fun _=>by simp [natS,Yl,Ym])
theorem Yaj{k:SV->List HO->Prop}{al:Bool}{hp:List HO}{t z:Bool}{a:Nat}(h:k (natS z a) []):YD al k (.vs true z (nl a) 1 (fun k=>[.int .i64 (dig a k)])) hp:=
 YC h (Yv _ trivial) (fun _=>by simp [natS,Yl,Ym])
theorem Yq9(x:Nat):((x:Int)).tmod 32768=((x%32768:Nat):Int):=YHF rfl rfl
theorem Yq8{x:Nat}(h:x<=9223372036854775807):IntKind.i64.wrap (((x:Int)).tdiv 32768)=((x/32768:Nat):Int):=by
 have e:((x:Int)).tdiv 32768=((x/32768:Nat):Int):=YHh (y:=32768) rfl rfl
 rw[e,YGd _ (by omega)]
def limbsC:Ctr:={ alias:=false,of:=fun l=>match l with
 | [.int .i64 n]=> .pre (0<=n/\n<=9223372036854775807) (.fin (natS (decide (nl n.toNat=0)) n.toNat) [])
 |_=>noC}
def cmpC:Ctr:={ alias:=false,of:=fun l=>match l with
 | [.vs _ _ n sz get,.vs _ _ m sz' get']=> .ex Nat fun a=> .ex Nat fun b=> .pre (padP a n sz get/\padP b m sz' get'/\n=nl a/\m=nl b) (.fin (.int .i64 (ordN a b)) [])
 |_=>noC}
def Q0:Env:={ ct:=fun _=>none,fn:=fun _=>none,meth:=fun _ _=>none}
theorem Yte:Yq YGc Q0:=by
 refine⟨fun f c h=>?_,fun f vf h=>?_,(fun _ _ _ h=>by cases h),by kernel_rfl,(fun _ h=>by cases h)⟩
 ·cases h
 ·cases h
theorem Yjl:limbsC.ok YGc 105:=by
 refine Yb Tryz.func105 YAh Yte 200 limbsC fun args k h=>?_
 simp only[limbsC]at h
 split at h
 ·rename_i n
  obtain⟨⟨h0,h1⟩,h⟩:=h
  obtain⟨n,rfl⟩:=YGM h0
  rw[YGb]at h
  refine⟨[.int .i64 n],by simp [leL,le],?_⟩
  (try dsimp only[v105,go_sem,reduceIte])
  (try simp only[Yc,YGa,YF9,reduceCtorEq,YF8])
  have hn5:nl n<=5:=nl_le.2 (by omega)
  refine Loop.keep [0,2] Nat (fun i=>[(0,.int .i64 ((n/32768^i:Nat):Int)),(3,.own 0 0 i 1)]) (fun i=>[(0,.own (decide (i=0)) 1 i (fun k=>[.int .i64 (dig n k)]))]) [.gone] (fun i=>i<=nl n) (fun i=>nl n-i) ?_ ?_
  ·refine⟨0,by omega,?_⟩
   (try dsimp only[go_sem,reduceIte])
   simp only[Ya]
   simp
  ·rintro i hi
   (try dsimp only[YGb,go_sem,reduceIte])
   (try simp only[Yc,YGa,YF9,reduceCtorEq,YF8])
   have hle:n/32768^i<=n:=YHm _ _
   refine⟨fun hlt=>?_,fun hge=>?_⟩
   ·have hin:i<nl n:=by
     rcases YGz i (nl n)with h'|h'
     ·exact h'
     ·rw[YHo (nl_le.1 h')]at hlt;exact absurd hlt (by decide)
    rw[Yq9,Yq8 (by omega),YGv,<-Yy]
    (try dsimp only[go_sem,reduceIte])
    (try simp only[Yc,YGa,YF9,reduceCtorEq,YF8])
    refine⟨by decide,by decide,⟨by unfold YP;omega,fun j hj=>?_⟩,by decide,i+1,by omega,by omega,?_⟩
    ·match j,hj with
     |0,_=>exact⟨rfl,trivial,trivial⟩
    ·simp only[Ya]
     refine⟨by simp,by simp,fun j hj=>?_⟩
     rcases YGz j i with h'|h'
     ·rw[if_pos h'];simp only[leL,le,and_self]
     ·obtain rfl:j=i:=by omega
      rw[if_neg (Nat.lt_irrefl _),Nat.sub_self]
      simp only[Yj,YL,YG,leL,Nat.zero_mul,Yd7,refs,cond,le,dig,and_self]
   ·have hin:i=nl n:=by
     have:n<32768^i:=by
      rcases YGz n (32768^i)with h'|h'
      ·exact h'
      ·have:=Nat.div_pos h' (Yp i);omega
     have:=nl_le.2 this;omega
    subst hin
    exact YaP h rfl rfl rfl fun j hj=>rfl
 ·exact h.1.elim
theorem YeQ:cmpC.ok YGc 107:=by
 refine Yb Tryz.func107 YAj Yte 200 cmpC fun args k h=>?_
 simp only[cmpC]at h
 split at h
 ·rename_i t1 z1 n sz get t2 z2 m sz' get'
  obtain⟨a,b,⟨⟨rfl,hn,ha,hg⟩,⟨rfl,hm,hb,hg'⟩,rfl,rfl⟩,h⟩:=h
  refine⟨[.vs t1 z1 (nl a) 1 (fun k=>[.int .i64 (dig a k)]),.vs t2 z2 (nl b) 1 (fun k=>[.int .i64 (dig b k)])],⟨by simpa [le]using hg,by simpa [le]using hg',trivial⟩,?_⟩
  (try dsimp only[v107,go_sem,reduceIte])
  (try simp only[Yc,YGa,YF9,reduceCtorEq,YF8])
  refine⟨fun hne=>⟨fun hlt=>Yf ?_,fun hge=>Yf ?_⟩,fun heq=>?_⟩
  ·have:a<b:=by
    rcases YGz a b with h'|h'
    ·exact h'
    ·have:=YbF h';omega
   rw[ordN,if_pos this]at h;exact h
  ·have:b<a:=by
    rcases YGz b a with h'|h'
    ·exact h'
    ·have:=YbF h';omega
   rw[ordN,if_neg (by omega),if_pos this]at h;exact h
  ·refine Loop.keep [0,0,3] Nat (fun j=>[(5,.int .i64 ((j:Int)-1))]) (fun _=>[]) [] (fun j=>j<=nl a/\∀i,j<=i->dig a i=dig b i) (fun j=>j) ?_ ?_
   ·refine⟨nl a,⟨by omega,fun i hi=>by rw[Y3 ha (by omega),Y3 hb (by omega)]⟩,?_⟩
    (try dsimp only[go_sem,reduceIte])
    simp only[Ya]
    rw[YGd _ (by omega)]
   ·rintro j ⟨hj,haj⟩
    (try dsimp only[YGb,go_sem,reduceIte])
    (try simp only[Yc,YGa,YF9,reduceCtorEq,YF8])
    refine⟨fun hlt=>?_,fun hge=>?_⟩
    ·obtain⟨i,rfl⟩:∃i,j=i+1:=⟨j-1,by omega⟩
     have e:((i+1:Nat):Int)-1=i:=by omega
     have gt:∀t,i<t->dig a t=dig b t:=fun t ht=>haj t (by omega)
     rw[e]
     simp only[YGb]
     refine⟨⟨by omega,by omega⟩,⟨by omega,by omega⟩,fun hc=>Yf ?_,fun hc=>⟨⟨by omega,by omega⟩,⟨by omega,by omega⟩,fun hd=>Yf ?_,fun hd=>?_⟩⟩
     ·have:=YeA gt (by omega:dig a i<dig b i)
      rw[ordN,if_pos this]at h;exact h
     ·have:=YeA (fun t ht=>(gt t ht).symm) (by omega:dig b i<dig a i)
      rw[ordN,if_neg (by omega),if_pos this]at h;exact h
     ·refine⟨i,⟨by omega,fun t ht=>?_⟩,by omega,?_⟩
      ·rcases Nat.eq_or_lt_of_le ht with rfl|ht
       ·omega
       ·exact gt t ht
      ·simp only[Ya]
       rw[YGd _ (by omega)]
    ·obtain rfl:j=0:=by omega
     have:a=b:=Yft fun i=>haj i (YHk _)
     subst this
     rw[ordN,if_neg (Nat.lt_irrefl _),if_neg (Nat.lt_irrefl _)]at h
     exact Yf h
 ·exact h.1.elim
def v135:VF:=⟨21,[.tmp 2],(ZR [u1 2 .mov [.cn .nil]] (.seq (.block 0 (.loop (.seq (ZR [Zm 3 0,Zl 4 3,Zq 5 .gtr 4 0,Zm 6 5,Zg 7 6 true 0,Zg 8 6 true 0,u2 9 6 true .len [.tm 8],u2 10 6 true (.ari .sub) [.tm 9,.cn (.int .i64 1)],u2 11 6 true (.idxAddr 1) [.tm 7,.tm 10],Zh 12 6 true 1 11,u2 13 6 true (.cmp .eql) [.tm 12,.cn (.int .i64 0)],u1 14 .and [.tm 6,.tm 13]] (ZC 14 .skip (.exit 0))) (.block 1 (.region [Zm 15 0,Zm 16 0,Zl 17 16,u1 18 (.ari .sub) [.tm 17,.cn (.int .i64 1)],u1 19 (.slice 1 false true) [.tm 15,.tm 18],Zm 0 19]))))) (ZR [Zm 20 0,Zm 2 20] .ret)))⟩
theorem YsX:Yg YGc Tryz.f135=some v135:=by kernel_rfl
def v108:VF:=⟨35,[.tmp 2],(ZR [u1 2 .mov [.cn .nil]] (ZR [Zi 3 0] (.seq (ZR [Zi 4 0] (.block 0 (.loop (.seq (ZR [Zm 5 4,Zm 6 0,Zl 7 6,Zr 8 .lss 5 7] (ZC 8 .skip (.exit 0))) (.seq (.block 1 (ZR [Zm 11 3,Zm 12 0,Zm 13 4,Zx 14 1 12 13,Zf 15 1 14,Zo 16 .add 11 15,Zm 3 16] (ZR [Zm 17 0,Zm 18 4,Zm 19 3,u1 20 .rem [.tm 19,.cn (.int .i64 32768)],Zx 21 1 17 18,Zs 1 21 20] (.region [Zm 22 3,u1 23 .quo [.tm 22,.cn (.int .i64 32768)],Zm 3 23])))) (.region [Zm 9 4,Zp 10 9 1,Zm 4 10])))))) (.seq (.block 2 (.loop (.seq (ZR [Zm 24 3,Zq 25 .gtr 24 0] (ZC 25 .skip (.exit 2))) (.block 3 (ZR [Zm 26 0,Zm 27 3,u1 28 .rem [.tm 27,.cn (.int .i64 32768)],u1 29 (.buildSlice 1 1 [(.int .i64 0)] [(0,1)]) [.tm 28],u1 30 (.append 1 8 [(.int .i64 0)]) [.tm 26,.tm 29],Zm 0 30] (.region [Zm 31 3,u1 32 .quo [.tm 31,.cn (.int .i64 32768)],Zm 3 32])))))) (ZR [Zm 33 0,Zc 34 135 33,Zm 2 34] .ret)))))⟩
theorem YAk:Yg YGc Tryz.f108=some v108:=by kernel_rfl
def v77:VF:=⟨47,[.tmp 4],(ZR [u1 4 .mov [.cn .nil]] (ZR [Zm 8 0,Zl 9 8,Zm 10 1,Zl 11 10,u1 12 .max [.tm 9,.tm 11],u1 13 (.make 1 8 [(.int .i64 0)]) [.tm 12,.tm 12],Zm 5 13] (.seq (ZR [Zi 6 0] (.block 0 (.loop (.seq (ZR [Zm 14 6,Zm 15 0,Zl 16 15,Zr 17 .lss 14 16] (ZC 17 .skip (.exit 0))) (.seq (.block 1 (.region [Zm 20 5,Zm 21 6,Zm 22 0,Zm 23 6,Zx 24 1 22 23,Zf 25 1 24,Zx 26 1 20 21,Zs 1 26 25])) (.region [Zm 18 6,Zp 19 18 1,Zm 6 19])))))) (.seq (ZR [Zi 7 0] (.block 2 (.loop (.seq (ZR [Zm 27 7,Zm 28 1,Zl 29 28,Zr 30 .lss 27 29] (ZC 30 .skip (.exit 2))) (.seq (.block 3 (.draw [] [Zu 33 5,Zu 34 7,Zu 35 5,Zu 36 7,ZX 37 1 35 36,Zv 38 1 37,Zu 39 1,Zu 40 7,ZX 41 1 39 40,Zv 42 1 41,w1 43 (.ari .add) [.tm 38,.tm 42],ZX 44 1 33 34,ZS 1 44 43])) (.region [Zm 31 7,Zp 32 31 1,Zm 7 32])))))) (ZR [Zm 45 5,Zc 46 108 45,Zm 4 46] .ret)))))⟩
theorem YFH:Yg YGc Tryz.f77=some v77:=by kernel_rfl
def v106:VF:=⟨49,[.tmp 4],(ZR [u1 4 .mov [.cn .nil]] (ZR [Zm 8 0,Zl 9 8,Zm 10 1,Zl 11 10,Zo 12 .add 9 11,u1 13 (.make 1 8 [(.int .i64 0)]) [.tm 12,.tm 12],Zm 5 13] (.seq (ZR [Zi 6 0] (.block 0 (.loop (.seq (ZR [Zm 14 6,Zm 15 0,Zl 16 15,Zr 17 .lss 14 16] (ZC 17 .skip (.exit 0))) (.seq (.block 1 (ZR [Zi 7 0] (.block 2 (.loop (.seq (ZR [Zm 20 7,Zm 21 1,Zl 22 21,Zr 23 .lss 20 22] (ZC 23 .skip (.exit 2))) (.seq (.block 3 (.draw [] [Zu 26 5,Zu 27 6,Zu 28 7,w1 29 (.ari .add) [.tm 27,.tm 28],Zu 30 5,Zu 31 6,Zu 32 7,w1 33 (.ari .add) [.tm 31,.tm 32],ZX 34 1 30 33,Zv 35 1 34,Zu 36 0,Zu 37 6,ZX 38 1 36 37,Zv 39 1 38,Zu 40 1,Zu 41 7,ZX 42 1 40 41,Zv 43 1 42,w1 44 (.ari .mul) [.tm 39,.tm 43],w1 45 (.ari .add) [.tm 35,.tm 44],ZX 46 1 26 29,ZS 1 46 45])) (.region [Zm 24 7,Zp 25 24 1,Zm 7 25]))))))) (.region [Zm 18 6,Zp 19 18 1,Zm 6 19])))))) (ZR [Zm 47 5,Zc 48 108 47,Zm 4 48] .ret))))⟩
theorem YAi:Yg YGc Tryz.f106=some v106:=by kernel_rfl
def addC:Ctr:={ alias:=false,of:=fun l=>match l with
 | [.vs _ _ n sz get,.vs _ _ m sz' get']=> .ex Nat fun a=> .ex Nat fun b=> .pre (padP a n sz get/\padP b m sz' get'/\n<=90000/\m<=90000) (.fin (natS false (a+b)) [])
 |_=>noC}
def Q1:Env:={ ct:=fun _=>none,fn:=fun n=>match n with|135=>some v135|108=>some v108|_=>none,meth:=fun _ _=>none}
theorem Ymu:Q1.ct 135=none:=rfl
theorem Ymw:Q1.fn 135=some v135:=rfl
theorem Ymt:Q1.ct 108=none:=rfl
theorem Ymv:Q1.fn 108=some v108:=rfl
theorem YBw:Yq YGc Q1:=by
 refine⟨fun f c h=>?_,fun f vf h=>?_,(fun _ _ _ h=>by cases h),by kernel_rfl,(fun _ h=>by cases h)⟩
 ·cases h
 ·simp only[Q1]at h
  split at h
  ·cases h;exact⟨Tryz.f135,Tryz.func135,YsX,Tryz.f135,Tryz.func135,by kernel_rfl,by kernel_rfl⟩
  ·cases h;exact⟨Tryz.f108,Tryz.func108,YAk,Tryz.f108,Tryz.func108,by kernel_rfl,by kernel_rfl⟩
  ·cases h
theorem YfL:addC.ok YGc 77:=by
 refine Yb Tryz.func77 YFH YBw 300 addC fun args k h=>?_
 simp only[addC]at h
 split at h
 ·rename_i t1 z1 n sz get t2 z2 m sz' get'
  obtain⟨a,b,⟨⟨rfl,hn,ha,hg⟩,⟨rfl,hm,hb,hg'⟩,hn9,hm9⟩,h⟩:=h
  refine⟨[.vs t1 z1 n 1 (fun k=>[.int .i64 (dig a k)]),.vs t2 z2 m 1 (fun k=>[.int .i64 (dig b k)])],⟨by simpa [le]using hg,by simpa [le]using hg',trivial⟩,?_⟩
  (try dsimp only[v77,go_sem,reduceIte])
  (try simp only[Yc,YGa,YF9,reduceCtorEq,YF8])
  have en:max (n:Int) (m:Int)=((max n m:Nat):Int):=by omega
  rw[en]
  simp only[YGb]
  refine⟨⟨by decide,by omega,by unfold YP;omega⟩,?_⟩
  refine Loop.keep [0,0,3] Nat (fun i=>[(6,.int .i64 i)]) (fun i=>[(0,.own false 1 (max n m) (fun k=>[.int .i64 ((if k<i then dig a k else 0:Nat):Int)]))]) [] (fun i=>i<=n) (fun i=>n-i) ?_ ?_
  ·refine⟨0,by omega,?_⟩
   (try dsimp only[go_sem,reduceIte])
   simp only[Ya]
   simp [leL,le]
  ·rintro i hi
   (try dsimp only[YGb,go_sem,reduceIte])
   (try simp only[Yc,YGa,YF9,reduceCtorEq,YF8])
   refine⟨fun hlt=>?_,fun hge=>?_⟩
   ·refine⟨⟨by omega,by omega⟩,⟨by omega,by omega⟩,by omega,i+1,by omega,by omega,?_⟩
    rw[YGd ((i:Int)+1) (by omega)]
    simp only[Ya]
    refine⟨by simp,fun j hj=>?_⟩
    rcases Nat.lt_trichotomy j i with h'|h'|h'
    ·rw[if_neg (by omega),if_pos h',if_pos (by omega)];simp only[leL,le,and_self]
    ·subst h';rw[if_pos rfl,if_pos (by omega)];simp only[leL,le,and_self]
    ·rw[if_neg (by omega),if_neg (by omega),if_neg (by omega)];simp only[leL,le,and_self]
   ·obtain rfl:i=n:=by omega
    refine Loop.keep [0,0,3] Nat (fun j=>[(7,.int .i64 j)]) (fun j=>[(0,.own false 1 (max i m) (fun k=>[.int .i64 ((dig a k+(if k<j then dig b k else 0):Nat):Int)]))]) [] (fun j=>j<=m) (fun j=>m-j) ?_ ?_
    ·refine⟨0,by omega,?_⟩
     (try dsimp only[go_sem,reduceIte])
     simp only[Ya]
     refine⟨by simp,fun j hj=>?_⟩
     rcases YGz j i with h'|h'
     ·rw[if_pos h',if_neg (YG7 _),YHi];try simp only[leL,le,and_self]
     ·rw[if_neg (by omega),if_neg (YG7 _),Y3 ha h',YHi];try simp only[leL,le,and_self]
    ·rintro j hj
     (try dsimp only[YGb,go_sem,reduceIte])
     (try simp only[Yc,YGa,YF9,reduceCtorEq,YF8])
     refine⟨fun hlt=>?_,fun hge=>?_⟩
     ·refine⟨⟨by omega,by omega⟩,by omega,⟨by omega,by omega⟩,⟨by omega,by omega⟩,by omega,j+1,by omega,by omega,?_⟩
      have h1:=YM a j
      have h2:=YM b j
      have e:IntKind.i64.wrap (((dig a j+if j<j then dig b j else 0:Nat):Int)+(dig b j:Int))=((dig a j+dig b j:Nat):Int):=by
       rw[if_neg (Nat.lt_irrefl _),YGd _ (by omega)];omega
      rw[YGd ((j:Int)+1) (by omega),e]
      simp only[Ya]
      refine⟨by simp,fun q hq=>?_⟩
      rcases Nat.lt_trichotomy q j with h'|h'|h'
      ·rw[if_neg (by omega),if_pos h',if_pos (by omega)];simp only[leL,le,and_self]
      ·subst h';rw[if_pos rfl,if_pos (by omega)];simp only[leL,le,and_self]
      ·rw[if_neg (by omega),if_neg (by omega),if_neg (by omega)];simp only[leL,le,and_self]
     ·obtain rfl:j=m:=by omega
      have eR:(fun k=>[SV.int .i64 ((dig a k+(if k<j then dig b k else 0):Nat):Int)])=fun k=>[SV.int .i64 (((fun i=>dig a i+dig b i) k:Nat):Int)]:=by
       funext k
       split
       ·rfl
       ·rename_i hk;show _=[SV.int .i64 ((dig a k+dig b k:Nat):Int)];rw[Y3 hb (by omega)]
      rw[eR]
      have hX:pre (fun i=>dig a i+dig b i) (max i j)=a+b:=by
       rw[Yr6,Yju,Yju,YG3 (YGV ha (YGs (by decide) (by omega))),YG3 (YGV hb (YGs (by decide) (by omega)))]
      have hQ:∀q,q<max i j->(fun i=>dig a i+dig b i) q<=32767*35184372088832:=fun q _=>by
       have h1:=YM a q
       have h2:=YM b q
       show dig a q+dig b q<=_
       omega
      have hN:max i j<=90000:=by omega
      generalize hR:(fun i=>dig a i+dig b i)=R at hX hQ⊢
      generalize max i j=N at hX hQ hN⊢
      generalize a+b=X at hX h
      have hXN:X<32768^(N+4):=hX▸Ywc R 35184372088832 N (by decide) hQ
      (try dsimp only[Ymt,Ymv,v108,YGb,go_sem,reduceIte])
      (try simp only[Yc,YGa,YF9,reduceCtorEq,YF8])
      refine Loop.keep [0,2,0] Nat (fun i=>[(3,.int .i64 ((pre R i/32768^i:Nat):Int)),(4,.int .i64 i)]) (fun i=>[(0,.own false 1 N (fun k=>[.int .i64 ((if k<i then dig X k else R k:Nat):Int)]))]) [] (fun i=>i<=N) (fun i=>N-i) ?_ ?_
      ·refine⟨0,by omega,?_⟩
       (try dsimp only[go_sem,reduceIte])
       simp only[Ya]
       simp [pre]
      ·rintro i hi
       (try dsimp only[YGb,go_sem,reduceIte])
       (try simp only[Yc,YGa,YF9,reduceCtorEq,YF8])
       refine⟨fun hlt=>?_,fun hge=>?_⟩
       ·have hin:i<N:=by omega
        refine⟨⟨by omega,by omega⟩,hin,by decide,⟨by omega,by omega⟩,hin,by decide,i+1,by omega,by omega,?_⟩
        have hc:=Yu0 R 35184372088832 i fun q hq=>hQ q (by omega)
        have hr:=hQ i hin
        have e:IntKind.i64.wrap (((pre R i/32768^i:Nat):Int)+((if i<i then dig X i else R i:Nat):Int))=((R i+pre R i/32768^i:Nat):Int):=by
         rw[if_neg (Nat.lt_irrefl _)]
         generalize pre R i/32768^i=c at hc
         generalize R i=r at hr
         rw[YGd _ (by omega)];omega
        have hx:R i+pre R i/32768^i<=9223372036854775807:=by
         generalize pre R i/32768^i=c at hc
         omega
        rw[e,YGd ((i:Int)+1) (by omega),Yq9,Yq8 hx,Yr7 R hin,Ywb,hX]
        simp only[Ya]
        refine⟨⟨by omega,by simp⟩,⟨by omega,by omega⟩,fun q hq=>?_⟩
        rcases Nat.lt_trichotomy q i with h'|h'|h'
        ·rw[if_neg (by omega),if_pos h',if_pos (by omega)];simp only[leL,le,and_self]
        ·subst h';rw[if_pos rfl,if_pos (by omega)];simp only[leL,le,and_self]
        ·rw[if_neg (by omega),if_neg (by omega),if_neg (by omega)];simp only[leL,le,and_self]
       ·obtain rfl:i=N:=by omega
        rw[hX]
        refine Loop.keepP 0 [0,2] Nat (fun t=>[(0,.own 0 0 (i+t) 1),(3,.int .i64 ((X/32768^(i+t):Nat):Int))]) (fun t=>[(0,.own false 1 (i+t) (fun k=>[.int .i64 (dig X k)]))]) [] (fun t=>t<=4) (fun t=>4-t) ?_ ?_
        ·refine⟨0,by omega,?_⟩
         (try dsimp only[go_sem,reduceIte])
         simp only[Ya]
         refine⟨⟨⟨by omega,by omega⟩,by simp⟩,by omega,fun q hq=>by rw[if_pos hq]⟩
        ·rintro t ht
         (try dsimp only[YGb,go_sem,reduceIte])
         (try simp only[Yc,YGa,YF9,reduceCtorEq,YF8])
         refine⟨fun hlt=>?_,fun hge=>?_⟩
         ·have ht4:t<4:=by
           rcases YGz t 4 with h'|h'
           ·exact h'
           ·obtain rfl:t=4:=by omega
            rw[YHo hXN]at hlt;exact absurd hlt (by decide)
          have hc:=Yu0 R 35184372088832 i hQ
          rw[hX]at hc
          generalize hc0:X/32768^i=c0 at hc
          have hc2:X/32768^(i+t)<=c0:=by
           rw[<-hc0];rw[YGo,<-YGv];exact YHm _ _
          have hx:X/32768^(i+t)<=9223372036854775807:=YGg hc2 (by omega)
          rw[Yq9,Yq8 hx,YGv,<-Yy]
          (try dsimp only[go_sem,reduceIte])
          (try simp only[Yc,YGa,YF9,reduceCtorEq,YF8])
          refine⟨by decide,by decide,⟨by unfold YP;omega,fun j hj=>?_⟩,by decide,t+1,by omega,by omega,?_⟩
          ·match j,hj with
           |0,_=>exact⟨rfl,trivial,trivial⟩
          ·simp only[Ya]
           refine⟨⟨⟨by omega,by omega⟩,by rw[Nat.add_assoc]⟩,rfl,by omega,fun q hq=>?_⟩
           rcases YGz q (i+t)with h'|h'
           ·rw[if_pos h'];simp only[leL,le,and_self]
           ·obtain rfl:q=i+t:=by omega
            rw[if_neg (Nat.lt_irrefl _),Nat.sub_self]
            simp only[Yj,YL,YG,leL,Nat.zero_mul,Yd7,refs,cond,le,dig,and_self]
         ·have hXT:X<32768^(i+t):=by
           rcases YGz X (32768^(i+t))with h'|h'
           ·exact h'
           ·have:=Nat.div_pos h' (Yp (i+t))
            generalize X/32768^(i+t)=c at*
            omega
          have hT:i+t<=90004:=by omega
          generalize i+t=M at hXT hT⊢
          (try dsimp only[Ymu,Ymw,v135,YGb,go_sem,reduceIte])
          (try simp only[Yc,YGa,YF9,reduceCtorEq,YF8])
          refine Loop.keep [0] Nat (fun j=>[(0,.own 0 0 j 1)]) (fun _=>[(0,.own false 1 M (fun k=>[.int .i64 (dig X k)]))]) [] (fun j=>j<=M/\X<32768^j) (fun j=>j) ?_ ?_
          ·refine⟨M,⟨YGr _,hXT⟩,?_⟩
           (try dsimp only[go_sem,reduceIte])
           simp only[Ya]
           exact⟨by omega,by omega,by omega⟩
          ·rintro j ⟨hj,haj⟩
           (try dsimp only[YGb,go_sem,reduceIte])
           (try simp only[Yc,YGa,YF9,reduceCtorEq,YF8])
           refine⟨fun hlt=>?_,fun hlt=>?_,fun hb=>?_,fun hb=>?_⟩
           ·rw[Yn (by omega) (by omega)];omega
           ·rw[Yn (by omega) (by omega)];omega
           ·rw[YGi,decide_eq_true_eq,decide_eq_true_eq]at hb
            obtain⟨h1,h2⟩:=hb
            rw[Yn (by omega) (by omega),YGb]at h2
            refine⟨by rw[Yn (by omega) (by omega)];omega,j-1,⟨by omega,?_⟩,by omega,?_⟩
            ·obtain⟨m,rfl⟩:∃m,j=m+1:=⟨j-1,by omega⟩
             exact Ybe haj (by simp at h2;exact_mod_cast h2)
            ·rw[Yn (by omega) (by omega)]
             simp only[Ya] <;> simp [leL,le]
           ·have e:nl X=j:=by
             refine YaG haj ?_
             rw[YGZ,decide_eq_false_iff_not,decide_eq_false_iff_not]at hb
             rcases YGI j with h0|h0
             ·exact .inl h0
             ·refine .inr fun hh=>hb.elim (fun h=>h (by omega)) fun h=>h ?_
              rw[Yn h0 (by omega),YGb,hh];rfl
            subst e
            exact YaP h rfl rfl rfl fun j hj=>rfl
 ·exact h.1.elim
def mulC:Ctr:={ alias:=false,of:=fun l=>match l with
 | [.vs _ _ n sz get,.vs _ _ m sz' get']=> .ex Nat fun a=> .ex Nat fun b=> .pre (padP a n sz get/\padP b m sz' get'/\n<=40000/\m<=40000) (.fin (natS false (a*b)) [])
 |_=>noC}
theorem YyY{a b i k V:Nat}(h:V=(a%32768^i)*b+dig a i*(b%32768^k)*32768^i):
 V+dig a i*dig b k*32768^(i+k)=(a%32768^i)*b+dig a i*(b%32768^(k+1))*32768^i:=by
 rw[h,YaC b k,YGo]
 generalize 32768^i=P
 generalize 32768^k=Q
 grind
theorem YuR{a b i m:Nat}(hb:b<32768^m):(a%32768^i)*b+dig a i*(b%32768^m)*32768^i=(a%32768^(i+1))*b:=by
 rw[YaC a i,YG3 hb]
 generalize 32768^i=P
 grind
theorem Yon(a b:Nat):∃W,W<1073741824/\∀i k,dig a i*dig b k<=W:=by
 obtain⟨U,hU⟩:∃U,U=32767:=⟨_,rfl⟩
 refine⟨U*U,by subst hU;decide,fun i k=>YGB ?_ ?_⟩
 ·have:=YM a i;omega
 ·have:=YM b k;omega
theorem YnC:mulC.ok YGc 106:=by
 refine Yb Tryz.func106 YAi YBw 300 mulC fun args k h=>?_
 simp only[mulC]at h
 split at h
 ·rename_i t1 z1 n sz get t2 z2 m sz' get'
  obtain⟨a,b,⟨⟨rfl,hn,ha,hg⟩,⟨rfl,hm,hb,hg'⟩,hn9,hm9⟩,h⟩:=h
  refine⟨[.vs t1 z1 n 1 (fun k=>[.int .i64 (dig a k)]),.vs t2 z2 m 1 (fun k=>[.int .i64 (dig b k)])],⟨by simpa [le]using hg,by simpa [le]using hg',trivial⟩,?_⟩
  (try dsimp only[v106,go_sem,reduceIte])
  (try simp only[Yc,YGa,YF9,reduceCtorEq,YF8])
  obtain⟨W,hW,hWl⟩:=Yon a b
  have en:IntKind.i64.wrap ((n:Int)+(m:Int))=((n+m:Nat):Int):=by rw[YGd _ (by omega)];omega
  rw[en]
  simp only[YGb]
  refine⟨⟨by decide,by omega,by unfold YP;omega⟩,?_⟩
  refine Loop.keep [0,0,3] (Nat×(Nat->Nat)) (fun x=>[(6,.int .i64 x.1)]) (fun x=>[(0,.own false 1 (n+m) (fun k=>[.int .i64 (x.2 k)]))]) [] (fun x=>x.1<=n/\pre x.2 (n+m)=(a%32768^x.1)*b/\∀q,x.2 q<=x.1*W) (fun x=>n-x.1) ?_ ?_
  ·refine⟨(0,fun _=>0),⟨YHk _,?_,fun q=>YHk _⟩,?_⟩
   ·have:∀N,pre (fun _=>0) N=0:=fun N=>by
     induction N with
     |zero=>rfl
     |succ N ih=>show pre (fun _=>0) N+0*32768^N=0;rw[ih,Nat.zero_mul]
    rw[this];simp [Nat.mod_one]
   ·(try dsimp only[go_sem,reduceIte])
    simp only[Ya]
    simp [leL,le]
  ·rintro⟨i,R⟩ ⟨hi,hR,hRb⟩
   dsimp only at hi hR hRb
   (try dsimp only[YGb,go_sem,reduceIte])
   (try simp only[Yc,YGa,YF9,reduceCtorEq,YF8])
   refine⟨fun hlt=>?_,fun hge=>?_⟩
   ·refine Loop.keep [0,0,3,0] (Nat×(Nat->Nat)) (fun x=>[(7,.int .i64 x.1)]) (fun x=>[(0,.own false 1 (n+m) (fun k=>[.int .i64 (x.2 k)]))]) [] (fun x=>x.1<=m/\pre x.2 (n+m)=(a%32768^i)*b+dig a i*(b%32768^x.1)*32768^i/\∀q,x.2 q<=(if q<i+x.1 then i+1 else i)*W) (fun x=>m-x.1) ?_ ?_
    ·refine⟨(0,R),⟨YHk _,by simp [hR,Nat.mod_one],fun q=>?_⟩,?_⟩
     ·have:=hRb q
      dsimp only
      split
      ·exact YGg this (YGf _ (Nat.le_succ _))
      ·exact this
     ·(try dsimp only[go_sem,reduceIte])
      simp only[Ya]
      simp [leL,le]
    ·rintro⟨j,S⟩ ⟨hj,hS,hSb⟩
     dsimp only at hj hS hSb
     (try dsimp only[YGb,go_sem,reduceIte])
     (try simp only[Yc,YGa,YF9,reduceCtorEq,YF8])
     refine⟨fun hlt2=>?_,fun hge2=>?_⟩
     ·have w:IntKind.i64.wrap ((i:Int)+(j:Int))=((i+j:Nat):Int):=by rw[YGd _ (by omega)];omega
      have hp:=hWl i j
      have hiW:i*W<=40000*1073741824:=YGB (by omega) (by omega)
      have hs:=hSb (i+j)
      rw[if_neg (Nat.lt_irrefl _)]at hs
      have e:IntKind.i64.wrap ((S (i+j):Int)+IntKind.i64.wrap ((dig a i:Int)*(dig b j:Int)))=((S (i+j)+dig a i*dig b j:Nat):Int):=by
       rw[<-YG1]
       generalize dig a i*dig b j=p at hp⊢
       generalize i*W=v at hs hiW
       rw[YGd (p:Int) (by omega),YGd _ (by omega)];omega
      rw[w]
      simp only[YGb]
      refine⟨⟨by omega,by omega⟩,by omega,⟨by omega,by omega⟩,⟨by omega,by omega⟩,⟨by omega,by omega⟩,by omega,(j+1,fun q=>if q=i+j then S q+dig a i*dig b j else S q),⟨by dsimp only;omega,?_,fun q=>?_⟩,by dsimp only;omega,?_⟩
      ·dsimp only
       rw[Ysb S (i+j) (dig a i*dig b j) (n+m) (by omega)]
       exact YyY hS
      ·dsimp only
       have hq:=hSb q
       rcases Nat.lt_trichotomy q (i+j)with h'|h'|h'
       ·rw[if_pos h']at hq
        rw[if_neg (by omega),if_pos (by omega)];exact hq
       ·subst h'
        rw[if_pos rfl,if_pos (by omega),YHD]
        exact Nat.add_le_add hs hp
       ·rw[if_neg (by omega)]at hq
        rw[if_neg (by omega),if_neg (by omega)];exact hq
      ·rw[e,YGd ((j:Int)+1) (by omega)]
       simp only[Ya]
       refine⟨⟨by omega,by omega⟩,fun q hq=>?_⟩
       rcases Nat.lt_trichotomy q (i+j)with h'|h'|h'
       ·rw[if_neg (by omega),if_neg (by omega)];simp only[leL,le,and_self]
       ·subst h';rw[if_pos rfl,if_pos rfl];simp only[leL,le,and_self]
       ·rw[if_neg (by omega),if_neg (by omega)];simp only[leL,le,and_self]
     ·obtain rfl:j=m:=by omega
      refine⟨(i+1,S),⟨by dsimp only;omega,?_,fun q=>?_⟩,by dsimp only;omega,?_⟩
      ·dsimp only
       rw[hS];exact YuR hb
      ·have:=hSb q
       dsimp only
       split at this
       ·exact this
       ·exact YGg this (YGf _ (Nat.le_succ _))
      ·rw[YGd ((i:Int)+1) (by omega)]
       simp only[Ya]
       exact⟨by omega,by omega⟩
   ·obtain rfl:i=n:=by omega
    have hX:pre R (i+m)=a*b:=by rw[hR,YG3 ha]
    have hQ:∀q,q<i+m->R q<=32767*35184372088832:=fun q _=>by
     have:=hRb q
     have hiW:i*W<=40000*1073741824:=YGB (by omega) (by omega)
     omega
    have hN:i+m<=90000:=by omega
    generalize i+m=N at hX hQ hN⊢
    generalize a*b=X at hX h
    have hXN:X<32768^(N+4):=hX▸Ywc R 35184372088832 N (by decide) hQ
    (try dsimp only[Ymt,Ymv,v108,YGb,go_sem,reduceIte])
    (try simp only[Yc,YGa,YF9,reduceCtorEq,YF8])
    refine Loop.keep [0,2,0] Nat (fun i=>[(3,.int .i64 ((pre R i/32768^i:Nat):Int)),(4,.int .i64 i)]) (fun i=>[(0,.own false 1 N (fun k=>[.int .i64 ((if k<i then dig X k else R k:Nat):Int)]))]) [] (fun i=>i<=N) (fun i=>N-i) ?_ ?_
    ·refine⟨0,by omega,?_⟩
     (try dsimp only[go_sem,reduceIte])
     simp only[Ya]
     simp [pre]
    ·rintro i hi
     (try dsimp only[YGb,go_sem,reduceIte])
     (try simp only[Yc,YGa,YF9,reduceCtorEq,YF8])
     refine⟨fun hlt=>?_,fun hge=>?_⟩
     ·have hin:i<N:=by omega
      refine⟨⟨by omega,by omega⟩,hin,by decide,⟨by omega,by omega⟩,hin,by decide,i+1,by omega,by omega,?_⟩
      have hc:=Yu0 R 35184372088832 i fun q hq=>hQ q (by omega)
      have hr:=hQ i hin
      have e:IntKind.i64.wrap (((pre R i/32768^i:Nat):Int)+((if i<i then dig X i else R i:Nat):Int))=((R i+pre R i/32768^i:Nat):Int):=by
       rw[if_neg (Nat.lt_irrefl _)]
       generalize pre R i/32768^i=c at hc
       generalize R i=r at hr
       rw[YGd _ (by omega)];omega
      have hx:R i+pre R i/32768^i<=9223372036854775807:=by
       generalize pre R i/32768^i=c at hc
       omega
      rw[e,YGd ((i:Int)+1) (by omega),Yq9,Yq8 hx,Yr7 R hin,Ywb,hX]
      simp only[Ya]
      refine⟨⟨by omega,by simp⟩,⟨by omega,by omega⟩,fun q hq=>?_⟩
      rcases Nat.lt_trichotomy q i with h'|h'|h'
      ·rw[if_neg (by omega),if_pos h',if_pos (by omega)];simp only[leL,le,and_self]
      ·subst h';rw[if_pos rfl,if_pos (by omega)];simp only[leL,le,and_self]
      ·rw[if_neg (by omega),if_neg (by omega),if_neg (by omega)];simp only[leL,le,and_self]
     ·obtain rfl:i=N:=by omega
      rw[hX]
      refine Loop.keepP 0 [0,2] Nat (fun t=>[(0,.own 0 0 (i+t) 1),(3,.int .i64 ((X/32768^(i+t):Nat):Int))]) (fun t=>[(0,.own false 1 (i+t) (fun k=>[.int .i64 (dig X k)]))]) [] (fun t=>t<=4) (fun t=>4-t) ?_ ?_
      ·refine⟨0,by omega,?_⟩
       (try dsimp only[go_sem,reduceIte])
       simp only[Ya]
       refine⟨⟨⟨by omega,by omega⟩,by simp⟩,by omega,fun q hq=>by rw[if_pos hq]⟩
      ·rintro t ht
       (try dsimp only[YGb,go_sem,reduceIte])
       (try simp only[Yc,YGa,YF9,reduceCtorEq,YF8])
       refine⟨fun hlt=>?_,fun hge=>?_⟩
       ·have ht4:t<4:=by
         rcases YGz t 4 with h'|h'
         ·exact h'
         ·obtain rfl:t=4:=by omega
          rw[YHo hXN]at hlt;exact absurd hlt (by decide)
        have hc:=Yu0 R 35184372088832 i hQ
        rw[hX]at hc
        generalize hc0:X/32768^i=c0 at hc
        have hc2:X/32768^(i+t)<=c0:=by
         rw[<-hc0];rw[YGo,<-YGv];exact YHm _ _
        have hx:X/32768^(i+t)<=9223372036854775807:=YGg hc2 (by omega)
        rw[Yq9,Yq8 hx,YGv,<-Yy]
        (try dsimp only[go_sem,reduceIte])
        (try simp only[Yc,YGa,YF9,reduceCtorEq,YF8])
        refine⟨by decide,by decide,⟨by unfold YP;omega,fun j hj=>?_⟩,by decide,t+1,by omega,by omega,?_⟩
        ·match j,hj with
         |0,_=>exact⟨rfl,trivial,trivial⟩
        ·simp only[Ya]
         refine⟨⟨⟨by omega,by omega⟩,by rw[Nat.add_assoc]⟩,rfl,by omega,fun q hq=>?_⟩
         rcases YGz q (i+t)with h'|h'
         ·rw[if_pos h'];simp only[leL,le,and_self]
         ·obtain rfl:q=i+t:=by omega
          rw[if_neg (Nat.lt_irrefl _),Nat.sub_self]
          simp only[Yj,YL,YG,leL,Nat.zero_mul,Yd7,refs,cond,le,dig,and_self]
       ·have hXT:X<32768^(i+t):=by
         rcases YGz X (32768^(i+t))with h'|h'
         ·exact h'
         ·have:=Nat.div_pos h' (Yp (i+t))
          generalize X/32768^(i+t)=c at*
          omega
        have hT:i+t<=90004:=by omega
        generalize i+t=M at hXT hT⊢
        (try dsimp only[Ymu,Ymw,v135,YGb,go_sem,reduceIte])
        (try simp only[Yc,YGa,YF9,reduceCtorEq,YF8])
        refine Loop.keep [0] Nat (fun j=>[(0,.own 0 0 j 1)]) (fun _=>[(0,.own false 1 M (fun k=>[.int .i64 (dig X k)]))]) [] (fun j=>j<=M/\X<32768^j) (fun j=>j) ?_ ?_
        ·refine⟨M,⟨YGr _,hXT⟩,?_⟩
         (try dsimp only[go_sem,reduceIte])
         simp only[Ya]
         exact⟨by omega,by omega,by omega⟩
        ·rintro j ⟨hj,haj⟩
         (try dsimp only[YGb,go_sem,reduceIte])
         (try simp only[Yc,YGa,YF9,reduceCtorEq,YF8])
         refine⟨fun hlt=>?_,fun hlt=>?_,fun hb=>?_,fun hb=>?_⟩
         ·rw[Yn (by omega) (by omega)];omega
         ·rw[Yn (by omega) (by omega)];omega
         ·rw[YGi,decide_eq_true_eq,decide_eq_true_eq]at hb
          obtain⟨h1,h2⟩:=hb
          rw[Yn (by omega) (by omega),YGb]at h2
          refine⟨by rw[Yn (by omega) (by omega)];omega,j-1,⟨by omega,?_⟩,by omega,?_⟩
          ·obtain⟨m,rfl⟩:∃m,j=m+1:=⟨j-1,by omega⟩
           exact Ybe haj (by simp at h2;exact_mod_cast h2)
          ·rw[Yn (by omega) (by omega)]
           simp only[Ya] <;> simp [leL,le]
         ·have e:nl X=j:=by
           refine YaG haj ?_
           rw[YGZ,decide_eq_false_iff_not,decide_eq_false_iff_not]at hb
           rcases YGI j with h0|h0
           ·exact .inl h0
           ·refine .inr fun hh=>hb.elim (fun h=>h (by omega)) fun h=>h ?_
            rw[Yn h0 (by omega),YGb,hh];rfl
          subst e
          exact YaP h rfl rfl rfl fun j hj=>rfl
 ·exact h.1.elim
def v132:VF:=⟨19,[.tmp 4],(ZR [u1 4 .mov [.cn .nil]] (ZR [Zm 6 1,u1 7 .quo [.tm 6,.cn (.int .i64 15)],u1 8 (.make 1 8 [(.int .i64 0)]) [.tm 7,.tm 7],Zm 5 8] (ZR [Zm 9 5,Zm 10 0,Zm 11 1,u1 12 .rem [.tm 11,.cn (.int .i64 15)],u1 13 (.conv .u64) [.tm 12],u1 14 .shl [.cn (.int .i64 1),.tm 13],Zc 15 105 14,Zd 16 106 10 15,u1 17 (.append 1 8 [(.int .i64 0)]) [.tm 9,.tm 16],Zc 18 135 17,Zm 4 18] .ret)))⟩
theorem YAH:Yg YGc Tryz.f132=some v132:=by kernel_rfl
def v133:VF:=⟨40,[.tmp 6],(ZR [u1 6 .mov [.cn .nil]] (ZR [Zm 11 0,Zm 12 0,Zd 13 106 11 12,Zm 7 13] (ZR [Zm 14 1,u1 15 .quo [.tm 14,.cn (.int .i64 15)],Zm 16 7,Zl 17 16,u1 18 .min [.tm 15,.tm 17],Zm 8 18] (ZR [u1 19 (.buildSlice 1 0 [(.int .i64 0)] []) [],Zm 20 7,Zm 21 8,u1 22 (.slice 1 false true) [.tm 20,.tm 21],u1 23 (.append 1 8 [(.int .i64 0)]) [.tm 19,.tm 22],Zc 24 135 23,Zm 9 24] (ZR [u1 25 (.buildSlice 1 0 [(.int .i64 0)] []) [],Zm 26 7,Zm 27 8,u1 28 (.slice 1 true false) [.tm 26,.tm 27],u1 29 (.append 1 8 [(.int .i64 0)]) [.tm 25,.tm 28],Zm 10 29] (.seq (ZR [Zm 30 2,Zm 31 30,Zg 32 31 true 9,u2 33 31 true .len [.tm 32],u2 34 31 true (.cmp .gtr) [.tm 33,.cn (.int .i64 0)],u1 35 .and [.tm 31,.tm 34]] (ZC 35 (.region [Zm 36 10,u1 37 (.call 105) [.cn (.int .i64 1)],Zd 38 77 36 37,Zm 10 38]) .skip)) (ZR [Zm 39 10,Zm 6 39] .ret)))))))⟩
theorem YAI:Yg YGc Tryz.f133=some v133:=by kernel_rfl
def v134:VF:=⟨38,[.tmp 4],(ZR [u1 4 .mov [.cn .nil]] (.seq (ZR [Zm 8 1] (ZC 8 (.region [Zm 9 0,u1 10 (.call 105) [.cn (.int .i64 1)],Zd 11 77 9 10,Zm 0 11]) .skip)) (ZR [Zm 12 0,Zl 13 12,u1 14 (.make 1 8 [(.int .i64 0)]) [.tm 13,.tm 13],Zm 5 14] (ZR [Zi 6 0] (.seq (ZR [Zm 15 0,Zl 16 15,u1 17 (.ari .sub) [.tm 16,.cn (.int .i64 1)],Zm 7 17] (.block 0 (.loop (.seq (ZR [Zm 18 7,Zq 19 .geq 18 0] (ZC 19 .skip (.exit 0))) (.seq (.block 1 (ZR [Zm 22 6,u1 23 (.ari .mul) [.cn (.int .i64 32768),.tm 22],Zm 24 0,Zm 25 7,Zx 26 1 24 25,Zf 27 1 26,Zo 28 .add 23 27,Zm 6 28] (ZR [Zm 29 5,Zm 30 7,Zm 31 6,u1 32 .quo [.tm 31,.cn (.int .i64 2)],Zx 33 1 29 30,Zs 1 33 32] (.region [Zm 34 6,u1 35 .rem [.tm 34,.cn (.int .i64 2)],Zm 6 35])))) (.region [Zm 20 7,u1 21 (.ari .sub) [.tm 20,.cn (.int .i64 1)],Zm 7 21])))))) (ZR [Zm 36 5,Zc 37 135 36,Zm 4 37] .ret))))))⟩
theorem YAJ:Yg YGc Tryz.f134=some v134:=by kernel_rfl
theorem YxR(y s k:Nat):dig (y*32768^s) k=if k<s then 0 else dig y (k-s):=by
 unfold dig
 split
 ·rename_i h
  obtain⟨d,rfl⟩:∃d,s=k+(d+1):=⟨s-k-1,by omega⟩
  rw[YGo,<-YGm,Nat.mul_right_comm,Nat.mul_div_cancel _ (Yp k),Yy,<-YGm,Nat.mul_mod_left]
 ·rename_i h
  obtain⟨d,rfl⟩:∃d,k=s+d:=⟨k-s,by omega⟩
  rw[YGo,<-YGv,Nat.mul_div_cancel _ (Yp s),Nat.add_sub_cancel_left]
theorem Ywp(a n:Nat):a*2^(n%15)*32768^(n/15)=a*2^n:=by
 have:(32768:Nat)=2^15:=by decide
 rw[this,<-YGn,YGm,<-YGo,Nat.mod_add_div]
def shiftC:Ctr:={ alias:=false,of:=fun l=>match l with
 | [.vs _ _ n sz get,.int .i64 q]=> .ex Nat fun a=> .pre (padP a n sz get/\n<=30000/\0<=q/\q<=300000) (.fin (natS false (a*2^q.toNat)) [])
 |_=>noC}
def Q2:Env:={ ct:=fun n=>match n with|105=>some limbsC|106=>some mulC|77=>some addC|_=>none,fn:=fun n=>match n with|135=>some v135|_=>none,meth:=fun _ _=>none}
theorem Ygd:Q2.ct 105=some limbsC:=rfl
theorem Ymx:Q2.ct 106=some mulC:=rfl
theorem Ylr:Q2.ct 77=some addC:=rfl
theorem Yio:Q2.ct 135=none:=rfl
theorem Yip:Q2.fn 135=some v135:=rfl
theorem YwR:Yq YGc Q2:=by
 refine⟨fun f c h=>?_,fun f vf h=>?_,(fun _ _ _ h=>by cases h),by kernel_rfl,(fun _ h=>by cases h)⟩
 ·simp only[Q2]at h
  split at h
  ·cases h;exact⟨Yjl,Tryz.f105,Tryz.func105,by kernel_rfl,by kernel_rfl⟩
  ·cases h;exact⟨YnC,Tryz.f106,Tryz.func106,by kernel_rfl,by kernel_rfl⟩
  ·cases h;exact⟨YfL,Tryz.f77,Tryz.func77,by kernel_rfl,by kernel_rfl⟩
  ·cases h
 ·simp only[Q2]at h
  split at h
  ·cases h;exact⟨Tryz.f135,Tryz.func135,YsX,Tryz.f135,Tryz.func135,by kernel_rfl,by kernel_rfl⟩
  ·cases h
theorem YcZ:shiftC.ok YGc 132:=by
 refine Yb Tryz.func132 YAH YwR 300 shiftC fun args k h=>?_
 simp only[shiftC]at h
 split at h
 ·rename_i t1 z1 n sz get q
  obtain⟨a,⟨⟨rfl,hn,ha,hg⟩,hn9,h0,h1⟩,h⟩:=h
  obtain⟨q,rfl⟩:=YGM h0
  rw[YGb]at h
  refine⟨[.vs t1 z1 n 1 (fun k=>[.int .i64 (dig a k)]),.int .i64 q],⟨by simpa [le]using hg,⟨rfl,rfl⟩,trivial⟩,?_⟩
  (try dsimp only[v132,Ygd,Ymx,limbsC,mulC,natS,YGb,go_sem,reduceIte])
  (try simp only[Yc,YGa,YF9,reduceCtorEq,YF8])
  have w1:IntKind.i64.wrap ((q:Int).tdiv 15)=((q/15:Nat):Int):=by
   have:(q:Int).tdiv 15=((q/15:Nat):Int):=YHh (y:=15) rfl rfl
   rw[this,YGd _ (by omega)]
  have w2:IntKind.u64.wrap ((q:Int).tmod 15)=((q%15:Nat):Int):=by
   have:(q:Int).tmod 15=((q%15:Nat):Int):=YHF (y:=15) rfl rfl
   rw[this,YGF _ (by omega)]
  have hp:2^(q%15)<32768:=YGV (Nat.pow_lt_pow_right (by decide) (YGJ _ (by decide)):2^(q%15)<2^15) (by decide)
  have w3:IntKind.i64.wrap (1*2^min (q%15) 64)=((2^(q%15):Nat):Int):=by
   have e4:min (q%15) 64=q%15:=by omega
   have e5:(1:Int)*2^(q%15)=((2^(q%15):Nat):Int):=by simp
   rw[e4,e5]
   generalize 2^(q%15)=P at hp⊢
   exact YGd _ (by omega)
  have hp2:(0:Int)<=((2^(q%15):Nat):Int)/\((2^(q%15):Nat):Int)<=9223372036854775807:=by
   generalize 2^(q%15)=P at hp⊢
   omega
  rw[w1,w2]
  simp only[YGb]
  simp only[w3,YGb]
  have hl1:nl (2^(q%15))<=1:=nl_le.2 (by simpa using hp)
  have hX:a*2^(q%15)<32768^(n+1):=by
   rw[Yy];exact Nat.mul_lt_mul'' ha hp
  have hl2:=nl_le.2 hX
  refine⟨by decide,⟨by decide,by omega,by omega,by unfold YP;omega⟩,by decide,by omega,hp2,a,2^(q%15),⟨Yx hn ha,Ye (by omega),by omega,by omega⟩,by unfold YP;omega,?_⟩
  have eR:(fun k=>if k<q/15 then [SV.int .i64 0]else [SV.int .i64 ((dig (a*2^(q%15)) (k-q/15):Nat):Int)])=fun k=>[SV.int .i64 ((dig (a*2^q) k:Nat):Int)]:=by
   funext k
   rw[<-Ywp a q,YxR]
   split
   ·rfl
   ·rfl
  rw[eR,YHp]
  have hT:q/15+nl (a*2^(q%15))<=90004:=by omega
  have hXT:a*2^q<32768^(q/15+nl (a*2^(q%15))):=by
   rw[<-Ywp a q,Nat.add_comm,YGo]
   exact Nat.mul_lt_mul_of_pos_right (YbO _) (Yp _)
  generalize q/15+nl (a*2^(q%15))=M at hXT hT⊢
  generalize a*2^q=X at hXT h⊢
  (try dsimp only[Yio,Yip,v135,YGb,go_sem,reduceIte])
  (try simp only[Yc,YGa,YF9,reduceCtorEq,YF8])
  refine Loop.keep [0] Nat (fun j=>[(0,.own 0 0 j 1)]) (fun _=>[(0,.own false 1 M (fun k=>[.int .i64 (dig X k)]))]) [] (fun j=>j<=M/\X<32768^j) (fun j=>j) ?_ ?_
  ·refine⟨M,⟨YGr _,hXT⟩,?_⟩
   (try dsimp only[go_sem,reduceIte])
   simp only[Ya]
   omega
  ·rintro j ⟨hj,haj⟩
   (try dsimp only[YGb,go_sem,reduceIte])
   (try simp only[Yc,YGa,YF9,reduceCtorEq,YF8])
   refine⟨fun hlt=>?_,fun hlt=>?_,fun hb=>?_,fun hb=>?_⟩
   ·rw[Yn (by omega) (by omega)];omega
   ·rw[Yn (by omega) (by omega)];omega
   ·rw[YGi,decide_eq_true_eq,decide_eq_true_eq]at hb
    obtain⟨h1,h2⟩:=hb
    rw[Yn (by omega) (by omega),YGb]at h2
    refine⟨by rw[Yn (by omega) (by omega)];omega,j-1,⟨by omega,?_⟩,by omega,?_⟩
    ·obtain⟨m,rfl⟩:∃m,j=m+1:=⟨j-1,by omega⟩
     exact Ybe haj (by simp at h2;exact_mod_cast h2)
    ·rw[Yn (by omega) (by omega)]
     simp only[Ya] <;> simp [leL,le]
   ·have e:nl X=j:=by
     refine YaG haj ?_
     rw[YGZ,decide_eq_false_iff_not,decide_eq_false_iff_not]at hb
     rcases YGI j with h0|h0
     ·exact .inl h0
     ·refine .inr fun hh=>hb.elim (fun h=>h (by omega)) fun h=>h ?_
      rw[Yn h0 (by omega),YGb,hh];rfl
    subst e
    exact YaP h rfl rfl rfl fun j hj=>rfl
 ·exact h.1.elim
def halveC:Ctr:={ alias:=false,of:=fun l=>match l with
 | [.vs _ _ n sz get,.bool up]=> .ex Nat fun a=> .pre (padP a n sz get/\n<=40000) (.fin (natS false ((a+(if up then 1 else 0))/2)) [])
 |_=>noC}
theorem Yyo(a i:Nat):(32768*(a/32768^(i+1)%2)+dig a i)%2=a/32768^i%2:=by
 unfold dig;rw[Yy,<-YGv]
 generalize a/32768^i=y
 omega
theorem Yuy(a i:Nat):(32768*(a/32768^(i+1)%2)+dig a i)/2=dig (a/2) i:=by
 unfold dig;rw[Yy,<-YGv,YGv a 2,YGj 2,<-YGv a]
 generalize a/32768^i=y
 omega
theorem Yuz:halveC.ok YGc 134:=by
 refine Yb Tryz.func134 YAJ YwR 300 halveC fun args k h=>?_
 simp only[halveC]at h
 split at h
 ·rename_i t1 z1 n sz get up
  obtain⟨a,⟨⟨rfl,hn,ha,hg⟩,hn9⟩,h⟩:=h
  refine⟨[.vs t1 z1 n 1 (fun k=>[.int .i64 (dig a k)]),.bool up],⟨by simpa [le]using hg,rfl,trivial⟩,?_⟩
  (try dsimp only[v134,Ygd,Ylr,limbsC,addC,natS,YGb,go_sem,reduceIte])
  (try simp only[Yc,YGa,YF9,reduceCtorEq,YF8])
  refine⟨fun hup=>⟨⟨by decide,by decide⟩,a,1,⟨Yx hn ha,Ye (by decide),by omega,by decide⟩,?_⟩,fun hup=>⟨?_,?_⟩⟩
  all_goals subst hup
  all_goals first
   |exact⟨by decide,by omega,by omega,by unfold YP;omega⟩
   | (have hl:nl (a+1)<=n+1:=nl_le.2 (by rw[Yy];omega)
      refine⟨⟨by decide,by omega,by omega,by unfold YP;omega⟩,?_⟩
      have hY:=YbO (a+1)
      have hL:nl (a+1)<=40001:=by omega
      have h:CSat (CRes.fin (natS false ((a+1)/2)) []) k:=h
      generalize nl (a+1)=L at hY hL⊢
      generalize a+1=Y at hY h⊢)
   | (have hY:=ha
      have hL:n<=40001:=by omega
      have h:CSat (CRes.fin (natS false (a/2)) []) k:=h
      generalize n=L at hY hL⊢
      generalize a=Y at hY h⊢)
  all_goals
   refine Loop.keep [0,4] Nat (fun j=>[(6,.int .i64 ((Y/32768^j%2:Nat):Int)),(7,.int .i64 ((j:Int)-1))]) (fun j=>[(0,.own false 1 L (fun k=>[.int .i64 ((if j<=k then dig (Y/2) k else 0:Nat):Int)]))]) [] (fun j=>j<=L) (fun j=>j) ?_ ?_
   ·refine⟨L,YGr _,?_⟩
    (try dsimp only[go_sem,reduceIte])
    simp only[Ya]
    rw[YHo hY,YGd _ (by omega)]
    refine⟨⟨by omega,by simp,rfl⟩,fun q hq=>?_⟩
    rw[if_neg (by omega)];rfl
   ·rintro j hj
    (try dsimp only[YGb,go_sem,reduceIte])
    (try simp only[Yc,YGa,YF9,reduceCtorEq,YF8])
    refine⟨fun hlt=>?_,fun hge=>?_⟩
    ·obtain⟨i,rfl⟩:∃i,j=i+1:=⟨j-1,by omega⟩
     have e0:((i+1:Nat):Int)-1=i:=by omega
     rw[e0]
     simp only[YGb]
     refine⟨⟨by omega,by omega⟩,by decide,⟨by omega,by omega⟩,by omega,by decide,i,by omega,by omega,?_⟩
     have h1:=Yyo Y i
     have h2:=Yuy Y i
     have h3:=YM Y i
     have h4:Y/32768^(i+1)%2<2:=YGJ _ (by decide)
     generalize Y/32768^(i+1)%2=c at h1 h2 h4⊢
     have e1:IntKind.i64.wrap (IntKind.i64.wrap (32768*(c:Int))+((dig Y i:Nat):Int))=((32768*c+dig Y i:Nat):Int):=by
      rw[YGd (32768*(c:Int)) (by omega),YGd _ (by omega)];omega
     have e2:((32768*c+dig Y i:Nat):Int).tmod 2=((Y/32768^i%2:Nat):Int):=by
      rw[<-h1];exact YHF (y:=2) rfl rfl
     have e3:IntKind.i64.wrap (((32768*c+dig Y i:Nat):Int).tdiv 2)=((dig (Y/2) i:Nat):Int):=by
      rw[<-h2]
      have:((32768*c+dig Y i:Nat):Int).tdiv 2=(((32768*c+dig Y i)/2:Nat):Int):=YHh (y:=2) rfl rfl
      rw[this,YGd _ (by omega)]
     rw[e1,e2,e3,YGd ((i:Int)-1) (by omega)]
     simp only[Ya]
     refine⟨by omega,fun q hq=>?_⟩
     rcases Nat.lt_trichotomy q i with h'|h'|h'
     ·rw[if_neg (by omega),if_neg (by omega),if_neg (by omega)];simp only[leL,le,and_self]
     ·subst h';rw[if_pos rfl,if_pos (by omega)];simp only[leL,le,and_self]
     ·rw[if_neg (by omega),if_pos (by omega),if_pos (by omega)];simp only[leL,le,and_self]
    ·obtain rfl:j=0:=by omega
     have eR:(fun k=>[SV.int .i64 ((if 0<=k then dig (Y/2) k else 0:Nat):Int)])=fun k=>[SV.int .i64 ((dig (Y/2) k:Nat):Int)]:=by
      funext k;rw[if_pos (YHk _)]
     rw[eR]
     have hXT:Y/2<32768^L:=YGN (YHm _ _) hY
     have hT:L<=90004:=by omega
     generalize Y/2=X at hXT h⊢
     generalize L=M at hXT hT⊢
     (try dsimp only[Yio,Yip,v135,YGb,go_sem,reduceIte])
     (try simp only[Yc,YGa,YF9,reduceCtorEq,YF8])
     refine Loop.keep [0] Nat (fun j=>[(0,.own 0 0 j 1)]) (fun _=>[(0,.own false 1 M (fun k=>[.int .i64 (dig X k)]))]) [] (fun j=>j<=M/\X<32768^j) (fun j=>j) ?_ ?_
     ·refine⟨M,⟨YGr _,hXT⟩,?_⟩
      (try dsimp only[go_sem,reduceIte])
      simp only[Ya]
      omega
     ·rintro j ⟨hj,haj⟩
      (try dsimp only[YGb,go_sem,reduceIte])
      (try simp only[Yc,YGa,YF9,reduceCtorEq,YF8])
      refine⟨fun hlt=>?_,fun hlt=>?_,fun hb=>?_,fun hb=>?_⟩
      ·rw[Yn (by omega) (by omega)];omega
      ·rw[Yn (by omega) (by omega)];omega
      ·rw[YGi,decide_eq_true_eq,decide_eq_true_eq]at hb
       obtain⟨h1,h2⟩:=hb
       rw[Yn (by omega) (by omega),YGb]at h2
       refine⟨by rw[Yn (by omega) (by omega)];omega,j-1,⟨by omega,?_⟩,by omega,?_⟩
       ·obtain⟨m,rfl⟩:∃m,j=m+1:=⟨j-1,by omega⟩
        exact Ybe haj (by simp at h2;exact_mod_cast h2)
       ·rw[Yn (by omega) (by omega)]
        simp only[Ya] <;> simp [leL,le]
      ·have e:nl X=j:=by
        refine YaG haj ?_
        rw[YGZ,decide_eq_false_iff_not,decide_eq_false_iff_not]at hb
        rcases YGI j with h0|h0
        ·exact .inl h0
        ·refine .inr fun hh=>hb.elim (fun h=>h (by omega)) fun h=>h ?_
         rw[Yn h0 (by omega),YGb,hh];rfl
       subst e
       exact YaP h rfl rfl rfl fun j hj=>rfl
 ·exact h.1.elim
def sqN(a s:Nat)(up:Bool):Nat:=if up/\a*a%32768^s≠0 then a*a/32768^s+1 else a*a/32768^s
def squareC:Ctr:={ alias:=false,of:=fun l=>match l with
 | [.vs _ _ n sz get,.int .i64 q,.bool up]=> .ex Nat fun a=> .pre (padP a n sz get/\n<=20000/\0<=q/\q<=300000) (.all Bool fun z=> .fin (natS z (sqN a (q.toNat/15) up)) [])
 |_=>noC}
theorem YEE{x s M:Nat}(hM:min s (nl x)=M):x/32768^s=x/32768^M/\x%32768^s=x%32768^M/\nl (x/32768^M)=nl x-M:=by
 have hnl:nl (x/32768^M)=nl x-M:=by
  rcases YGI x with h0|h0
  ·subst h0;rw[Nat.zero_div,nl_0,Nat.zero_sub]
  ·have hMl:M<=nl x:=by omega
   have h1:x/32768^M<32768^(nl x-M):=by
    rw[YGL (Yp M),<-YGo,Nat.sub_add_cancel hMl];exact YbO x
   refine YaG h1 ?_
   rcases Nat.eq_or_lt_of_le hMl with h|h
   ·exact .inl (by omega)
   ·refine .inr ?_
    rw[Yc9,show M+(nl x-M-1)=nl x-1 by omega]
    exact YnD (by omega)
 rcases YGz s (nl x)with h|h
 ·obtain rfl:M=s:=by omega
  exact⟨rfl,rfl,hnl⟩
 ·obtain rfl:M=nl x:=by omega
  have h1:=YbO x
  have h2:=nl_le.1 h
  exact⟨by rw[YHo h1,YHo h2],by rw[YG3 h1,YG3 h2],hnl⟩
theorem YsL:squareC.ok YGc 133:=by
 refine Yb Tryz.func133 YAI YwR 300 squareC fun args k h=>?_
 simp only[squareC]at h
 split at h
 ·rename_i t1 z1 n sz get q up
  obtain⟨a,⟨⟨rfl,hn,ha,hg⟩,hn9,h0,h1⟩,h⟩:=h
  obtain⟨q,rfl⟩:=YGM h0
  rw[YGb]at h
  refine⟨[.vs t1 z1 n 1 (fun k=>[.int .i64 (dig a k)]),.int .i64 q,.bool up],⟨by simpa [le]using hg,⟨rfl,rfl⟩,rfl,trivial⟩,?_⟩
  (try dsimp only[v133,Ygd,Ymx,Ylr,addC,limbsC,mulC,natS,YGb,go_sem,reduceIte])
  (try simp only[Yc,YGa,YF9,reduceCtorEq,YF8])
  have w1:IntKind.i64.wrap ((q:Int).tdiv 15)=((q/15:Nat):Int):=by
   have:(q:Int).tdiv 15=((q/15:Nat):Int):=YHh (y:=15) rfl rfl
   rw[this,YGd _ (by omega)]
  have hX:a*a<32768^(n+n):=by rw[YGo];exact Nat.mul_lt_mul'' ha ha
  have hl:=nl_le.2 hX
  rw[w1]
  refine⟨a,a,⟨Yx hn ha,Yx hn ha,by omega⟩,by decide,by decide,?_⟩
  have e1:min ((q/15:Nat):Int) ((nl (a*a):Nat):Int)=((min (q/15) (nl (a*a)):Nat):Int):=by omega
  simp only[e1,YGb,YHu]
  refine⟨⟨by omega,by omega⟩,by unfold YP;omega,?_⟩
  generalize hM:min (q/15) (nl (a*a))=M
  generalize hXX:a*a%32768^M=X
  have hXT:X<32768^M:=hXX▸YGJ _ (Yp M)
  have hT:M<=90004:=by omega
  (try dsimp only[Yio,Yip,v135,YGb,go_sem,reduceIte])
  (try simp only[Yc,YGa,YF9,reduceCtorEq,YF8])
  refine Loop.keep [0] Nat (fun j=>[(0,.own 0 0 j 1)]) (fun _=>[(0,.own false 1 M (fun k=>[.int .i64 (dig X k)]))]) [] (fun j=>j<=M/\X<32768^j) (fun j=>j) ?_ ?_
  ·refine⟨M,⟨YGr _,hXT⟩,?_⟩
   (try dsimp only[go_sem,reduceIte])
   simp only[Ya]
   refine⟨by omega,by omega,by simp,fun k' hk=>?_⟩
   rw[if_neg (YG7 _),<-hXX,YbA hk]
   simp only[leL,le,Nat.sub_zero,and_self]
  ·rintro j ⟨hj,haj⟩
   (try dsimp only[YGb,go_sem,reduceIte])
   (try simp only[Yc,YGa,YF9,reduceCtorEq,YF8])
   refine⟨fun hlt=>?_,fun hlt=>?_,fun hb=>?_,fun hb=>?_⟩
   ·rw[Yn (by omega) (by omega)];omega
   ·rw[Yn (by omega) (by omega)];omega
   ·rw[YGi,decide_eq_true_eq,decide_eq_true_eq]at hb
    obtain⟨h1,h2⟩:=hb
    rw[Yn (by omega) (by omega),YGb]at h2
    refine⟨by rw[Yn (by omega) (by omega)];omega,j-1,⟨by omega,?_⟩,by omega,?_⟩
    ·obtain⟨m,rfl⟩:∃m,j=m+1:=⟨j-1,by omega⟩
     exact Ybe haj (by simp at h2;exact_mod_cast h2)
    ·rw[Yn (by omega) (by omega)]
     simp only[Ya] <;> simp [leL,le]
   ·have e:nl X=j:=by
     refine YaG haj ?_
     rw[YGZ,decide_eq_false_iff_not,decide_eq_false_iff_not]at hb
     rcases YGI j with h0|h0
     ·exact .inl h0
     ·refine .inr fun hh=>hb.elim (fun h=>h (by omega)) fun h=>h ?_
      rw[Yn h0 (by omega),YGb,hh];rfl
    subst e
    (try dsimp only[go_sem,reduceIte])
    (try simp only[Yc,YGa,YF9,reduceCtorEq,YF8])
    obtain⟨c1,c2,c3⟩:=YEE hM
    have hle:Yhm (nl (a*a)) M=nl (a*a)-M:=by unfold Yhm;split <;> omega
    have hadd:∀k,Yb9 M k=M+k:=fun k=>by unfold Yb9;split <;> omega
    refine⟨by decide,⟨by omega,by omega⟩,by unfold YP;rw[hle];omega,fun hup=>?_,fun hup=>?_⟩
    ·(try dsimp only[Ygd,Ylr,limbsC,addC,natS,YGb,go_sem,reduceIte])
     (try simp only[Yc,YGa,YF9,reduceCtorEq,YF8])
     rw[YGi,decide_eq_true_eq]at hup
     obtain⟨rfl,hup⟩:=hup
     have hX0:X≠0:=fun h0=>by subst h0;rw[nl_0]at hup;omega
     have e:sqN a (q/15) true=a*a/32768^M+1:=by
      unfold sqN;rw[c2,hXX,c1,if_pos ⟨rfl,hX0⟩]
     rw[e]at h
     refine⟨⟨by decide,by decide⟩,a*a/32768^M,1,⟨⟨rfl,by rw[hle];omega,?_,fun k' hk=>?_⟩,Ye (by decide),by rw[hle];omega,by decide⟩,Yaj (t:=true) (h false)⟩
     ·rw[hle,YHu,<-c3];exact YbO _
     ·dsimp only
      rw[if_neg (YG7 _),Yc9,hadd,Nat.sub_zero]
      exact Yd _
    ·have hX0:¬(up=true/\a*a%32768^(q/15)≠0):=fun hh=>by
      rw[c2,hXX]at hh
      have:=nl_pos.2 (Nat.pos_of_ne_zero hh.2)
      rw[hh.1,YHq,decide_eq_false_iff_not]at hup
      omega
     have e:sqN a (q/15) up=a*a/32768^M:=by
      unfold sqN;rw[if_neg hX0,c1]
     rw[e]at h
     refine YaP (h false) (by rw[hle,c3,YHu]) (YHp _) rfl fun k' hk=>?_
     rw[if_neg (YG7 _),Yc9,hadd,Nat.sub_zero]
 ·exact h.1.elim
theorem YzY(a s:Nat):sqN a s false=a*a/32768^s:=by
 unfold sqN;rw[if_neg (fun h=>by cases h.1)]
theorem Yvo(a s:Nat):sqN a s true=cdiv (a*a) (32768^s):=by
 unfold sqN cdiv
 have h1:=YGP (a*a) (32768^s)
 rw[YGj]at h1
 generalize a*a/32768^s*32768^s=p at*
 rcases YGI (a*a%32768^s)with h0|h0
 ·rw[if_neg (fun h=>h.2 h0),if_neg (by omega)]
 ·rw[if_pos ⟨rfl,by omega⟩,if_pos (by omega)]
theorem Yyp(a:Nat):(a+1)/2=cdiv a 2:=by
 unfold cdiv;split <;> omega
def lgR(n many:Nat):Nat×Nat:=if n=2^lgK n then(lgK n*2^many,lgK n*2^many)
 else gl (2^(2*many+60)) false many (n*2^(2*many+60-lgK n)) (n*2^(2*many+60-lgK n)) (lgK n)
def v104:VF:=⟨95,[.tmp 4,.tmp 5],(ZR [u1 4 .mov [.cn .nil],u1 5 .mov [.cn .nil]] (ZR [Zi 6 0] (.seq (.block 0 (.loop (.seq (ZR [Zm 13 0,Zm 14 6,Zp 15 14 1,u1 16 (.conv .u64) [.tm 15],u1 17 .shr [.tm 13,.tm 16],Zq 18 .gtr 17 0] (ZC 18 .skip (.exit 0))) (.block 1 (.region [Zm 19 6,Zp 20 19 1,Zm 6 20]))))) (ZR [Zm 21 6,Zc 22 105 21,Zm 7 22] (.seq (ZR [Zm 23 0,Zm 24 6,u1 25 (.conv .u64) [.tm 24],u1 26 .shl [.cn (.int .i64 1),.tm 25],Zr 27 .eql 23 26] (ZC 27 (ZR [Zm 28 7,Zm 29 1,Zd 30 132 28 29,Zm 31 7,Zm 32 1,Zd 33 132 31 32,Zm 4 30,Zm 5 33] .ret) .skip)) (ZR [Zm 34 1,u1 35 (.ari .mul) [.cn (.int .i64 2),.tm 34],Zp 36 35 60,Zm 8 36] (ZR [Zm 37 0,Zc 38 105 37,Zm 39 8,Zm 40 6,Zo 41 .sub 39 40,Zd 42 132 38 41,Zm 9 42] (ZR [Zm 43 9,Zm 10 43] (ZR [u1 44 (.call 105) [.cn (.int .i64 1)],Zm 45 8,Zp 46 45 1,Zd 47 132 44 46,Zm 11 47] (.seq (ZR [Zi 12 0] (.block 2 (.loop (.seq (ZR [Zm 48 12,Zm 49 1,Zr 50 .lss 48 49] (ZC 50 .skip (.exit 2))) (.seq (.block 3 (ZR [Zm 53 9,Zm 54 8,u1 55 (.call 133) [.tm 53,.tm 54,.cn (.bool false)],Zm 9 55] (ZR [Zm 56 10,Zm 57 8,u1 58 (.call 133) [.tm 56,.tm 57,.cn (.bool true)],Zm 10 58] (ZR [Zm 59 9,Zm 60 11,Zd 61 107 59 60,Zq 62 .geq 61 0] (ZC 62 (ZR [Zm 63 9,u1 64 (.call 134) [.tm 63,.cn (.bool false)],Zm 9 64] (ZR [Zm 65 10,u1 66 (.call 134) [.tm 65,.cn (.bool true)],Zm 10 66] (.region [Zm 67 7,Zm 68 7,Zd 69 77 67 68,u1 70 (.call 105) [.cn (.int .i64 1)],Zd 71 77 69 70,Zm 7 71]))) (ZR [Zm 72 10,Zm 73 11,Zd 74 107 72 73,Zq 75 .lss 74 0] (ZC 75 (.region [Zm 76 7,Zm 77 7,Zd 78 77 76 77,Zm 7 78]) (ZR [Zm 79 7,Zm 80 1,Zm 81 12,Zo 82 .sub 80 81,Zd 83 132 79 82,Zm 84 7,u1 85 (.call 105) [.cn (.int .i64 1)],Zd 86 77 84 85,Zm 87 1,Zm 88 12,Zo 89 .sub 87 88,Zd 90 132 86 89,Zm 4 83,Zm 5 90] .ret)))))))) (.region [Zm 51 12,Zp 52 51 1,Zm 12 52])))))) (ZR [Zm 91 7,Zm 92 7,u1 93 (.call 105) [.cn (.int .i64 1)],Zd 94 77 92 93,Zm 4 91,Zm 5 94] .ret)))))))))))⟩
theorem YAg:Yg YGc Tryz.f104=some v104:=by kernel_rfl
def logC:Ctr:={ alias:=false,of:=fun l=>match l with
 | [.int .i64 n,.int .i64 q]=> .pre ((1<=n/\n<=1000000000001)/\0<=q/\q<=3840/\q%15=0) (.all Bool fun z=> .all Bool fun z'=> .fin (.tup [natS z (lgR n.toNat q.toNat).1,natS z' (lgR n.toNat q.toNat).2]) [])
 |_=>noC}
def Q3:Env:={ ct:=fun n=>match n with|105=>some limbsC|107=>some cmpC|77=>some addC|132=>some shiftC|133=>some squareC|134=>some halveC|_=>none,fn:=fun _=>none,meth:=fun _ _=>none}
theorem Ymy:Q3.ct 105=some limbsC:=rfl
theorem Yti:Q3.ct 107=some cmpC:=rfl
theorem YwS:Q3.ct 77=some addC:=rfl
theorem Ymz:Q3.ct 132=some shiftC:=rfl
theorem Ytj:Q3.ct 133=some squareC:=rfl
theorem Ytk:Q3.ct 134=some halveC:=rfl
theorem Q3_ok:Yq YGc Q3:=by
 refine⟨fun f c h=>?_,fun f vf h=>?_,(fun _ _ _ h=>by cases h),by kernel_rfl,(fun _ h=>by cases h)⟩
 ·simp only[Q3]at h
  split at h
  ·cases h;exact⟨Yjl,Tryz.f105,Tryz.func105,by kernel_rfl,by kernel_rfl⟩
  ·cases h;exact⟨YeQ,Tryz.f107,Tryz.func107,by kernel_rfl,by kernel_rfl⟩
  ·cases h;exact⟨YfL,Tryz.f77,Tryz.func77,by kernel_rfl,by kernel_rfl⟩
  ·cases h;exact⟨YcZ,Tryz.f132,Tryz.func132,by kernel_rfl,by kernel_rfl⟩
  ·cases h;exact⟨YsL,Tryz.f133,Tryz.func133,by kernel_rfl,by kernel_rfl⟩
  ·cases h;exact⟨Yuz,Tryz.f134,Tryz.func134,by kernel_rfl,by kernel_rfl⟩
  ·cases h
 ·cases h
theorem ord_ge{a b:Nat}:0<=ordN a b↔b<=a:=by
 unfold ordN;split
 ·omega
 ·split <;> omega
theorem ord_lt{a b:Nat}:ordN a b<0↔a<b:=by
 unfold ordN;split
 ·omega
 ·split <;> omega
theorem pw15{e m:Nat}(h:e<15*m):2^e<32768^m:=by
 rw[show(32768:Nat)=2^15 by decide,<-YGn]
 exact Nat.pow_lt_pow_right (by decide) h
theorem YkP{x e m:Nat}(h:x<2^e)(he:e<15*m):nl x<=m:=nl_le.2 (Nat.lt_trans h (pw15 he))
theorem nsz{x q:Nat}(hq:q<=3840)(h:x<=16*2^(2*q+60)):nl x<=1000:=by
 have e:16*2^(2*q+60)=2^(2*q+64):=by rw[show 2*q+64=4+(2*q+60)by omega,YGo 2 4]
 rw[e]at h
 have h2:2^(2*q+64)<2^(2*q+65):=Nat.pow_lt_pow_right (by decide) (by omega)
 exact YkP (YGN h h2) (by omega)
theorem Ywr{A M:Nat}(hM:0<M)(h:A<=2*M):A*A/M<=4*M/\cdiv (A*A) M<=4*M:=by
 have:A*A<=4*M*M:=YGg (YGB h h) (by grind)
 exact⟨Nat.div_le_of_le_mul (by rw[YGj M];exact this),Yay this⟩
theorem Yui{x M:Nat}(h:x<=4*M):cdiv x 2<=2*M:=Yay (by omega)
theorem YDe:logC.ok YGc 104:=by
 refine Yb Tryz.func104 YAg Q3_ok 400 logC fun args k h=>?_
 simp only[logC]at h
 split at h
 ·rename_i n q
  obtain⟨⟨⟨hn1,hn2⟩,h0,h1,hq⟩,h⟩:=h
  obtain⟨n,rfl⟩:=YGM (show 0<=n by omega)
  obtain⟨q,rfl⟩:=YGM h0
  rw[YGb,YGb]at h
  refine⟨[.int .i64 n,.int .i64 q],by simp [leL,le],?_⟩
  (try dsimp only[v104,go_sem,reduceIte])
  (try simp only[Yc,YGa,YF9,reduceCtorEq,YF8])
  obtain⟨b1,b2⟩:=Yny (n:=n) (by omega)
  have hk40:lgK n<40:=by
   rcases YGz (lgK n) 40 with h'|h'
   ·exact h'
   ·have:=YGg (YGs (by decide) h':2^40<=2^lgK n) b1
    omega
  refine Loop.keep [0,0] Nat (fun i=>[(6,.int .i64 i)]) (fun _=>[]) [] (fun i=>i<=lgK n) (fun i=>lgK n-i) ?_ ?_
  ·refine⟨0,YHk _,?_⟩
   (try dsimp only[go_sem,reduceIte])
   simp only[Ya]
   rfl
  ·rintro i hi
   (try dsimp only[YGb,go_sem,reduceIte])
   (try simp only[Yc,YGa,YF9,reduceCtorEq,YF8])
   have w1:IntKind.i64.wrap ((i:Int)+1)=((i+1:Nat):Int):=by rw[YGd _ (by omega)];omega
   have w2:IntKind.u64.wrap ((i+1:Nat):Int)=((i+1:Nat):Int):=YGF _ (by omega)
   have w3:(n:Int).fdiv (2^min (i+1) 64)=((n/2^(i+1):Nat):Int):=YbL (by omega)
   simp only[w1,w2,YGb,w3]
   refine⟨by omega,fun hlt=>?_,fun hge=>?_⟩
   ·have hlt:i<lgK n:=by
     rcases YGz i (lgK n)with h'|h'
     ·exact h'
     ·obtain rfl:i=lgK n:=by omega
      rw[YHo b2]at hlt;exact absurd hlt (by decide)
    refine⟨i+1,by omega,by omega,?_⟩
    simp only[Ya]
   ·have hik:i=lgK n:=by
     rcases YGz i (lgK n)with h'|h'
     ·have h2:2^(i+1)<=n:=YGg (YGs (by decide) h') b1
      have:=Nat.div_pos h2 (YGO (by decide))
      generalize n/2^(i+1)=c at*
      omega
     ·omega
    (try dsimp only[Ymy,Ymz,limbsC,shiftC,natS,YGb,go_sem,reduceIte])
    (try simp only[Yc,YGa,YF9,reduceCtorEq,YF8])
    have v1:IntKind.u64.wrap (i:Int)=(i:Int):=YGF _ (by omega)
    have v2:IntKind.i64.wrap (1*2^min i 64)=((2^i:Nat):Int):=by
     have e4:min i 64=i:=by omega
     have e5:(1:Int)*2^i=((2^i:Nat):Int):=by simp
     have e6:2^i<=n:=by rw[hik];exact b1
     rw[e4,e5]
     generalize 2^i=P at e6⊢
     exact YGd _ (by omega)
    have v3:IntKind.i64.wrap (IntKind.i64.wrap (2*(q:Int))+60)=((2*q+60:Nat):Int):=by
     rw[YGd (2*(q:Int)) (by omega),YGd _ (by omega)];omega
    have v4:IntKind.i64.wrap (((2*q+60:Nat):Int)-(i:Int))=((2*q+60-i:Nat):Int):=by
     rw[YGd _ (by omega)];omega
    have v5:IntKind.i64.wrap (((2*q+60:Nat):Int)+1)=((2*q+61:Nat):Int):=by
     rw[YGd _ (by omega)];omega
    have n1:nl i<=1:=nl_le.2 (by omega)
    have n2:nl n<=3:=nl_le.2 (by omega)
    simp only[v1,YGb,v2,v3,v4,v5]
    refine⟨⟨by omega,by omega⟩,by omega,fun he=>⟨i,⟨Ye (by omega),by omega,by omega,by omega⟩,i,⟨Ye (by omega),by omega,by omega,by omega⟩,?_⟩,fun hne=>⟨⟨by omega,by omega⟩,n,⟨Ye (by omega),by omega,by omega,by omega⟩,⟨by decide,by decide⟩,1,⟨Ye (by decide),by decide,by omega,by omega⟩,?_⟩⟩
    ·have hp:n=2^lgK n:=by rw[<-hik];exact_mod_cast he
     have e:lgR n q=(i*2^q,i*2^q):=by unfold lgR;rw[if_pos hp,hik]
     rw[e]at h
     exact YC (show k _ []from h false false) (Yv _ ⟨trivial,trivial,trivial⟩) (fun _=>by simp [natS,Yl,Ym])
    ·have hnp:n≠2^lgK n:=fun hh=>hne (by rw[hik];exact_mod_cast hh)
     have hlg:lgR n q=gl (2^(2*q+60)) false q (n*2^(2*q+60-i)) (n*2^(2*q+60-i)) i:=by
      unfold lgR;rw[if_neg hnp,hik]
     obtain⟨m1,m2,_⟩:=mant (n:=n) (D:=2*q+60) (by omega) (by omega)
     rw[<-hik]at m1 m2
     have hs:(32768:Nat)^((2*q+60)/15)=2^(2*q+60):=by
      rw[show(32768:Nat)=2^15 by decide,<-YGn];congr 1;omega
     refine Loop.keep [0,0,6,2] (Nat×Nat×Nat×Nat×Bool×Bool×Bool) (fun x=>[(7,.vs true x.2.2.2.2.1 (nl x.2.2.2.1) 1 (fun k=>[.int .i64 (dig x.2.2.2.1 k)])),(9,.vs true x.2.2.2.2.2.1 (nl x.2.1) 1 (fun k=>[.int .i64 (dig x.2.1 k)])),(10,.vs true x.2.2.2.2.2.2 (nl x.2.2.1) 1 (fun k=>[.int .i64 (dig x.2.2.1 k)])),(12,.int .i64 x.1)]) (fun _=>[]) [] (fun x=>x.1<=q/\lgR n q=gl (2^(2*q+60)) false (q-x.1) x.2.1 x.2.2.1 x.2.2.2.1/\x.2.1<=2*2^(2*q+60)/\x.2.2.1<=2*2^(2*q+60)/\x.2.2.2.1<2^(x.1+40)) (fun x=>q-x.1) ?_ ?_
     ·refine⟨(0,n*2^(2*q+60-i),n*2^(2*q+60-i),i,decide (nl i=0),false,false),⟨YHk _,hlg,YHn m2,YHn m2,by dsimp only;omega⟩,?_⟩
      (try dsimp only[go_sem,reduceIte])
      simp only[Ya]
      rfl
     ·rintro⟨j,A,B,S,z1,z2,z3⟩ ⟨hj,hl,hA,hB,hS⟩
      dsimp only at hj hl hA hB hS
      (try dsimp only[Ymy,Ymz,Ytj,Ytk,YwS,Yti,limbsC,shiftC,squareC,halveC,addC,cmpC,natS,YGb,go_sem,reduceIte])
      (try simp only[Yc,YGa,YF9,reduceCtorEq,YF8])
      have h2M:1*2^(2*q+61)=2*2^(2*q+60):=by rw[YGW,show 2*q+61=1+(2*q+60)by omega,YGo 2 1]
      have hq1:q<=3840:=by omega
      have hM:0<2^(2*q+60):=YGO (by decide)
      have fz:∀x,x<=16*2^(2*q+60)->nl x<=1000:=fun x hx=>nsz hq1 hx
      have hSz:∀x,x<2^(j+42)->nl x<=1000:=fun x hx=>by
       exact YkP hx (by omega)
      have hS2:2^(j+42)=4*2^(j+40):=by rw[show j+42=2+(j+40)by omega,YGo 2 2]
      have hS1:2^(j+1+40)=2*2^(j+40):=by rw[show j+1+40=1+(j+40)by omega,YGo 2 1]
      obtain⟨a4,_⟩:=Ywr hM hA
      obtain⟨_,b4⟩:=Ywr hM hB
      have eA:sqN A ((2*q+60)/15) false=A*A/2^(2*q+60):=by rw[YzY,hs]
      have eB:sqN B ((2*q+60)/15) true=cdiv (B*B) (2^(2*q+60)):=by rw[Yvo,hs]
      refine⟨fun hlt=>⟨A,⟨Ye (YGg (fz A (by omega)) (by decide)),YGg (fz A (by omega)) (by decide),by omega,by omega⟩,fun y1=>⟨B,⟨Ye (YGg (fz B (by omega)) (by decide)),YGg (fz B (by omega)) (by decide),by omega,by omega⟩,fun y2=>?_⟩⟩,fun hge=>?_⟩
      ·rw[eA,eB,h2M]
       obtain⟨g,hg⟩:∃g,q-j=g+1:=⟨q-j-1,by omega⟩
       have eq1:q-(j+1)=g:=by omega
       have ej:IntKind.i64.wrap ((j:Int)+1)=((j+1:Nat):Int):=by rw[YGd _ (by omega)];omega
       have eqj:IntKind.i64.wrap ((q:Int)-(j:Int))=((q-j:Nat):Int):=by rw[YGd _ (by omega)];omega
       rw[hg,gl]at hl
       rw[ej,eqj]
       simp only[YGb]
       rw[hg]
       clear eA eB h2M
       generalize A*A/2^(2*q+60)=X at*
       generalize cdiv (B*B) (2^(2*q+60))=Y at*
       generalize 2^(2*q+60)=M at*
       have fX:=fz X (by omega)
       have fY:=fz Y (by omega)
       have f2:=fz (2*M) (by omega)
       have f1:nl 1<=1:=by decide
       have fS:=hSz S (by omega)
       have fSS:=hSz (S+S) (by omega)
       refine⟨X,2*M,⟨Ye (by omega),Ye (by omega),rfl,rfl⟩,fun hc=>?_,fun hc=>?_⟩
       ·have hc:=ord_ge.1 hc
        rw[if_neg (by omega),if_neg (by simp),Nat.two_mul]at hl
        refine⟨X,⟨Ye (by omega),by omega⟩,Y,⟨Ye (by omega),by omega⟩,S,S,⟨Ye (by omega),Ye (by omega),by omega⟩,⟨by decide,by decide⟩,S+S,1,⟨Ye (by omega),Ye (by decide),by omega,by decide⟩,(j+1,X/2,cdiv Y 2,S+S+1,false,false,false),⟨by dsimp only;omega,by dsimp only;rw[eq1];exact hl,by dsimp only;omega,Yui b4,by dsimp only;omega⟩,by dsimp only;omega,?_⟩
        simp only[if_true,if_false,YHi,Yyp]
        simp only[Ya]
       ·have hc:¬2*M<=X:=fun hh=>hc (ord_ge.2 hh)
        rw[if_pos (by omega)]at hl
        refine⟨Y,2*M,⟨Ye (by omega),Ye (by omega),rfl,rfl⟩,fun hd=>?_,fun hd=>?_⟩
        ·have hd:=ord_lt.1 hd
         rw[if_pos hd,Nat.two_mul]at hl
         refine⟨S,S,⟨Ye (by omega),Ye (by omega),by omega⟩,(j+1,X,Y,S+S,false,y1,y2),⟨by dsimp only;omega,by dsimp only;rw[eq1];exact hl,by dsimp only;omega,by dsimp only;omega,by dsimp only;omega⟩,by dsimp only;omega,?_⟩
         simp only[Ya]
        ·rw[if_neg fun hh=>hd (ord_lt.2 hh)]at hl
         have fS1:=hSz (S+1) (by omega)
         refine⟨S,⟨Ye (by omega),by omega,by omega,by omega⟩,⟨by decide,by decide⟩,S,1,⟨Ye (by omega),Ye (by decide),by omega,by decide⟩,S+1,⟨Ye (by omega),by omega,by omega,by omega⟩,?_⟩
         rw[hl]at h
         exact YC (show k _ []from h false false) (Yv _ ⟨trivial,trivial,trivial⟩) (fun _=>by simp [natS,Yl,Ym])
      ·have fS:=hSz S (by omega)
       have e0:q-j=0:=by omega
       rw[e0,gl]at hl
       refine⟨⟨by decide,by decide⟩,S,1,⟨Ye (by omega),Ye (by decide),by omega,by decide⟩,?_⟩
       rw[hl]at h
       exact YC (show k _ []from h z1 false) (Yv _ ⟨trivial,trivial,trivial⟩) (fun _=>by simp [natS,Yl,Ym])
 ·exact h.1.elim
def itL(out:List Nat)(i k g n:Nat):Nat:=if n=i\/n=k then out.getD n 0/g else out.getD n 0
def nxtL(out:List Nat)(i k g:Nat):Nat->List Nat
 |0=>[]
 |n+1=>if 1<itL out i k g n then nxtL out i k g n++[itL out i k g n]else nxtL out i k g n
theorem YrW(out:List Nat)(i k g:Nat):∀n,(nxtL out i k g n).length<=n
 |0=>YGr _
 |n+1=>by
  have:=YrW out i k g n
  rw[nxtL]
  split
  ·rw[YHg,List.length_singleton];omega
  ·omega
theorem nxt_mem{out:List Nat}{i k g x:Nat}:∀{n:Nat},x∈nxtL out i k g n↔∃j,j<n/\x=itL out i k g j/\1<x
 |0=>by simp [nxtL]
 |n+1=>by
  have ih:=nxt_mem (out:=out) (i:=i) (k:=k) (g:=g) (x:=x) (n:=n)
  rw[nxtL]
  split
  ·rename_i h
   rw[YGT,YGU,ih]
   constructor
   ·rintro(⟨j,h1,h2⟩ |h1)
    ·exact⟨j,by omega,h2⟩
    ·exact⟨n,by omega,h1,by omega⟩
   ·rintro⟨j,h1,h2,h3⟩
    rcases YGz j n with h'|h'
    ·exact Or.inl ⟨j,h',h2,h3⟩
    ·obtain rfl:j=n:=by omega
     exact Or.inr h2
  ·rename_i h
   rw[ih]
   constructor
   ·rintro⟨j,h1,h2⟩
    exact⟨j,by omega,h2⟩
   ·rintro⟨j,h1,h2,h3⟩
    rcases YGz j n with h'|h'
    ·exact⟨j,h',h2,h3⟩
    ·obtain rfl:j=n:=by omega
     omega
theorem YnG{out:List Nat}{i k g:Nat}(hik:k<i)(hi:i<out.length)(hg:0<g)(h1:g∣out.getD i 0)(h2:g∣out.getD k 0)(hp:∀x,x∈out->1<=x):∀n,n<=out.length->Ys (nxtL out i k g n)*((if i<n then g else 1)*(if k<n then g else 1))=Ys (out.take n)
 |0,_=>by simp [nxtL,Ys]
 |n+1,hn=>by
  have ih:=YnG hik hi hg h1 h2 hp n (by omega)
  have e:out.take (n+1)=out.take n++[out.getD n 0]:=Yag (by omega)
  have hx:1<=out.getD n 0:=hp _ (Yk (l:=out) (i:=n) (by omega))
  rw[e,YV,<-ih]
  have e1:Ys [out.getD n 0]=out.getD n 0:=by simp [Ys]
  have e2:Ys (nxtL out i k g (n+1))=Ys (nxtL out i k g n)*itL out i k g n:=by
   rw[nxtL]
   split
   ·rw[YV];simp [Ys]
   ·rename_i h
    have:itL out i k g n≠0:=by
     unfold itL
     split
     ·rename_i hh
      have hd:g∣out.getD n 0:=by rcases hh with rfl|rfl <;> assumption
      exact Nat.ne_of_gt (Nat.div_pos (Nat.le_of_dvd hx hd) hg)
     ·omega
    rw[show itL out i k g n=1 by omega,YHj]
  rw[e1,e2]
  by_cases c1:n=i
  ·subst c1
   rw[itL,if_pos (Or.inl rfl),if_pos (Nat.lt_succ_self _),if_neg (Nat.lt_irrefl _),if_pos (by omega),if_pos (by omega)]
   obtain⟨c,hc⟩:=h1
   rw[hc,Nat.mul_div_cancel_left _ hg]
   simp only[YGm,YG5,YGj,YGW]
  ·by_cases c2:n=k
   ·subst c2
    rw[itL,if_pos (Or.inr rfl),if_neg (show¬i<n+1 by omega),if_neg (show¬i<n by omega),if_pos (Nat.lt_succ_self _),if_neg (Nat.lt_irrefl _)]
    obtain⟨c,hc⟩:=h2
    rw[hc,Nat.mul_div_cancel_left _ hg]
    simp only[YGm,YG5,YGj,YGW]
   ·have a1:(i<n+1)=(i<n):=by rw[eq_iff_iff];omega
    have a2:(k<n+1)=(k<n):=by rw[eq_iff_iff];omega
    rw[itL,if_neg (by omega)]
    simp only[a1,a2]
    simp only[YGm,YG5,YGj]
theorem YsT:∀{out:List Nat},(∀x,x∈out->2<=x)->2^out.length<=Ys out
 | [],_=>by simp [Ys]
 |x::out,h=>by
  have:=YsT (out:=out) fun y hy=>h y (YGx _ hy)
  have hx:=h x (YGy ..)
  rw[Ys,YHf,YGt,YGj]
  exact YGB hx this
structure BOk (l:List (Int×Int)) (out:List Nat):Prop where
 rng:∀x,x∈out->2<=x/\x<=1000000000001
 spn:∀x,x∈l->Spn out x.1.toNat
 prd:Yo (Ys out)<=801
theorem BOk.len{l:List (Int×Int)}{out:List Nat}(h:BOk l out):out.length<=800:=by
 have h1:=YsT fun x hx=>(h.rng x hx).1
 refine YHy fun hh=>?_
 have h2:=YcE (Ys out)
 have h3:2^Yo (Ys out)<=2^out.length:=YGs (by decide) (by have:=h.prd;omega)
 omega
theorem BOk.pos{l:List (Int×Int)}{out:List Nat}(h:BOk l out):1<=Ys out:=Ye8 fun x hx=>by have:=h.rng x hx;omega
theorem BOk.next{l:List (Int×Int)}{out:List Nat}{i k g:Nat}(h:BOk l out)(hik:k<i)(hi:i<out.length)(hg:g=YHa (out.getD i 0) (out.getD k 0))(h1:1<g):
 BOk l (nxtL out i k g out.length++[g])/\Ys (nxtL out i k g out.length++[g])*2<=Ys out:=by
 have d1:g∣out.getD i 0:=hg▸Nat.gcd_dvd_left _ _
 have d2:g∣out.getD k 0:=hg▸Nat.gcd_dvd_right _ _
 have ri:=h.rng _ (Yk (l:=out) (i:=i) hi)
 have rk:=h.rng _ (Yk (l:=out) (i:=k) (by omega))
 have ri:2<=out.getD i 0/\out.getD i 0<=1000000000001:=ri
 have rk:2<=out.getD k 0/\out.getD k 0<=1000000000001:=rk
 have hgl:g<=out.getD i 0:=Nat.le_of_dvd (by omega) d1
 have hpr:=YnG hik hi (by omega) d1 d2 (fun x hx=>by have:=h.rng x hx;omega) out.length (YGr _)
 rw[YHe,if_pos hi,if_pos (by omega)]at hpr
 have hpe:Ys (nxtL out i k g out.length++[g])*g=Ys out:=by
  rw[YV,<-hpr];simp [Ys,YGm]
 have hle:Ys (nxtL out i k g out.length++[g])*2<=Ys out:=by
  rw[<-hpe];exact YGk _ h1
 refine⟨⟨fun x hx=>?_,fun x hx=>(h.spn x hx).sub fun y hy=>?_,?_⟩,hle⟩
 ·rw[YGT,YGU,nxt_mem]at hx
  rcases hx with⟨j,hj,hxe,h2⟩ |rfl
  ·refine⟨h2,?_⟩
   have hr:=h.rng _ (Yk (l:=out) (i:=j) hj)
   have hr:2<=out.getD j 0/\out.getD j 0<=1000000000001:=hr
   rw[hxe];unfold itL
   split
   ·exact YGg (YHm _ _) hr.2
   ·exact hr.2
  ·omega
 ·obtain⟨j,hj,hje⟩:=YdP hy
  have hje:out.getD j 0=y:=hje
  have mg:g∈nxtL out i k g out.length++[g]:=List.mem_append_right _ (YGU.2 rfl)
  have part:Spn (nxtL out i k g out.length++[g]) (itL out i k g j):=by
   rcases YGz 1 (itL out i k g j)with h'|h'
   ·exact .mem (List.mem_append_left _ (nxt_mem.2 ⟨j,hj,rfl,h'⟩))
   ·have:itL out i k g j≠0:=by
     have hr:=h.rng _ hy
     unfold itL
     split
     ·rename_i hh
      have hd:g∣out.getD j 0:=by rcases hh with rfl|rfl <;> assumption
      exact Nat.ne_of_gt (Nat.div_pos (Nat.le_of_dvd (by omega) hd) (by omega))
     ·omega
    rw[show itL out i k g j=1 by omega];exact .one
  by_cases c:j=i\/j=k
  ·have hd:g∣out.getD j 0:=by rcases c with rfl|rfl <;> assumption
   rw[itL,if_pos c]at part
   rw[<-hje,<-Nat.mul_div_cancel' hd]
   exact .mul mg part
  ·rw[itL,if_neg c]at part
   rw[<-hje];exact part
 ·exact YGg (YhO (by omega)) h.prd
def stF(out:List Nat)(x:Int×Int):List Nat:=if 1<x.1 then out++[x.1.toNat]else out
theorem st_ok{l:List (Int×Int)}(hl:∀x,x∈l->okT x)(hn:l.length<=20):BOk l (l.foldl stF []):=by
 have key:∀i,i<=l.length->(∀x,x∈(l.take i).foldl stF []->2<=x/\x<=1000000000001)/\(∀x,x∈l.take i->Spn ((l.take i).foldl stF []) x.1.toNat)/\Yo (Ys ((l.take i).foldl stF []))<=40*i+1:=fun i=>by
  induction i with
  |zero=>exact fun _=>⟨fun x hx=>absurd hx (by simp),fun x hx=>absurd hx (by simp),by simp [Ys];decide⟩
  |succ i ih=>
   intro hi
   obtain⟨h1,h2,h3⟩:=ih (by omega)
   obtain⟨q0,q1,q2,q3⟩:=hl _ (Yk (by omega:i<l.length))
   rw[Yr (by omega),Yag (by omega)]
   generalize(l.take i).foldl stF []=out at*
   generalize l.getD i default=y at*
   unfold stF
   by_cases c:1<y.1
   ·rw[if_pos c]
    refine⟨fun x hx=>?_,fun x hx=>?_,?_⟩
    ·rcases YGT.1 hx with hx|hx
     ·exact h1 x hx
     ·rw[YGU]at hx;omega
    ·rcases YGT.1 hx with hx|hx
     ·exact(h2 x hx).sub fun z hz=> .mem (List.mem_append_left _ hz)
     ·rw[YGU]at hx;rw[hx];exact .mem (List.mem_append_right _ (YGU.2 rfl))
    ·rw[YV]
     have e:Ys [y.1.toNat]=y.1.toNat:=by simp [Ys]
     have:=Ykb (Ys out) (Ys [y.1.toNat])
     have:Yo (Ys [y.1.toNat])<=40:=by rw[e];exact bitsN_le.2 (by omega)
     omega
   ·rw[if_neg c]
    refine⟨h1,fun x hx=>?_,by omega⟩
    rcases YGT.1 hx with hx|hx
    ·exact h2 x hx
    ·rw[YGU]at hx;rw[hx,show y.1.toNat=1 by omega];exact .one
 obtain⟨k1,k2,k3⟩:=key l.length (YGr _)
 rw[YHe]at k1 k2 k3
 exact⟨k1,k2,by omega⟩
theorem YEF(l:List (Int×Int)):∀i,((l.take i).foldl stF []).length<=i:=fun i=>by
 induction i with
 |zero=>simp
 |succ i ih=>
  rcases YGz i l.length with h|h
  ·rw[Yr h]
   unfold stF at ih⊢
   split
   ·rw[YHg,List.length_singleton];omega
   ·omega
  ·rw[List.take_of_length_le (by omega)]
   rw[List.take_of_length_le h]at ih
   omega
theorem YxN{out:List Nat}(h:∀a,a<out.length->∀c,c<a->YHa (out.getD a 0) (out.getD c 0)=1):Cop out:=by
 refine List.pairwise_iff_getElem.2 fun i j hi hj hij=>?_
 have:=h j hj i hij
 rw[YGl,YGl,List.getElem?_eq_getElem hj,List.getElem?_eq_getElem hi]at this
 rw[Nat.gcd_comm];exact this
theorem Yqv{b:Nat}{e:Nat->Nat}:∀{r:List Nat},(∀x,x∈r->YHa b x=1)->YHa b (PV e r)=1
 | [],_=>by simp [PV]
 |x::r,h=>by
  rw[PV]
  exact Nat.Coprime.mul_right (Nat.Coprime.pow_right _ (h x (YGy ..))) (Yqv fun y hy=>h y (YGx _ hy))
theorem YjP{e:Nat->Nat}:∀{r:List Nat},(∀x,x∈r->2<=x)->1<=PV e r
 | [],_=>YGr _
 |x::r,h=>by
  have hx:=h x (YGy ..)
  rw[PV]
  exact YHd (YGO (by omega)) (YjP fun y hy=>h y (YGx _ hy))
theorem Yha{b x y P Q:Nat}(hb:2<=b)(hP:YHa b P=1)(h:b^x*P=b^y*Q):y<=x:=by
 refine YHy fun hh=>?_
 obtain⟨d,rfl⟩:∃d,y=x+(d+1):=⟨y-x-1,by omega⟩
 rw[YGo,YGm]at h
 have h2:=Nat.eq_of_mul_eq_mul_left (YGO (by omega)) h
 have hd:b∣P:=by rw[h2,YGt,YGj _ b,YGm];exact Nat.dvd_mul_right _ _
 have:=Nat.gcd_eq_left hd
 omega
theorem YjO{e e':Nat->Nat}:∀{r:List Nat},Cop r->(∀x,x∈r->2<=x)->PV e r=PV e' r->∀b,b∈r->e b=e' b
 | [],_,_,_,b,hb=>absurd hb (by simp)
 |c::r,hc,h2,h,b,hb=>by
  obtain⟨g1,g2⟩:=List.pairwise_cons.1 hc
  have hc2:=h2 c (YGy ..)
  rw[PV,PV]at h
  have a1:=Yha hc2 (Yqv (e:=e) g1) h
  have a2:=Yha hc2 (Yqv (e:=e') g1) h.symm
  have he:e c=e' c:=by omega
  rcases YGK.1 hb with rfl|hb
  ·exact he
  ·rw[he]at h
   exact YjO g2 (fun x hx=>h2 x (YGx _ hx)) (Nat.eq_of_mul_eq_mul_left (YGO (by omega)) h) b hb
theorem YDp{l:List (Int×Int)}{r:List Nat}(hl:∀x,x∈l->okT x)(hn:l.length<=20)(hr:BOk l r)(hc:Cop r):(r.all fun b=>decide (sumB l b=0))=decide (upP l=dnP l):=by
 obtain⟨e1,e2⟩:=P_is hc (fun x hx=>(hr.rng x hx).1) l fun x hx=>⟨hl x hx,hr.spn x hx⟩
 have hs:∀b,b∈r->(sumB l b=0↔upS (vl 64 b) l=dnS (vl 64 b) l):=fun b hb=>by
  have hb2:=hr.rng b hb
  unfold sumB
  rw[Ymb hb2.1 (by omega) l 0 hl (by omega) (by omega) (by omega)]
  omega
 rw[YHz,List.all_eq_true,decide_eq_true_eq]
 constructor
 ·intro h
  rw[e1,e2]
  exact YaV fun b hb=>(hs b hb).1 (of_decide_eq_true (h b hb))
 ·intro h b hb
  rw[e1,e2]at h
  exact decide_eq_true ((hs b hb).2 (YjO hc (fun x hx=>(hr.rng x hx).1) h b hb))
def v164:VF:=⟨12,[.tmp 4],(ZR [Zi 4 0] (.seq (.block 0 (.loop (.seq (ZR [Zm 5 1,Zq 6 .neq 5 0] (ZC 6 .skip (.exit 0))) (.block 1 (.draw [] [Zu 7 1,Zu 8 0,Zu 9 1,w1 10 .rem [.tm 8,.tm 9],Zu 0 7,Zu 1 10]))))) (ZR [Zm 11 0,Zm 4 11] .ret)))⟩
theorem YBa:Yg YGc Tryz.f164=some v164:=by kernel_rfl
def v154:VF:=⟨85,[.tmp 2],(ZR [u1 2 .mov [.cn .nil]] (ZR [u1 3 .mov [.cn .nil]] (.seq (ZR [Zi 4 0] (.block 0 (.loop (.seq (ZR [Zm 11 4,Zm 12 0,Zl 13 12,Zr 14 .lss 11 13] (ZC 14 .skip (.exit 0))) (.seq (.block 1 (ZR [Zm 17 0,Zm 18 4,Zx 19 2 17 18,Za 20 0 19,Zf 21 1 20,Zq 22 .gtr 21 1] (ZC 22 (.region [Zm 23 3,Zm 24 0,Zm 25 4,Zx 26 2 24 25,Za 27 0 26,Zf 28 1 27,u1 29 (.buildSlice 1 1 [(.int .i64 0)] [(0,1)]) [.tm 28],u1 30 (.append 1 8 [(.int .i64 0)]) [.tm 23,.tm 29],Zm 3 30]) .skip))) (.region [Zm 15 4,Zp 16 15 1,Zm 4 16])))))) (.seq (ZR [Zi 5 0] (.block 2 (.loop (.seq (ZR [Zm 31 5,Zm 32 3,Zl 33 32,Zr 34 .lss 31 33] (ZC 34 .skip (.exit 2))) (.seq (.block 3 (ZR [Zi 6 0] (.block 4 (.loop (.seq (ZR [Zm 37 6,Zm 38 5,Zr 39 .lss 37 38] (ZC 39 .skip (.exit 4))) (.seq (.block 5 (.seq (.draw [] [Zu 42 3,Zu 43 5,ZX 44 1 42 43,Zv 45 1 44,Zu 46 3,Zu 47 6,ZX 48 1 46 47,Zv 49 1 48,Zz 50 164 45 49,Zu 7 50]) (.seq (ZR [Zm 51 7,Zq 52 .eql 51 1] (ZC 52 (.exit 5) .skip)) (ZR [u1 8 .mov [.cn .nil]] (.seq (ZR [Zi 9 0] (.block 6 (.loop (.seq (ZR [Zm 53 9,Zm 54 3,Zl 55 54,Zr 56 .lss 53 55] (ZC 56 .skip (.exit 6))) (.seq (.block 7 (ZR [Zm 59 3,Zm 60 9,Zx 61 1 59 60,Zf 62 1 61,Zm 10 62] (.seq (ZR [Zm 63 9,Zm 64 5,Zr 65 .eql 63 64,Zm 66 65,Zg 67 66 false 9,Zg 68 66 false 6,u2 69 66 false (.cmp .eql) [.tm 67,.tm 68],u1 70 .or [.tm 66,.tm 69]] (ZC 70 (.region [Zm 71 10,Zm 72 7,u1 73 .quo [.tm 71,.tm 72],Zm 10 73]) .skip)) (ZR [Zm 74 10,Zq 75 .gtr 74 1] (ZC 75 (.region [Zm 76 8,Zm 77 10,u1 78 (.buildSlice 1 1 [(.int .i64 0)] [(0,1)]) [.tm 77],u1 79 (.append 1 8 [(.int .i64 0)]) [.tm 76,.tm 78],Zm 8 79]) .skip))))) (.region [Zm 57 9,Zp 58 57 1,Zm 9 58])))))) (ZR [Zm 80 8,Zm 81 7,u1 82 (.buildSlice 1 1 [(.int .i64 0)] [(0,1)]) [.tm 81],u1 83 (.append 1 8 [(.int .i64 0)]) [.tm 80,.tm 82],Zm 3 83] (ZR [Zi 5 (-1),Zi 6 0] (.exit 4)))))))) (.region [Zm 40 6,Zp 41 40 1,Zm 6 41]))))))) (.region [Zm 35 5,Zp 36 35 1,Zm 5 36])))))) (ZR [Zm 84 3,Zm 2 84] .ret)))))⟩
theorem YA0:Yg YGc Tryz.f154=some v154:=by kernel_rfl
def Q4:Env:={ ct:=fun _=>none,fn:=fun _=>none,meth:=fun _ _=>none}
theorem Q4_ok:Yq YGc Q4:=by
 refine⟨fun f c h=>?_,fun f vf h=>?_,(fun _ _ _ h=>by cases h),by kernel_rfl,(fun _ h=>by cases h)⟩
 ·cases h
 ·cases h
theorem Yyl:gcdC.ok YGc 164:=by
 refine Yb Tryz.func164 YBa Q4_ok 100 gcdC fun args k h=>?_
 simp only[gcdC]at h
 split at h
 ·rename_i a b
  obtain⟨x,y,⟨rfl,rfl,hx,hy⟩,h⟩:=h
  refine⟨[.int .i64 x,.int .i64 y],by simp [leL,le],?_⟩
  (try dsimp only[v164,go_sem,reduceIte])
  (try simp only[Yc,YGa,YF9,reduceCtorEq,YF8])
  refine Loop.keep [] (Nat×Nat) (fun s=>[(0,.int .i64 s.1),(1,.int .i64 s.2)]) (fun _=>[]) [] (fun s=>YHa s.1 s.2=YHa x y/\s.1<=9223372036854775807/\s.2<=9223372036854775807) (fun s=>s.2) ?_ ?_
  ·refine⟨(x,y),⟨rfl,hx,hy⟩,?_⟩
   (try dsimp only[go_sem,reduceIte])
   simp only[Ya]
  ·rintro⟨p,q⟩ ⟨he,hp,hq⟩
   dsimp only at he hp hq
   (try dsimp only[go_sem,reduceIte])
   (try simp only[Yc,YGa,YF9,reduceCtorEq,YF8])
   refine⟨fun hc=>⟨hc,(q,p%q),⟨?_,by simp only;omega,?_⟩,?_,?_⟩,fun hc=>Yf ?_⟩
   ·rw[<-he,Nat.gcd_comm p q]
    show YHa q (p%q)=YHa q p
    rw[Nat.gcd_comm q (p%q),<-Nat.gcd_rec]
   ·have:=YGJ p (by omega:0<q)
    simp only;omega
   ·exact YGJ p (by omega:0<q)
   ·have e:(p:Int).tmod q=((p%q:Nat):Int):=YHF rfl rfl
    rw[e]
    simp only[Ya]
   ·obtain rfl:q=0:=by omega
    rw[Nat.gcd_zero_right]at he
    rw[he];exact h
 ·exact h.1.elim
def baseC:Ctr:={ alias:=false,of:=fun l=>match l with
 | [.vs _ _ n sz get]=> .ex (List (Int×Int)) fun l=> .pre (lsP 2 enc2 n sz get l/\(∀x,x∈l->okT x)/\n<=20) (.all (List Nat) fun r=> .imp (BOk l r/\Cop r) (.all Bool fun y=> .fin (.vs true y r.length 1 (fun k=>encB (r.getD k 0))) []))
 |_=>noC}
def Q5:Env:={ ct:=fun n=>match n with|164=>some gcdC|_=>none,fn:=fun _=>none,meth:=fun _ _=>none}
theorem Ytl:Q5.ct 164=some gcdC:=rfl
theorem Q5_ok:Yq YGc Q5:=by
 refine⟨fun f c h=>?_,fun f vf h=>?_,(fun _ _ _ h=>by cases h),by kernel_rfl,(fun _ h=>by cases h)⟩
 ·simp only[Q5]at h
  split at h
  ·cases h;exact⟨Yyl,Tryz.f164,Tryz.func164,by kernel_rfl,by kernel_rfl⟩
  ·cases h
 ·cases h
theorem Yxw:baseC.ok YGc 154:=by
 refine Yb Tryz.func154 YA0 Q5_ok 800 baseC fun args k h=>?_
 simp only[baseC]at h
 split at h
 ·rename_i tt z n sz get
  obtain⟨l,⟨⟨rfl,rfl,hg⟩,hl,hn⟩,h⟩:=h
  refine⟨[.vs tt z l.length 2 (fun k=>enc2 (l.getD k default))],⟨⟨id,rfl,rfl,rfl,hg⟩,trivial⟩,?_⟩
  (try dsimp only[v154,enc2,go_sem,reduceIte])
  (try simp only[Yc,YGa,YF9,reduceCtorEq,YF8])
  refine Loop.keep [0] (Nat×Bool) (fun s=>[(3,.own 0 0 ((l.take s.1).foldl stF []).length 1),(4,.int .i64 s.1)]) (fun s=>[(0,.own s.2 1 ((l.take s.1).foldl stF []).length (fun k=>encB (((l.take s.1).foldl stF []).getD k 0)))]) [.gone] (fun s=>s.1<=l.length/\(s.2=true->((l.take s.1).foldl stF []).length=0)) (fun s=>l.length-s.1) ?_ ?_
  ·refine⟨(0,true),⟨by simp only;omega,fun _=>rfl⟩,?_⟩
   (try dsimp only[List.take_zero,List.foldl_nil,List.length_nil,go_sem,reduceIte])
   simp only[Ya]
   simp
  ·rintro⟨i,yo⟩ ⟨hi,hyo⟩
   dsimp only at hi hyo
   (try dsimp only[enc2,encB,YGb,go_sem,reduceIte])
   (try simp only[Yc,YGa,YF9,reduceCtorEq,YF8])
   have hsl:=YEF l i
   refine⟨fun hlt=>?_,fun hge=>?_⟩
   ·obtain⟨q0,q1,q2,q3⟩:=hl _ (Yk (by omega:i<l.length))
    have hstep:(l.take (i+1)).foldl stF []=stF ((l.take i).foldl stF []) (l.getD i default):=Yr (by omega)
    have ei:IntKind.i64.wrap ((i:Int)+1)=((i+1:Nat):Int):=by rw[YGd _ (by omega)];omega
    rw[ei]
    generalize(l.take i).foldl stF []=out at*
    generalize l.getD i default=x at*
    have hst1:stF out x=if 1<x.1 then out++[x.1.toNat]else out:=rfl
    rw[hst1]at hstep
    refine⟨⟨by omega,by omega⟩,fun hc=>?_,fun hc=>?_⟩
    ·rw[if_pos hc]at hstep
     refine⟨⟨by omega,by omega⟩,by decide,⟨by unfold YP;omega,fun j hj=>?_⟩,(i+1,yo&&decide False),⟨by simp only;omega,by simp⟩,by simp only;omega,?_⟩
     ·match j,hj with
      |0,_=>exact⟨rfl,trivial,trivial⟩
     ·have hol:(out++[x.1.toNat]).length=out.length+1:=by rw[YHg];rfl
      simp only[hstep,hol]
      simp only[Ya]
      refine⟨by decide,fun k hk=>?_⟩
      by_cases hkt:k<out.length
      ·rw[if_pos hkt,YGl (l:=_++_),YGR hkt,<-YGl]
       exact⟨⟨rfl,rfl⟩,trivial⟩
      ·obtain rfl:k=out.length:=by omega
       rw[if_neg hkt,YGl (l:=_++_),YG4 (YGr _),Nat.sub_self]
       exact⟨⟨rfl,by simp;omega⟩,trivial⟩
    ·rw[if_neg hc]at hstep
     refine⟨(i+1,yo),⟨by simp only;omega,by simp only[hstep];exact hyo⟩,by simp only;omega,?_⟩
     simp only[hstep]
     simp only[Ya]
     decide
   ·obtain rfl:i=l.length:=by omega
    have hst:=st_ok hl hn
    rw[YHe]at*
    generalize l.foldl stF []=out0 at*
    refine Loop.keepF [0] (Nat×List Nat×Bool) (fun s=>[(3,.vs true s.2.2 s.2.1.length 1 (fun k=>encB (s.2.1.getD k 0))),(5,.int .i64 s.1)]) (fun _=>[(0,.gone)]) [] (fun s=>BOk l s.2.1/\s.1<=s.2.1.length/\(∀a,a<s.1->∀c,c<a->YHa (s.2.1.getD a 0) (s.2.1.getD c 0)=1)) (fun s=>Ys s.2.1*2000+(s.2.1.length-s.1)) ?_ ?_
    ·refine⟨(0,out0,yo),⟨hst,YHk _,fun a ha=>absurd ha (YG7 _)⟩,[0],?_,?_⟩
     ·(try dsimp only[go_sem,reduceIte])
      exact⟨fun p hp=>rfl,trivial⟩
     ·(try dsimp only[encB,go_sem,reduceIte])
      simp only[Ya]
      rfl
    ·rintro⟨i,out,yo⟩ ⟨hok,hi,hcp⟩
     dsimp only at hok hi hcp
     (try dsimp only[encB,YGb,go_sem,reduceIte])
     (try simp only[Yc,YGa,YF9,reduceCtorEq,YF8])
     have hlen:=hok.len
     refine⟨fun hlt=>?_,fun hge2=>?_⟩
     ·refine Loop.keep [0,2,1] Nat (fun j=>[(6,.int .i64 j)]) (fun _=>[]) [] (fun j=>j<=i/\∀c,c<j->YHa (out.getD i 0) (out.getD c 0)=1) (fun j=>i-j) ?_ ?_
      ·refine⟨0,⟨YHk _,fun c hc=>absurd hc (YG7 _)⟩,?_⟩
       (try dsimp only[go_sem,reduceIte])
       simp only[Ya]
       rfl
      ·rintro j ⟨hj,hgj⟩
       (try dsimp only[Ytl,gcdC,encB,YGb,go_sem,reduceIte])
       (try simp only[Yc,YGa,YF9,reduceCtorEq,YF8])
       refine⟨fun hlt2=>?_,fun hge3=>?_⟩
       ·have ri:2<=out.getD i 0/\out.getD i 0<=1000000000001:=hok.rng _ (Yk (l:=out) (i:=i) (by omega))
        have rj:2<=out.getD j 0/\out.getD j 0<=1000000000001:=hok.rng _ (Yk (l:=out) (i:=j) (by omega))
        refine⟨⟨by omega,by omega⟩,⟨by omega,by omega⟩,out.getD i 0,out.getD j 0,⟨rfl,rfl,by omega,by omega⟩,fun hg1=>⟨j+1,⟨by omega,fun c hc=>?_⟩,by omega,?_⟩,fun hg1=>?_⟩
        ·rcases YGz c j with h'|h'
         ·exact hgj c h'
         ·obtain rfl:c=j:=by omega
          omega
        ·rw[YGd ((j:Int)+1) (by omega)]
         simp only[Ya]
         simp
        ·obtain⟨g,hg⟩:∃g,g=YHa (out.getD i 0) (out.getD j 0):=⟨_,rfl⟩
         rw[<-hg]at hg1⊢
         have hg0:0<g:=hg▸Nat.gcd_pos_of_pos_left _ (by omega)
         have hgi:g<=out.getD i 0:=hg▸Nat.le_of_dvd (by omega) (Nat.gcd_dvd_left _ _)
         have hg1':1<g:=by omega
         obtain⟨n1,n2⟩:=hok.next (i:=i) (k:=j) (by omega) (by omega) hg hg1'
         refine Loop.keep [0,2,1,0,0] (Nat×Bool) (fun s=>[(8,.own 1 0 (nxtL out i j g s.1).length 1),(9,.int .i64 s.1)]) (fun s=>[(1,.own s.2 1 (nxtL out i j g s.1).length (fun k=>encB ((nxtL out i j g s.1).getD k 0)))]) [.gone] (fun s=>s.1<=out.length/\(s.2=true->(nxtL out i j g s.1).length=0)) (fun s=>out.length-s.1) ?_ ?_
         ·refine⟨(0,true),⟨YHk _,fun _=>rfl⟩,?_⟩
          (try dsimp only[nxtL,List.length_nil,go_sem,reduceIte])
          simp only[Ya]
          simp
         ·rintro⟨n,yn⟩ ⟨hn',hyn⟩
          dsimp only at hn' hyn
          (try dsimp only[encB,YGb,go_sem,reduceIte])
          (try simp only[Yc,YGa,YF9,reduceCtorEq,YF8])
          have hnl:=YrW out i j g n
          refine⟨fun hlt3=>?_,fun hge4=>?_⟩
          ·have rn:2<=out.getD n 0/\out.getD n 0<=1000000000001:=hok.rng _ (Yk (l:=out) (i:=n) (by omega))
           have en:IntKind.i64.wrap ((n:Int)+1)=((n+1:Nat):Int):=by rw[YGd _ (by omega)];omega
           have hb:(decide ((n:Int)=(i:Int)) || decide ((n:Int)=(j:Int)))=decide (n=i\/n=j):=by
            rw[YHz,YG6,decide_eq_true_eq,decide_eq_true_eq,decide_eq_true_eq];omega
           have hq:IntKind.i64.wrap (((out.getD n 0:Nat):Int).tdiv (g:Int))=((out.getD n 0/g:Nat):Int):=by
            have e1:((out.getD n 0:Nat):Int).tdiv (g:Int)=((out.getD n 0/g:Nat):Int):=YHh rfl rfl
            have h2:out.getD n 0/g<=out.getD n 0:=YHm _ _
            rw[e1]
            generalize out.getD n 0/g=q at h2⊢
            exact YGd _ (by omega)
           rw[en,hb,hq,decide_eq_true_eq,decide_eq_false_iff_not]
           have hnx:nxtL out i j g (n+1)=if 1<itL out i j g n then nxtL out i j g n++[itL out i j g n]else nxtL out i j g n:=rfl
           refine⟨⟨by omega,by omega⟩,fun hc=>⟨by omega,?_⟩,fun hc=>?_⟩
           ·rw[show itL out i j g n=out.getD n 0/g from if_pos hc]at hnx
            generalize out.getD n 0/g=v at hnx⊢
            refine⟨fun hv=>⟨by decide,⟨by unfold YP;omega,fun p hp=>?_⟩,(n+1,yn&&decide False),⟨by simp only;omega,by simp⟩,by simp only;omega,?_⟩,fun hv=>⟨(n+1,yn),⟨by simp only;omega,?_⟩,by simp only;omega,?_⟩⟩
            ·match p,hp with
             |0,_=>exact⟨rfl,trivial,trivial⟩
            ·rw[if_pos (by omega)]at hnx
             have hol:(nxtL out i j g n++[v]).length=(nxtL out i j g n).length+1:=by rw[YHg];rfl
             simp only[hnx,hol]
             simp only[Ya]
             refine⟨by decide,fun p hp=>?_⟩
             by_cases hpt:p<(nxtL out i j g n).length
             ·rw[if_pos hpt,YGl (l:=_++_),YGR hpt,<-YGl]
              exact⟨⟨rfl,rfl⟩,trivial⟩
             ·rw[if_neg hpt,show p-(nxtL out i j g n).length=0 by omega,YGl (l:=_++_),YG4 (by omega),show p-(nxtL out i j g n).length=0 by omega]
              exact⟨⟨rfl,rfl⟩,trivial⟩
            ·rw[if_neg (by omega)]at hnx
             simp only[hnx];exact hyn
            ·rw[if_neg (by omega)]at hnx
             simp only[hnx]
             simp only[Ya]
             decide
           ·rw[show itL out i j g n=out.getD n 0 from if_neg hc]at hnx
            generalize out.getD n 0=v at hnx⊢
            refine⟨fun hv=>⟨by decide,⟨by unfold YP;omega,fun p hp=>?_⟩,(n+1,yn&&decide False),⟨by simp only;omega,by simp⟩,by simp only;omega,?_⟩,fun hv=>⟨(n+1,yn),⟨by simp only;omega,?_⟩,by simp only;omega,?_⟩⟩
            ·match p,hp with
             |0,_=>exact⟨rfl,trivial,trivial⟩
            ·rw[if_pos (by omega)]at hnx
             have hol:(nxtL out i j g n++[v]).length=(nxtL out i j g n).length+1:=by rw[YHg];rfl
             simp only[hnx,hol]
             simp only[Ya]
             refine⟨by decide,fun p hp=>?_⟩
             by_cases hpt:p<(nxtL out i j g n).length
             ·rw[if_pos hpt,YGl (l:=_++_),YGR hpt,<-YGl]
              exact⟨⟨rfl,rfl⟩,trivial⟩
             ·rw[if_neg hpt,show p-(nxtL out i j g n).length=0 by omega,YGl (l:=_++_),YG4 (by omega),show p-(nxtL out i j g n).length=0 by omega]
              exact⟨⟨rfl,rfl⟩,trivial⟩
            ·rw[if_neg (by omega)]at hnx
             simp only[hnx];exact hyn
            ·rw[if_neg (by omega)]at hnx
             simp only[hnx]
             simp only[Ya]
             decide
          ·obtain rfl:n=out.length:=by omega
           have hol:(nxtL out i j g out.length++[g]).length=(nxtL out i j g out.length).length+1:=by rw[YHg];rfl
           have hp:=n1.pos
           have hl2:=n1.len
           refine⟨by decide,⟨by unfold YP;omega,fun p hp=>?_⟩,(0,nxtL out i j g out.length++[g],yn&&decide False),⟨n1,YHk _,fun a ha=>absurd ha (YG7 _)⟩,by simp only;omega,[1],?_,?_⟩
           ·match p,hp with
            |0,_=>exact⟨rfl,trivial,trivial⟩
           ·(try dsimp only[go_sem,reduceIte])
            refine⟨fun p hp=>?_,trivial⟩
            by_cases hpt:p<(nxtL out i j g out.length).length
            ·rw[if_pos hpt];rfl
            ·rw[if_neg hpt,show p-(nxtL out i j g out.length).length=0 by omega];rfl
           ·(try dsimp only[go_sem,reduceIte])
            simp only[hol]
            simp only[Ya]
            refine⟨fun p hp=>?_,by decide⟩
            by_cases hpt:p<(nxtL out i j g out.length).length
            ·rw[if_pos hpt,YGl (l:=_++_),YGR hpt,<-YGl]
             exact Yd _
            ·rw[if_neg hpt,show p-(nxtL out i j g out.length).length=0 by omega,YGl (l:=_++_),YG4 (by omega),show p-(nxtL out i j g out.length).length=0 by omega]
             exact Yd _
       ·obtain rfl:j=i:=by omega
        refine⟨(j+1,out,yo),⟨hok,by simp only;omega,fun a ha c hc=>?_⟩,by simp only;omega,[],trivial,?_⟩
        ·rcases YGz a j with h'|h'
         ·exact hcp a h' c hc
         ·obtain rfl:a=j:=by simp only at ha;omega
          exact hgj c hc
        ·(try dsimp only[go_sem,reduceIte])
         rw[YGd ((j:Int)+1) (by omega)]
         simp only[Ya]
         simp
     ·obtain rfl:i=out.length:=by omega
      exact YC (show k (.vs true yo out.length 1 (fun k=>encB (out.getD k 0))) []from h out ⟨hok,YxN hcp⟩ yo) (Yv _ trivial) (fun _=>by simp [Yl,encB,Ym])
 ·exact h.1.elim
def v131:VF:=⟨49,[.tmp 2],(ZR [u1 2 .mov [.cn (.bool false)]] (ZR [Zm 8 0,Zc 9 154 8,Zm 3 9] (.seq (ZR [Zi 4 0] (.block 0 (.loop (.seq (ZR [Zm 10 4,Zm 11 3,Zl 12 11,Zr 13 .lss 10 12] (ZC 13 .skip (.exit 0))) (.seq (.block 1 (ZR [Zi 5 0] (.seq (ZR [Zi 6 0] (.block 2 (.loop (.seq (ZR [Zm 16 6,Zm 17 0,Zl 18 17,Zr 19 .lss 16 18] (ZC 19 .skip (.exit 2))) (.seq (.block 3 (ZR [Zm 22 0,Zm 23 6,Zx 24 2 22 23,Za 25 0 24,Zf 26 1 25,Zm 7 26] (.block 4 (.loop (.seq (ZR [Zm 27 7,Zm 28 3,Zm 29 4,Zx 30 1 28 29,Zf 31 1 30,u1 32 .rem [.tm 27,.tm 31],Zq 33 .eql 32 0] (ZC 33 .skip (.exit 4))) (.seq (.block 5 (.region [Zm 40 5,Zm 41 0,Zm 42 6,Zx 43 2 41 42,Za 44 1 43,Zf 45 1 44,Zo 46 .add 40 45,Zm 5 46])) (.region [Zm 34 7,Zm 35 3,Zm 36 4,Zx 37 1 35 36,Zf 38 1 37,u1 39 .quo [.tm 34,.tm 38],Zm 7 39]))))))) (.region [Zm 20 6,Zp 21 20 1,Zm 6 21])))))) (ZR [Zm 47 5,Zq 48 .neq 47 0] (ZC 48 (ZR [u1 2 .mov [.cn (.bool false)]] .ret) .skip))))) (.region [Zm 14 4,Zp 15 14 1,Zm 4 15])))))) (ZR [u1 2 .mov [.cn (.bool true)]] .ret))))⟩
theorem YAG:Yg YGc Tryz.f131=some v131:=by kernel_rfl
def oneC:Ctr:={ alias:=false,of:=fun l=>match l with
 | [.vs _ _ n sz get]=> .ex (List (Int×Int)) fun l=> .pre (lsP 2 enc2 n sz get l/\(∀x,x∈l->okT x)/\n<=20) (.fin (.bool (decide (upP l=dnP l))) [])
 |_=> .pre False (.fin (.bool false) [])}
def Q6:Env:={ ct:=fun n=>match n with|154=>some baseC|_=>none,fn:=fun _=>none,meth:=fun _ _=>none}
theorem Ytm:Q6.ct 154=some baseC:=rfl
theorem Q6_ok:Yq YGc Q6:=by
 refine⟨fun f c h=>?_,fun f vf h=>?_,(fun _ _ _ h=>by cases h),by kernel_rfl,(fun _ h=>by cases h)⟩
 ·simp only[Q6]at h
  split at h
  ·cases h;exact⟨Yxw,Tryz.f154,Tryz.func154,by kernel_rfl,by kernel_rfl⟩
  ·cases h
 ·cases h
theorem YDr:oneC.ok YGc 131:=by
 refine Yb Tryz.func131 YAG Q6_ok 500 oneC fun args k h=>?_
 simp only[oneC]at h
 split at h
 ·rename_i tt z n sz get
  obtain⟨l,⟨⟨rfl,rfl,hg⟩,hl,hn⟩,h⟩:=h
  refine⟨[.vs tt z l.length 2 (fun k=>enc2 (l.getD k default))],⟨⟨id,rfl,rfl,rfl,hg⟩,trivial⟩,?_⟩
  (try dsimp only[v131,Ytm,baseC,enc2,go_sem,reduceIte])
  (try simp only[Yc,YGa,YF9,reduceCtorEq,YF8])
  refine⟨l,⟨⟨rfl,rfl,fun k hk=>Yd _⟩,hl,hn⟩,fun B hB y=>?_⟩
  obtain⟨hok,hcop⟩:=hB
  have hbl:=hok.len
  have hone:=YDp hl hn hok hcop
  rw[<-hone]at h
  refine Loop.keep [0,2] Nat (fun i=>[(4,.int .i64 i)]) (fun _=>[]) [] (fun i=>i<=B.length/\((B.take i).all fun b=>decide (sumB l b=0))=true) (fun i=>B.length-i) ?_ ?_
  ·refine⟨0,⟨by omega,rfl⟩,?_⟩
   (try dsimp only[go_sem,reduceIte])
   simp only[Ya]
   rfl
  ·rintro i ⟨hi,hall⟩
   (try dsimp only[encB,enc2,YGb,go_sem,reduceIte])
   (try simp only[Yc,YGa,YF9,reduceCtorEq,YF8])
   refine⟨fun hlt=>?_,fun hge=>?_⟩
   ·have hb:2<=B.getD i 0/\B.getD i 0<=1000000000001:=hok.rng _ (Yk (l:=B) (i:=i) (by omega))
    have hsucc:((B.take (i+1)).all fun b=>decide (sumB l b=0))=decide (sumB l (B.getD i 0)=0):=by
     rw[Yfi (by omega),hall,YHq];rfl
    have hmemb:B.getD i 0∈B:=Yk (l:=B) (i:=i) (by omega)
    refine Loop.keep [0,2,0] (Nat×Int) (fun s=>[(5,.int .i64 s.2),(6,.int .i64 s.1)]) (fun _=>[]) [] (fun s=>s.1<=l.length/\s.2=(l.take s.1).foldl (fun s x=>divL 64 (B.getD i 0:Nat) x.1 x.2 s) 0) (fun s=>l.length-s.1) ?_ ?_
    ·refine⟨(0,0),⟨by simp only;omega,rfl⟩,?_⟩
     (try dsimp only[go_sem,reduceIte])
     simp only[Ya]
     rfl
    ·rintro⟨t,S⟩ ⟨ht,hS⟩
     dsimp only at ht hS
     (try dsimp only[encB,enc2,YGb,go_sem,reduceIte])
     (try simp only[Yc,YGa,YF9,reduceCtorEq,YF8])
     refine⟨fun hlt2=>⟨⟨by omega,by omega⟩,?_⟩,fun hge2=>?_⟩
     ·have hx:=hl _ (Yk (by omega:t<l.length))
      have hst:(l.take (t+1)).foldl (fun s x=>divL 64 (B.getD i 0:Nat) x.1 x.2 s) 0=divL 64 (B.getD i 0:Nat) (l.getD t default).1 (l.getD t default).2 S:=by
       rw[Yr (by omega),<-hS]
      obtain⟨q0,q1,q2,q3⟩:=hx
      obtain⟨R,hR⟩:∃R,R=divL 64 (B.getD i 0:Nat) (l.getD t default).1 (l.getD t default).2 S:=⟨_,rfl⟩
      rw[<-hR]at hst
      refine Loop.keep [0,2,0,1] (Nat×Int×Int) (fun s=>[(5,.int .i64 s.2.2),(7,.int .i64 s.2.1)]) (fun _=>[]) [] (fun s=>R=divL s.1 (B.getD i 0:Nat) s.2.1 (l.getD t default).2 s.2.2/\1<=s.2.1/\s.2.1<2^s.1/\s.2.1<=1000000000001) (fun s=>s.1) ?_ ?_
      ·refine⟨(64,(l.getD t default).1,S),⟨hR,q0,by simp only;omega,q1⟩,?_⟩
       (try dsimp only[go_sem,reduceIte])
       simp only[Ya]
      ·rintro⟨f,n,S'⟩ ⟨hf,n0,n1,n2⟩
       dsimp only at hf n0 n1 n2
       (try dsimp only[encB,enc2,YGb,go_sem,reduceIte])
       (try simp only[Yc,YGa,YF9,reduceCtorEq,YF8])
       generalize B.getD i 0=b at*
       generalize l.getD t default=x at*
       obtain⟨m,rfl⟩:=YGM (by omega:0<=n)
       obtain⟨g,rfl⟩:∃g,f=g+1:=by
        cases f with
        |zero=>simp at n1;omega
        |succ g=>exact⟨g,rfl⟩
       rw[divL]at hf
       refine⟨⟨by omega,by omega⟩,by omega,fun hc=>?_,fun hc=>?_⟩
       ·rw[if_pos hc]at hf
        have e1:(m:Int).tmod (b:Int)=((m%b:Nat):Int):=YHF rfl rfl
        have e2:(m:Int).tdiv (b:Int)=((m/b:Nat):Int):=YHh rfl rfl
        rw[e1]at hc
        have hdm:=YGP m b
        rw[show m%b=0 by omega,YHi]at hdm
        have hq1:1<=m/b:=Nat.pos_of_ne_zero fun hh=>by rw[hh,Nat.mul_zero]at hdm;omega
        have hq2:2*(m/b)<=m:=by
         have:2*(m/b)<=b*(m/b):=YGf _ hb.1
         omega
        rw[e2]at hf⊢
        generalize m/b=q at hq1 hq2 hf⊢
        have eq:IntKind.i64.wrap (q:Int)=(q:Int):=YGd _ (by omega)
        rw[eq]at hf⊢
        have n1':m<2^g*2:=by rw[<-YGt];exact_mod_cast n1
        refine⟨⟨by omega,by omega⟩,⟨by omega,by omega⟩,by omega,(g,q,IntKind.i64.wrap (S'+x.2)),⟨hf,by simp only;omega,?_,by simp only;omega⟩,by simp only;omega,?_⟩
        ·show(q:Int)<2^g
         have:q<2^g:=by omega
         exact_mod_cast this
        ·simp only[Ya]
       ·rw[if_neg hc]at hf
        refine⟨(t+1,S'),⟨by simp only;omega,by rw[hst,hf]⟩,by simp only;omega,?_⟩
        rw[YGd ((t:Int)+1) (by omega)]
        simp only[Ya]
        simp
     ·obtain rfl:t=l.length:=by omega
      rw[YHe]at hS
      have hS:S=sumB l (B.getD i 0):=hS
      refine⟨fun hc=>?_,fun hc=>⟨i+1,⟨by omega,?_⟩,by omega,?_⟩⟩
      ·have:(B.all fun b=>decide (sumB l b=0))=false:=by
        rw[List.all_eq_false]
        exact⟨B.getD i 0,hmemb,by rw[<-hS];simpa using hc⟩
       rw[this]at h
       exact YK h
      ·rw[hsucc,<-hS];exact decide_eq_true hc
      ·rw[YGd ((i:Int)+1) (by omega)]
       simp only[Ya]
       simp
   ·obtain rfl:i=B.length:=by omega
    rw[YHe]at hall
    rw[hall]at h
    exact YK h
 ·exact h.1.elim
end Go.Proofs.YtmiclogmkfobgaaGreat.Q
