/- The bounds of the reference's sums of logarithms, in plain Lean. -/
import Derived.Test.YtmiclogmkfobgaaGreatMgX51s
import Derived.Test.YtmiclogmkfobgaaGreatMgX51k
import Derived.Test.YtmiclogmkfobgaaGreatMgX51f
import Derived.Test.YtmiclogmkfobgaaGreatMgX51e
import Derived.Test.YtmiclogmkfobgaaGreatMgX51d
import Derived.Test.YtmiclogmkfobgaaGreatMgX51h
import Derived.Test.YtmiclogmkfobgaaGreatRows
open Bool renaming and_eq_false_iff->YGZ,and_eq_true->YGi,eq_iff_iff->YHz,false_or->YHx,not_and->YHt,not_eq_false'->YG0,not_eq_true'->YGA,or_eq_false_iff->YG8,or_eq_true->YG6,true_and->YHq
open Int renaming mul_le_mul_of_nonneg_right->YGE,mul_nonneg->YHv,toNat->YHE,toNat_natCast->YGb,toNat_zero->YHw
open Go.IntWalk renaming i64_in->YGd,u64_in->YGF,up_tdiv->YHh
open List renaming getD_eq_getElem?_getD->YGl,getElem?_append_left->YGR,getElem?_append_right->YG4,length_append->YHg,length_cons->YHf,length_take->YHb,mem_append->YGT,mem_cons->YGK,mem_cons_of_mem->YGx,mem_cons_self->YGy,mem_singleton->YGU,take_length->YHe
open Nat renaming add_mul->YGG,add_zero->YHi,le_of_eq->YGu,le_of_lt->YHn,le_of_mul_le_mul_right->YGq,le_refl->YGr,le_trans->YGg,lt_of_le_of_lt->YGN,lt_or_ge->YGz,mul_assoc->YGm,mul_comm->YGj,mul_le_mul->YGB,mul_le_mul_right->YGf,mul_left_comm->YG5,not_lt_zero->YG7,pow_add->YGo,pow_le_pow_right->YGs,pow_mul->YGn,pow_one->YHr,pow_pos->YGO,pow_succ->YGt,pow_zero->YHA,reduceAdd->YGa,reduceEqDiff->YF8,reduceLeDiff->YF9,reduceMul->YHC,zero_add->YHu,zero_le->YHk
open Go.Proofs.Tryz renaming prog->YGc
set_option linter.all false
namespace Go.Proofs.YtmiclogmkfobgaaGreat.Q
open Go Go.Vx
theorem YkF{n p:Nat}(h1:1<=n)(h2:n<4611686018427387904):2^(lgR n p).1<=n^(2^p)/\n^(2^p)<=2^(lgR n p).2:=by
 unfold lgR
 by_cases c:n=2^lgK n
 ·rw[if_pos c]
  have e:n^(2^p)=2^(lgK n*2^p):=by rw[YGn,<-c]
  rw[e];exact⟨YGr _,YGr _⟩
 ·rw[if_neg c]
  have hk:lgK n<62:=Ydj (by decide) h2
  rcases YGz (2*p+60) (lgK n)with hh|hh
  ·have hk1:=Yny h1
   have e:2*p+60-lgK n=0:=by omega
   obtain rfl:p=0:=by omega
   simp only[gl]
   rw[YHA,YHr]
   exact⟨hk1.1,YHn hk1.2⟩
  ·obtain⟨m1,m2,m3⟩:=mant (D:=2*p+60) h1 hh
   exact Yi8 _ false (YGO (by decide)) p _ _ _ n (YGu m3) (YGu m3.symm) m1 (YHn m2)
theorem Yry{n p:Nat}(h1:1<=n)(h2:n<4611686018427387904):(lgR n p).1<=(lgR n p).2/\(lgR n p).2<=64*2^p:=by
 have hs:=YkF (p:=p) h1 h2
 have hk:lgK n<62:=Ydj (by decide) h2
 refine⟨(Nat.pow_le_pow_iff_right (by decide)).1 (YGg hs.1 hs.2),?_⟩
 unfold lgR
 split
 ·exact YGf _ (by omega)
 ·exact YGg (YfT _ false p _ _ (lgK n)).2 (YGf _ (by omega))
theorem Yh5{n p r:Nat}(h1:1<=n)(h2:n<4611686018427387904)(hp:p+2<=r):(lN n p).1*2^(r-p)<=(lgR n r).1/\(lgR n r).2<=(lN n p).2*2^(r-p):=by
 have hk:lgK n<62:=Ydj (by decide) h2
 unfold lN lgR
 by_cases c:YbN (n:Int)=true
 ·rw[if_pos c,if_pos (Ynu h1 h2 c)]
  have e:lgK n*2^p*2^(r-p)=lgK n*2^r:=by
   rw[YGm,<-YGo];congr 2;omega
  simp only
  rw[e];exact⟨YGr _,YGr _⟩
 ·have c':¬n=2^lgK n:=fun hh=>c (by rw[hh];exact YkB _ hk)
  rw[if_neg c,if_neg c']
  obtain⟨d,rfl⟩:∃d,r=p+2+d:=⟨r-p-2,by omega⟩
  have eM:(2:Nat)^(2*(p+2+d)+60)=2^(2*p+64)*2^(2*d):=by
   rw[<-YGo];congr 1;omega
  have eA:n*2^(2*(p+2+d)+60-lgK n)=2^(2*d)*(n*2^(2*p+64-lgK n)):=by
   rw[show 2*(p+2+d)+60-lgK n=2*d+(2*p+64-lgK n)by omega,YGo,YG5]
  have:=Yq2 (2^(2*p+64)) (2^(2*d)) false (YGO (by decide)) (YGO (by decide)) (2+d) p (n*2^(2*p+64-lgK n)) (n*2^(2*p+64-lgK n)) (lgK n) _ _ (YGu eA.symm) (YGr _) (YGu eA)
  rw[<-eM,show p+(2+d)=p+2+d by omega]at this
  rw[show p+2+d-p=2+d by omega]
  exact this
theorem YpG(g:Nat->Nat):∀a b,upS g (a++b)=upS g a+upS g b/\dnS g (a++b)=dnS g a+dnS g b
 | [],b=>by simp [upS,dnS]
 |x::a,b=>by
  obtain⟨h1,h2⟩:=YpG g a b
  rw[List.cons_append,upS,dnS,upS,dnS,h1,h2]
  exact⟨(Nat.add_assoc ..).symm,(Nat.add_assoc ..).symm⟩
theorem Ylu(g:Nat->Nat)(c:Nat):∀l,upS (fun n=>g n*c) l=upS g l*c/\dnS (fun n=>g n*c) l=dnS g l*c
 | []=>by simp [upS,dnS]
 |x::l=>by
  obtain⟨h1,h2⟩:=Ylu g c l
  rw[upS,dnS,upS,dnS,h1,h2,YGG,YGG]
  constructor
  ·split
   ·rw[Nat.zero_mul]
   ·rw[Nat.mul_right_comm]
  ·split
   ·rw[Nat.mul_right_comm]
   ·rw[Nat.zero_mul]
def lo(p n:Nat):Nat:=(lgR n p).1
def hi(p n:Nat):Nat:=(lgR n p).2
def UndR(l:List (Int×Int))(p:Nat):Prop:=upS (lo p) l<=dnS (hi p) l/\dnS (lo p) l<=upS (hi p) l
theorem YoQ{l:List (Int×Int)}{p r:Nat}(hl:∀x,x∈l->okT x)(hp:p+2<=r)(h:UndR l r):Und l p:=by
 obtain⟨h1,h2⟩:=h
 obtain⟨a1,a2⟩:=Yj1 (g:=fun n=>(lN n p).1*2^(r-p)) (h:=lo r) (fun n k1 k2=>(Yh5 k1 k2 hp).1) l hl
 obtain⟨b1,b2⟩:=Yj1 (g:=hi r) (h:=fun n=>(lN n p).2*2^(r-p)) (fun n k1 k2=>(Yh5 k1 k2 hp).2) l hl
 obtain⟨c1,c2⟩:=Ylu (fun n=>(lN n p).1) (2^(r-p)) l
 obtain⟨d1,d2⟩:=Ylu (fun n=>(lN n p).2) (2^(r-p)) l
 rw[c1]at a1;rw[c2]at a2;rw[d1]at b1;rw[d2]at b2
 exact⟨YGq (YGg a1 (YGg h1 b2)) (YH _),YGq (YGg a2 (YGg h2 b1)) (YH _)⟩
def ordR(l:List (Int×Int))(p:Nat):Int:=if dnS (hi p) l<upS (lo p) l then 1 else if upS (hi p) l<dnS (lo p) l then -1 else 0
theorem Yia{l:List (Int×Int)}{p:Nat}(hl:∀x,x∈l->okT x):(ordR l p=1->dnP l<upP l)/\(ordR l p= -1->upP l<dnP l)/\(ordR l p=0->UndR l p)/\(ordR l p=1\/ordR l p= -1\/ordR l p=0):=by
 obtain⟨⟨a1,a2⟩,b1,b2⟩:=YcA (K:=2^p) (g:=lo p) (h:=hi p) (fun n k1 k2=>YkF k1 k2) l hl
 unfold ordR
 by_cases c1:dnS (hi p) l<upS (lo p) l
 ·rw[if_pos c1]
  exact⟨fun _=>Ybx b2 a1 c1,fun h=>absurd h (by decide),fun h=>absurd h (by decide),Or.inl rfl⟩
 ·rw[if_neg c1]
  by_cases c2:upS (hi p) l<dnS (lo p) l
  ·rw[if_pos c2]
   exact⟨fun h=>absurd h (by decide),fun _=>Ybx a2 b1 c2,fun h=>absurd h (by decide),Or.inr (Or.inl rfl)⟩
  ·rw[if_neg c2]
   exact⟨fun h=>absurd h (by decide),fun h=>absurd h (by decide),fun _=>⟨by omega,by omega⟩,Or.inr (Or.inr rfl)⟩
theorem S_nl{l:List (Int×Int)}{p:Nat}{g:Nat->Nat}(hg:∀n,1<=n->n<4611686018427387904->g n<=64*2^p)(hl:∀x,x∈l->okT x)(hn:l.length<=20)(hp:p<=3840):nl (upS g l)<=300/\nl (dnS g l)<=300:=by
 obtain⟨h1,h2⟩:=S_le hg l hl
 have hb:l.length*(64*2^p*1000000000)<2^(p+41):=by
  rw[YGo]
  have h3:=YGf (64*2^p*1000000000) hn
  have:=YH p
  rw[show(2:Nat)^41=2199023255552 from rfl]
  omega
 exact⟨YkP (YGN h1 hb) (by omega),YkP (YGN h2 hb) (by omega)⟩
theorem lo_b{p n:Nat}(h1:1<=n)(h2:n<4611686018427387904):lo p n<=64*2^p:=YGg (Yry h1 h2).1 (Yry h1 h2).2
theorem hi_b{p n:Nat}(h1:1<=n)(h2:n<4611686018427387904):hi p n<=64*2^p:=(Yry h1 h2).2
set_option maxRecDepth 100000
set_option maxHeartbeats 4000000
def v75:VF:=⟨91,[.cell 4 true 2,.cell 5 true 2],(ZR [u1 4 (.allocArr 2 1 [.nil,.nil]) [],u1 5 (.allocArr 2 1 [.nil,.nil]) []] (ZR [u1 6 (.allocArr 2 1 [.nil,.nil]) [],u1 7 (.allocArr 2 1 [.nil,.nil]) []] (.seq (ZR [Zi 8 0] (.block 0 (.loop (.seq (ZR [Zm 12 8,Zm 13 0,Zl 14 13,Zr 15 .lss 12 14] (ZC 15 .skip (.exit 0))) (.seq (.block 1 (.seq (ZR [Zm 18 0,Zm 19 8,Zx 20 2 18 19,Za 21 0 20,Zf 22 1 21,Zq 23 .eql 22 1,Zm 24 23,Zg 25 24 false 0,Zg 26 24 false 8,u2 27 24 false (.idxAddr 2) [.tm 25,.tm 26],Zj 28 24 false 1 27,Zh 29 24 false 1 28,u2 30 24 false (.cmp .eql) [.tm 29,.cn (.int .i64 0)],u1 31 .or [.tm 24,.tm 30]] (ZC 31 (.exit 1) .skip)) (ZR [Zm 33 0,Zm 34 8,Zx 35 2 33 34,Za 36 0 35,Zf 37 1 36,Zm 38 1,Zd 39 104 37 38,Zm 32 39,Ze 40 0 32,Ze 41 1 32,Zm 9 40,Zm 10 41] (.seq (.draw [] [Zu 42 0,Zu 43 8,ZX 44 2 42 43,Zy 45 1 44,Zv 46 1 45,Zu 47 0,Zu 48 8,ZX 49 2 47 48,Zy 50 1 49,Zv 51 1 50,w1 52 .neg [.tm 51],w1 53 .max [.tm 46,.tm 52],w1 54 (.call 105) [.tm 53],Zu 11 54]) (ZR [Zm 55 0,Zm 56 8,Zx 57 2 55 56,Za 58 1 57,Zf 59 1 58,Zq 60 .gtr 59 0] (ZC 60 (.seq (.draw [] [w1 61 (.idxArr 2 1) [.tm 6,.cn (.int .i64 0)],Zv 62 1 61,Zu 63 11,Zu 64 9,Zz 65 106 63 64,Zz 66 77 62 65,w1 67 (.idxArr 2 1) [.tm 6,.cn (.int .i64 0)],ZS 1 67 66]) (.draw [] [w1 68 (.idxArr 2 1) [.tm 6,.cn (.int .i64 1)],Zv 69 1 68,Zu 70 11,Zu 71 10,Zz 72 106 70 71,Zz 73 77 69 72,w1 74 (.idxArr 2 1) [.tm 6,.cn (.int .i64 1)],ZS 1 74 73])) (.seq (.draw [] [w1 75 (.idxArr 2 1) [.tm 7,.cn (.int .i64 0)],Zv 76 1 75,Zu 77 11,Zu 78 9,Zz 79 106 77 78,Zz 80 77 76 79,w1 81 (.idxArr 2 1) [.tm 7,.cn (.int .i64 0)],ZS 1 81 80]) (.draw [] [w1 82 (.idxArr 2 1) [.tm 7,.cn (.int .i64 1)],Zv 83 1 82,Zu 84 11,Zu 85 10,Zz 86 106 84 85,Zz 87 77 83 86,w1 88 (.idxArr 2 1) [.tm 7,.cn (.int .i64 1)],ZS 1 88 87])))))))) (.region [Zm 16 8,Zp 17 16 1,Zm 8 17])))))) (.seq (.draw [] [Zw 89 2 6,Zw 90 2 7,⟨Zs 2 4 89,[.tm 7]⟩,ZS 2 5 90]) .ret))))⟩
theorem YFF:Yg YGc Tryz.f75=some v75:=by kernel_rfl
def v76:VF:=⟨17,[.tmp 4],(ZR [u1 2 .box [.tm 0],u1 3 .box [.tm 1],Zi 4 0] (.seq (ZR [u1 5 (.idxArr 2 1) [.tm 2,.cn (.int .i64 0)],Zf 6 1 5,u1 7 (.idxArr 2 1) [.tm 3,.cn (.int .i64 1)],Zf 8 1 7,Zd 9 107 6 8,Zq 10 .gtr 9 0] (ZC 10 (ZR [Zi 4 1] .ret) .skip)) (.seq (ZR [u1 11 (.idxArr 2 1) [.tm 2,.cn (.int .i64 1)],Zf 12 1 11,u1 13 (.idxArr 2 1) [.tm 3,.cn (.int .i64 0)],Zf 14 1 13,Zd 15 107 12 14,Zq 16 .lss 15 0] (ZC 16 (ZR [Zi 4 (-1)] .ret) .skip)) (ZR [Zi 4 0] .ret))))⟩
theorem YFG:Yg YGc Tryz.f76=some v76:=by kernel_rfl
def sumsC:Ctr:={ alias:=false,of:=fun l=>match l with
 | [.vs _ _ n sz get,.int .i64 p]=> .ex (List (Int×Int)) fun l=> .ex Nat fun q=> .pre (lsP 2 enc2 n sz get l/\(∀x,x∈l->okT x)/\n<=20/\p=q/\q<=3840/\q%15=0)
     (.all Bool fun y1=> .all Bool fun y2=> .all Bool fun y3=> .all Bool fun y4=> .fin (.tup [.agg [natS y1 (upS (lo q) l),natS y2 (upS (hi q) l)],.agg [natS y3 (dnS (lo q) l),natS y4 (dnS (hi q) l)]]) [])
 |_=>noC}
def orderC:Ctr:={ alias:=false,of:=fun l=>match l with
 | [.agg [.vs _ _ n0 s0 g0,.vs _ _ n1 s1 g1],.agg [.vs _ _ n2 s2 g2,.vs _ _ n3 s3 g3]]=> .ex Nat fun a=> .ex Nat fun b=> .ex Nat fun c=> .ex Nat fun d=> .pre ((padP a n0 s0 g0/\n0=nl a)/\(padP b n1 s1 g1/\n1=nl b)/\(padP c n2 s2 g2/\n2=nl c)/\(padP d n3 s3 g3/\n3=nl d)) (.fin (.int .i64 (if d<a then 1 else if b<c then -1 else 0)) [])
 |_=>noC}
def Q7:Env:={ ct:=fun n=>match n with|104=>some logC|105=>some limbsC|106=>some mulC|77=>some addC|107=>some cmpC|_=>none,fn:=fun _=>none,meth:=fun _ _=>none}
theorem Yiq:Q7.ct 104=some logC:=rfl
theorem Yir:Q7.ct 105=some limbsC:=rfl
theorem Yis:Q7.ct 106=some mulC:=rfl
theorem Yls:Q7.ct 77=some addC:=rfl
theorem Ytn:Q7.ct 107=some cmpC:=rfl
theorem YBx:Yq YGc Q7:=by
 refine⟨fun f c h=>?_,fun f vf h=>?_,(fun _ _ _ h=>by cases h),by kernel_rfl,(fun _ h=>by cases h)⟩
 ·simp only[Q7]at h
  split at h
  ·cases h;exact⟨YDe,Tryz.f104,Tryz.func104,by kernel_rfl,by kernel_rfl⟩
  ·cases h;exact⟨Yjl,Tryz.f105,Tryz.func105,by kernel_rfl,by kernel_rfl⟩
  ·cases h;exact⟨YnC,Tryz.f106,Tryz.func106,by kernel_rfl,by kernel_rfl⟩
  ·cases h;exact⟨YfL,Tryz.f77,Tryz.func77,by kernel_rfl,by kernel_rfl⟩
  ·cases h;exact⟨YeQ,Tryz.f107,Tryz.func107,by kernel_rfl,by kernel_rfl⟩
  ·cases h
 ·cases h
def YrQ(t z:Bool)(a:Nat):SV:= .vs t z (nl a) 1 (fun k=>[.int .i64 (dig a k)])
theorem YbT:orderC.ok YGc 76:=by
 refine Yb Tryz.func76 YFG YBx 300 orderC fun args k h=>?_
 simp only[orderC]at h
 split at h
 ·rename_i t0 z0 n0 s0 g0 t1 z1 n1 s1 g1 t2 z2 n2 s2 g2 t3 z3 n3 s3 g3
  obtain⟨a,b,c,d,⟨⟨⟨rfl,p0,p1,p2⟩,rfl⟩,⟨⟨rfl,q0,q1,q2⟩,rfl⟩,⟨⟨rfl,r0,r1,r2⟩,rfl⟩,⟨⟨rfl,u0,u1,u2⟩,rfl⟩⟩,h⟩:=h
  refine⟨[.agg [YrQ t0 z0 a,YrQ t1 z1 b],.agg [YrQ t2 z2 c,YrQ t3 z3 d]],⟨⟨⟨id,rfl,rfl,rfl,p2⟩,⟨id,rfl,rfl,rfl,q2⟩,trivial⟩,⟨⟨id,rfl,rfl,rfl,r2⟩,⟨id,rfl,rfl,rfl,u2⟩,trivial⟩,trivial⟩,?_⟩
  (try dsimp only[v76,Ytn,cmpC,YrQ,YGb,go_sem,reduceIte])
  (try simp only[Yc,YGa,YF9,reduceCtorEq,YF8])
  have c1:0<ordN a d↔d<a:=by
   unfold ordN;split
   ·omega
   ·split <;> omega
  refine⟨by decide,by decide,a,d,⟨Ye (by omega),Ye (by omega),rfl,rfl⟩,fun hc=>?_,fun hc=>⟨by decide,by decide,b,c,⟨Ye (by omega),Ye (by omega),rfl,rfl⟩,fun hd=>?_,fun hd=>?_⟩⟩
  ·rw[if_pos (c1.1 hc)]at h;exact Yf h
  ·rw[if_neg (fun hh=>hc (c1.2 hh)),if_pos (ord_lt.1 hd)]at h;exact Yf h
  ·rw[if_neg (fun hh=>hc (c1.2 hh)),if_neg (fun hh=>hd (ord_lt.2 hh))]at h;exact Yf h
 ·exact h.1.elim
theorem YDb(p:Nat):lo p (1:Int).toNat=0/\hi p (1:Int).toNat=0:=by
 have e:lgR 1 p=(0,0):=by
  unfold lgR
  rw[if_pos (by decide),show lgK 1=0 by decide,Nat.zero_mul]
 exact⟨congrArg Prod.fst e,congrArg Prod.snd e⟩
structure SSt where
 i:Nat
 y1:Bool
 y2:Bool
 y3:Bool
 y4:Bool
theorem YsQ:sumsC.ok YGc 75:=by
 refine Yb Tryz.func75 YFF YBx 800 sumsC fun args k h=>?_
 simp only[sumsC]at h
 split at h
 ·rename_i tt z n sz get p'
  obtain⟨l,p,⟨⟨rfl,rfl,hg⟩,hl,hn,rfl,hp,hp15⟩,h⟩:=h
  refine⟨[.vs tt z l.length 2 (fun k=>enc2 (l.getD k default)),.int .i64 p],⟨⟨id,rfl,rfl,rfl,hg⟩,⟨rfl,rfl⟩,trivial⟩,?_⟩
  (try dsimp only[v75,enc2,go_sem,reduceIte])
  (try simp only[Yc,YGa,YF9,reduceCtorEq,YF8])
  refine Loop.keep [0,0,2,0,0,0] SSt (fun s=>[(8,.int .i64 s.i)]) (fun s=>[(2,.own false 1 2 (YaN 1 [natS s.y1 (upS (lo p) (l.take s.i)),natS s.y2 (upS (hi p) (l.take s.i))])),(3,.own false 1 2 (YaN 1 [natS s.y3 (dnS (lo p) (l.take s.i)),natS s.y4 (dnS (hi p) (l.take s.i))]))]) [] (fun s=>s.i<=l.length) (fun s=>l.length-s.i) ?_ ?_
  ·refine⟨⟨0,true,true,true,true⟩,by simp only;omega,?_⟩
   (try dsimp only[natS,go_sem,reduceIte])
   simp only[Ya]
   refine⟨by simp,fun k hk=>?_,fun k hk=>?_⟩
   ·match k,hk with
    |0,_=>exact⟨⟨rfl,rfl⟩,trivial⟩
    |1,_=>exact⟨⟨rfl,rfl⟩,trivial⟩
   ·match k,hk with
    |0,_=>exact⟨⟨rfl,rfl⟩,trivial⟩
    |1,_=>exact⟨⟨rfl,rfl⟩,trivial⟩
  ·rintro⟨i,y1,y2,y3,y4⟩ hi
   dsimp only at hi
   (try dsimp only[Yiq,Yir,Yis,Yls,logC,limbsC,mulC,addC,natS,enc2,YGb,YHw,Int.toNat_one,YHC,go_sem,reduceIte])
   (try simp only[Yc,YGa,YF9,reduceCtorEq,YF8])
   refine⟨fun hlt=>?_,fun hge=>?_⟩
   ·obtain⟨q0,q1,q2,q3⟩:=hl _ (Yk (by omega:i<l.length))
    have hx:=Ydn (hl _ (Yk (by omega:i<l.length)))
    have hlt':i<l.length:=by omega
    have hU:∀g,upS g (l.take (i+1))=upS g (l.take i)+upS g [l.getD i default]:=fun g=>by rw[Yag hlt',(YpG g _ _).1]
    have hD:∀g,dnS g (l.take (i+1))=dnS g (l.take i)+dnS g [l.getD i default]:=fun g=>by rw[Yag hlt',(YpG g _ _).2]
    have hok:∀x,x∈l.take i->okT x:=fun x hx=>hl x (List.mem_of_mem_take hx)
    have hlen:(l.take i).length<=20:=by rw[YHb];omega
    obtain⟨b1,b2⟩:=S_nl (p:=p) (g:=lo p) (fun n h1 h2=>lo_b h1 h2) hok hlen hp
    obtain⟨b3,b4⟩:=S_nl (p:=p) (g:=Q.hi p) (fun n h1 h2=>hi_b h1 h2) hok hlen hp
    have lb:=lo_b (p:=p) hx.1 hx.2.1
    have hb:=hi_b (p:=p) hx.1 hx.2.1
    generalize l.getD i default=x at*
    have hlo:lo p x.1.toNat=(lgR x.1.toNat p).1:=rfl
    have hhi:Q.hi p x.1.toNat=(lgR x.1.toNat p).2:=rfl
    rw[<-hlo,<-hhi]
    have h1L:x.1=1->lo p x.1.toNat=0/\Q.hi p x.1.toNat=0:=fun hh=>by rw[hh];exact YDb p
    have eU:∀g:Nat->Nat,upS g [x]=if x.2<0 then 0 else g x.1.toNat*x.2.toNat:=fun g=>by rw[upS,upS,YHi]
    have eD:∀g:Nat->Nat,dnS g [x]=if x.2<0 then g x.1.toNat*(-x.2).toNat else 0:=fun g=>by rw[dnS,dnS,YHi]
    simp only[eU,eD]at hU hD
    have ei:IntKind.i64.wrap ((i:Int)+1)=((i+1:Nat):Int):=by rw[YGd _ (by omega)];omega
    have en:IntKind.i64.wrap (0-x.2)= -x.2:=by rw[YGd _ (by omega)];omega
    have uL:=hU (lo p)
    have uH:=hU (Q.hi p)
    have dL:=hD (lo p)
    have dH:=hD (Q.hi p)
    generalize lo p x.1.toNat=L at*
    generalize Q.hi p x.1.toNat=H at*
    rw[ei,en]
    refine⟨⟨by omega,by omega⟩,fun _=>⟨by omega,by omega⟩,fun hc=>?_,fun hc=>⟨⟨by omega,by omega⟩,⟨⟨q0,q1⟩,by omega,by omega,by omega⟩,fun z1 z2=>⟨by decide,by decide,⟨by omega,by omega⟩,⟨by omega,by omega⟩,⟨by omega,by omega⟩,⟨by omega,by omega⟩,fun hpos=>⟨by decide,?_⟩,fun hneg=>⟨by decide,?_⟩⟩⟩⟩
    ·have hz:(if x.2<0 then 0 else L*x.2.toNat)=0/\(if x.2<0 then 0 else H*x.2.toNat)=0/\(if x.2<0 then L*(-x.2).toNat else 0)=0/\(if x.2<0 then H*(-x.2).toNat else 0)=0:=by
      rw[YG6,decide_eq_true_eq,decide_eq_true_eq]at hc
      rcases hc with hc|hc
      ·obtain⟨l1,l2⟩:=h1L hc
       simp [l1,l2]
      ·simp [hc]
     obtain⟨a1,a2,a3,a4⟩:=hz
     rw[a1,YHi]at uL
     rw[a2,YHi]at uH
     rw[a3,YHi]at dL
     rw[a4,YHi]at dH
     refine⟨⟨i+1,y1,y2,y3,y4⟩,by simp only;omega,by simp only;omega,?_⟩
     simp only[uL,uH,dL,dH]
     simp only[Ya]
     refine⟨by simp,fun k hk=>?_,fun k hk=>?_⟩
     ·match k,hk with
      |0,_=>exact YS _ ⟨trivial,trivial⟩
      |1,_=>exact YS _ ⟨trivial,trivial⟩
     ·match k,hk with
      |0,_=>exact YS _ ⟨trivial,trivial⟩
      |1,_=>exact YS _ ⟨trivial,trivial⟩
    ·simp only[if_false]
     (try dsimp only[Yiq,Yir,Yis,Yls,logC,limbsC,mulC,addC,natS,enc2,YGb,YHw,Int.toNat_one,YHC,go_sem,reduceIte])
     (try simp only[Yc,YGa,YF9,reduceCtorEq,YF8])
     rw[if_neg (by omega)]at uL uH dL dH
     rw[YHi]at dL dH
     have hM:(max x.2 (-x.2)).toNat=x.2.toNat:=by omega
     rw[hM]
     have hMb:x.2.toNat<=1000000000:=by omega
     generalize x.2.toNat=M at*
     have fM:nl M<=2:=nl_le.2 (by omega)
     have f32:∀X,X<=64*2^p->nl X<=300/\nl (M*X)<=300:=fun X hX=>by
      have h3:M*X<=1000000000*(64*2^p):=YGB hMb hX
      have h4:=YH p
      have h5:1000000000*(64*2^p)<2^(p+41):=by rw[YGo,show(2:Nat)^41=2199023255552 from rfl];omega
      have h6:p+41<15*300:=by omega
      exact⟨YkP (YGN (show X<=1000000000*(64*2^p)by omega) h5) h6,YkP (YGN h3 h5) h6⟩
     obtain⟨fL,fML⟩:=f32 L lb
     obtain⟨fH,fMH⟩:=f32 H hb
     refine⟨by decide,M,L,⟨Ye (by omega),Ye (by omega),by omega,by omega⟩,upS (lo p) (l.take i),M*L,⟨Ye (by omega),Ye (by omega),by omega,by omega⟩,by decide,by decide,by decide,by decide,M,H,⟨Ye (by omega),Ye (by omega),by omega,by omega⟩,upS (Q.hi p) (l.take i),M*H,⟨Ye (by omega),Ye (by omega),by omega,by omega⟩,by decide,by decide,⟨i+1,false,false,y3,y4⟩,by simp only;omega,by simp only;omega,?_⟩
     simp only[uL,uH,dL,dH,ei,YGj L,YGj H]
     simp only[Ya]
     refine⟨by simp,fun k hk=>?_,fun k hk=>?_⟩
     ·match k,hk with
      |0,_=>exact YS _ ⟨trivial,trivial⟩
      |1,_=>exact YS _ ⟨trivial,trivial⟩
     ·match k,hk with
      |0,_=>exact YS _ ⟨trivial,trivial⟩
      |1,_=>exact YS _ ⟨trivial,trivial⟩
    ·simp only[if_false]
     (try dsimp only[Yiq,Yir,Yis,Yls,logC,limbsC,mulC,addC,natS,enc2,YGb,YHw,Int.toNat_one,YHC,go_sem,reduceIte])
     (try simp only[Yc,YGa,YF9,reduceCtorEq,YF8])
     have hx0:x.2≠0:=fun hh=>by rw[hh,decide_eq_true rfl,Bool.or_true]at hc;cases hc
     rw[if_pos (by omega)]at uL uH dL dH
     rw[YHi]at uL uH
     have hM:(max x.2 (-x.2)).toNat=(-x.2).toNat:=by omega
     rw[hM]
     have hMb:(-x.2).toNat<=1000000000:=by omega
     generalize(-x.2).toNat=M at*
     have fM:nl M<=2:=nl_le.2 (by omega)
     have f32:∀X,X<=64*2^p->nl X<=300/\nl (M*X)<=300:=fun X hX=>by
      have h3:M*X<=1000000000*(64*2^p):=YGB hMb hX
      have h4:=YH p
      have h5:1000000000*(64*2^p)<2^(p+41):=by rw[YGo,show(2:Nat)^41=2199023255552 from rfl];omega
      have h6:p+41<15*300:=by omega
      exact⟨YkP (YGN (show X<=1000000000*(64*2^p)by omega) h5) h6,YkP (YGN h3 h5) h6⟩
     obtain⟨fL,fML⟩:=f32 L lb
     obtain⟨fH,fMH⟩:=f32 H hb
     refine⟨by decide,M,L,⟨Ye (by omega),Ye (by omega),by omega,by omega⟩,dnS (lo p) (l.take i),M*L,⟨Ye (by omega),Ye (by omega),by omega,by omega⟩,by decide,by decide,by decide,by decide,M,H,⟨Ye (by omega),Ye (by omega),by omega,by omega⟩,dnS (Q.hi p) (l.take i),M*H,⟨Ye (by omega),Ye (by omega),by omega,by omega⟩,by decide,by decide,⟨i+1,y1,y2,false,false⟩,by simp only;omega,by simp only;omega,?_⟩
     simp only[uL,uH,dL,dH,ei,YGj L,YGj H]
     simp only[Ya]
     refine⟨by simp,fun k hk=>?_,fun k hk=>?_⟩
     ·match k,hk with
      |0,_=>exact YS _ ⟨trivial,trivial⟩
      |1,_=>exact YS _ ⟨trivial,trivial⟩
     ·match k,hk with
      |0,_=>exact YS _ ⟨trivial,trivial⟩
      |1,_=>exact YS _ ⟨trivial,trivial⟩
   ·obtain rfl:i=l.length:=by omega
    rw[YHe]at*
    exact⟨by decide,by decide,YC (show k _ []from h y1 y2 y3 y4) (Yv _ ⟨⟨trivial,trivial,trivial⟩,⟨trivial,trivial,trivial⟩,trivial⟩) (fun _=>by simp [natS,Yl,Ym])⟩
 ·exact h.1.elim
def v73:VF:=⟨43,[.tmp 2],(ZR [Zi 2 0] (.seq (ZR [Zm 4 0,Zl 5 4,Zq 6 .gtr 5 16] (ZC 6 (ZR [Zi 2 3] .ret) .skip)) (.seq (ZR [Zi 3 0] (.block 0 (.loop (.seq (ZR [Zm 7 3,Zm 8 0,Zl 9 8,Zr 10 .lss 7 9] (ZC 10 .skip (.exit 0))) (.seq (.block 1 (ZR [Zm 13 0,Zm 14 3,Zx 15 2 13 14,Za 16 0 15,Zf 17 1 16,Zq 18 .lss 17 1,Zm 19 18,Zg 20 19 false 0,Zg 21 19 false 3,u2 22 19 false (.idxAddr 2) [.tm 20,.tm 21],Zj 23 19 false 0 22,Zh 24 19 false 1 23,u2 25 19 false (.cmp .gtr) [.tm 24,.cn (.int .i64 1000000000000)],u1 26 .or [.tm 19,.tm 25],Zm 27 26,Zg 28 27 false 0,Zg 29 27 false 3,u2 30 27 false (.idxAddr 2) [.tm 28,.tm 29],Zj 31 27 false 1 30,Zh 32 27 false 1 31,u2 33 27 false (.cmp .lss) [.tm 32,.cn (.int .i64 (-1000000000))],u1 34 .or [.tm 27,.tm 33],Zm 35 34,Zg 36 35 false 0,Zg 37 35 false 3,u2 38 35 false (.idxAddr 2) [.tm 36,.tm 37],Zj 39 35 false 1 38,Zh 40 35 false 1 39,u2 41 35 false (.cmp .gtr) [.tm 40,.cn (.int .i64 1000000000)],u1 42 .or [.tm 35,.tm 41]] (ZC 42 (ZR [Zi 2 2] .ret) .skip))) (.region [Zm 11 3,Zp 12 11 1,Zm 3 12])))))) (ZR [Zi 2 0] .ret))))⟩
theorem YFD:Yg YGc Tryz.f73=some v73:=by kernel_rfl
def v103:VF:=⟨23,[.tmp 2],(ZR [Zi 2 0] (.seq (ZR [Zm 7 0,Zc 8 131 7] (ZC 8 (ZR [Zi 2 0] .ret) .skip)) (ZR [Zi 3 30] (.block 0 (.loop (.seq (.block 1 (ZR [Zm 12 0,Zm 13 3,Zd 14 75 12 13,Zm 11 14,Ze 15 0 11,Ze 16 1 11,u1 4 (.allocArr 2 1 [.nil,.nil]) [],u1 5 (.allocArr 2 1 [.nil,.nil]) [],Zs 2 4 15,Zs 2 5 16] (ZR [Zt 17 2 4,Zt 18 2 5,Zd 19 76 17 18,Zm 6 19] (ZR [Zm 20 6,Zq 21 .neq 20 0] (ZC 21 (ZR [Zm 22 6,Zm 2 22] .ret) .skip))))) (.region [Zm 9 3,u1 10 (.ari .mul) [.cn (.int .i64 2),.tm 9],Zm 3 10])))))))⟩
theorem YAf:Yg YGc Tryz.f103=some v103:=by kernel_rfl
def v74:VF:=⟨17,[.tmp 6],(ZR [Zi 6 0] (ZR [u1 7 (.buildSlice 2 0 [(.int .i64 0),(.int .i64 0)] []) [],Zm 8 0,u1 9 (.append 2 16 [(.int .i64 0),(.int .i64 0)]) [.tm 7,.tm 8],Zm 10 1,Zm 11 2,u1 12 .neg [.tm 11],u1 13 (.build [(.int .i64 0),(.int .i64 0)] [(0,1),(1,1)]) [.tm 10,.tm 12],u1 14 (.buildSlice 2 1 [(.int .i64 0),(.int .i64 0)] [(0,2)]) [.tm 13],u1 15 (.append 2 16 [(.int .i64 0),(.int .i64 0)]) [.tm 9,.tm 14],Zc 16 103 15,Zm 6 16] .ret))⟩
theorem YFE:Yg YGc Tryz.f74=some v74:=by kernel_rfl
def sgn(l:List (Int×Int)):Int:=if dnP l<upP l then 1 else if upP l<dnP l then -1 else 0
def signC:Ctr:={ alias:=false,of:=fun l=>match l with
 | [.vs _ _ n sz get]=> .ex (List (Int×Int)) fun l=> .pre (lsP 2 enc2 n sz get l/\(∀x,x∈l->okT x)/\n<=20/\Dec l) (.fin (.int .i64 (sgn l)) [])
 |_=> .pre False (.fin (.int .i64 0) [])}
def Q8:Env:={ ct:=fun _=>none,fn:=fun _=>none,meth:=fun _ _=>none}
theorem Q8_ok:Yq YGc Q8:=by
 refine⟨fun f c h=>?_,fun f vf h=>?_,(fun _ _ _ h=>by cases h),by kernel_rfl,(fun _ h=>by cases h)⟩
 ·cases h
 ·cases h
theorem Yfk:chkTC.ok YGc 73:=by
 refine Yb Tryz.func73 YFD Q8_ok 500 chkTC fun args k h=>?_
 simp only[chkTC]at h
 split at h
 ·rename_i tt z n sz get
  obtain⟨l,⟨⟨rfl,rfl,hg⟩,hn⟩,h⟩:=h
  refine⟨[.vs tt z l.length 2 (fun k=>enc2 (l.getD k default))],⟨⟨id,rfl,rfl,rfl,hg⟩,trivial⟩,?_⟩
  (try dsimp only[v73,enc2,go_sem,reduceIte])
  (try simp only[Yc,YGa,YF9,reduceCtorEq,YF8])
  refine⟨fun hc=>?_,fun hc=>?_⟩
  ·rw[YiL,if_pos (by omega)]at h;exact Yf h
  ·rw[YiL,if_neg (by omega)]at h
   refine Loop.keep [0] Nat (fun i=>[(3,.int .i64 i)]) (fun _=>[]) [] (fun i=>i<=l.length/\(l.take i).any okT0=false) (fun i=>l.length-i) ?_ ?_
   ·refine⟨0,⟨by omega,rfl⟩,?_⟩
    (try dsimp only[go_sem,reduceIte])
    simp only[Ya]
    rfl
   ·rintro i ⟨hi,hall⟩
    (try dsimp only[enc2,YGb,go_sem,reduceIte])
    (try simp only[Yc,YGa,YF9,reduceCtorEq,YF8])
    refine⟨fun hlt=>⟨⟨by omega,by omega⟩,fun _=>⟨by omega,by omega⟩,fun _=>⟨by omega,by omega⟩,fun _=>⟨by omega,by omega⟩,fun hc=>?_,fun hc=>⟨i+1,⟨by omega,?_⟩,by omega,?_⟩⟩,fun hge=>?_⟩
    ·have:l.any okT0=true:=List.any_eq_true.2 ⟨_,Yk (by omega:i<l.length),hc⟩
     rw[if_pos this]at h
     exact Yf h
    ·rw[Yfj (by omega),hall,YHx];exact hc
    ·rw[YGd ((i:Int)+1) (by omega)]
     simp only[Ya]
     simp
    ·obtain rfl:i=l.length:=by omega
     rw[YHe]at hall
     rw[if_neg (by rw[hall];decide)]at h
     exact Yf h
 ·exact h.1.elim
def Q9:Env:={ ct:=fun n=>match n with|131=>some oneC|75=>some sumsC|76=>some orderC|_=>none,fn:=fun _=>none,meth:=fun _ _=>none}
theorem Yto:Q9.ct 131=some oneC:=rfl
theorem YwT:Q9.ct 75=some sumsC:=rfl
theorem YwU:Q9.ct 76=some orderC:=rfl
theorem Q9_ok:Yq YGc Q9:=by
 refine⟨fun f c h=>?_,fun f vf h=>?_,(fun _ _ _ h=>by cases h),by kernel_rfl,(fun _ h=>by cases h)⟩
 ·simp only[Q9]at h
  split at h
  ·cases h;exact⟨YDr,Tryz.f131,Tryz.func131,by kernel_rfl,by kernel_rfl⟩
  ·cases h;exact⟨YsQ,Tryz.f75,Tryz.func75,by kernel_rfl,by kernel_rfl⟩
  ·cases h;exact⟨YbT,Tryz.f76,Tryz.func76,by kernel_rfl,by kernel_rfl⟩
  ·cases h
 ·cases h
theorem YzV:signC.ok YGc 103:=by
 refine Yb Tryz.func103 YAf Q9_ok 500 signC fun args k h=>?_
 simp only[signC]at h
 split at h
 ·rename_i tt z n sz get
  obtain⟨l,⟨⟨rfl,rfl,hg⟩,hl,hn,hdec⟩,h⟩:=h
  refine⟨[.vs tt z l.length 2 (fun k=>enc2 (l.getD k default))],⟨⟨id,rfl,rfl,rfl,hg⟩,trivial⟩,?_⟩
  (try dsimp only[v103,Yto,oneC,enc2,go_sem,reduceIte])
  (try simp only[Yc,YGa,YF9,reduceCtorEq,YF8])
  have hself:lsP 2 enc2 l.length 2 (fun k=>[SV.int IntKind.i64 (l.getD k default).fst,SV.int IntKind.i64 (l.getD k default).snd]) l:=⟨rfl,rfl,fun k _=>Yd _⟩
  refine⟨l,⟨hself,hl,hn⟩,fun hc=>?_,fun hc=>?_⟩
  ·rw[sgn,if_neg (by omega),if_neg (by omega)]at h
   exact Yf h
  ·refine Loop.keep [0] Nat (fun j=>[(3,.int .i64 ((30*2^j:Nat):Int))]) (fun _=>[]) [] (fun j=>j<=7) (fun j=>7-j) ?_ ?_
   ·refine⟨0,by omega,?_⟩
    (try dsimp only[go_sem,reduceIte])
    simp only[Ya]
    rfl
   ·rintro j hj
    have hm:30*2^j<=3840:=by
     have:2^j<=2^7:=YGs (by decide) hj
     omega
    have hm15:30*2^j%15=0:=by omega
    have hm7:j=7->30*2^j=3840:=fun hh=>by rw[hh]
    have hms:30*2^(j+1)=2*(30*2^j):=by rw[YGt];omega
    (try dsimp only[YwT,YwU,sumsC,orderC,natS,enc2,YGb,YHw,Int.toNat_one,YHC,go_sem,reduceIte])
    (try simp only[Yc,YGa,YF9,reduceCtorEq,YF8])
    obtain⟨m,hme⟩:∃m,m=30*2^j:=⟨_,rfl⟩
    rw[<-hme]at hm hm15 hm7 hms⊢
    have b1:=S_nl (p:=m) (g:=lo m) (fun n h1 h2=>lo_b h1 h2) hl hn hm
    have b2:=S_nl (p:=m) (g:=hi m) (fun n h1 h2=>hi_b h1 h2) hl hn hm
    obtain⟨o1,o2,o3,o4⟩:=Yia (p:=m) hl
    refine⟨l,m,⟨hself,hl,hn,rfl,hm,hm15⟩,fun y1 y2 y3 y4=>⟨by decide,by decide,by decide,by decide,upS (lo m) l,upS (hi m) l,dnS (lo m) l,dnS (hi m) l,⟨⟨Ye (by omega),rfl⟩,⟨Ye (by omega),rfl⟩,⟨Ye (by omega),rfl⟩,⟨Ye (by omega),rfl⟩⟩,fun hd=>?_,fun hd=>?_⟩⟩
    ·have hd:¬ordR l m=0:=hd
     have hs:sgn l=ordR l m:=by
      rcases o4 with e|e|e
      ·rw[e,sgn,if_pos (o1 e)]
      ·have:=o2 e
       rw[e,sgn,if_neg (by omega),if_pos this]
      ·exact absurd e hd
     rw[hs]at h
     exact Yf h
    ·have hd:ordR l m=0:=hd
     have hj7:j≠7:=fun hh=>by
      have hu:=o3 hd
      rw[hm7 hh]at hu
      rcases hdec with e|e
      ·exact hc e
      ·exact e (YoQ hl (by decide) hu)
     refine⟨j+1,by omega,by omega,?_⟩
     rw[hms,YGd (2*(m:Int)) (by omega)]
     simp only[Ya]
     omega
 ·exact h.1.elim
def belowC:Ctr:={ alias:=false,of:=fun l=>match l with
 | [.vs _ _ n sz get,.int .i64 kk,.int .i64 den]=> .ex (List (Int×Int)) fun l=> .pre (lsP 2 enc2 n sz get l/\(∀x,x∈l->okT x)/\n<=18/\(1<=kk/\kk<=1000000000001)/\(1<=den/\den<=1000000)/\Dec (atF l den kk)) (.fin (.int .i64 (sgn (atF l den kk))) [])
 |_=> .pre False (.fin (.int .i64 0) [])}
theorem YB9{l:List (Int×Int)}{den kk:Int}{hp:List HO}{r:List SV->List SV}{i:Nat}:
 lsP 2 enc2 (l.length+1) 2 (fun k=>Ybu false hp r (if k<l.length then Yj i [SV.int IntKind.i64 (l.getD k default).fst,SV.int IntKind.i64 (l.getD k default).snd]else Yj i (YL 2 (YG ((k-l.length)*2) [SV.int IntKind.i64 kk,SV.int IntKind.i64 (-den)])))) (atF l den kk):=by
 refine⟨rfl,by simp [atF],fun k hk=>?_⟩
 unfold atF
 dsimp only
 by_cases h1:k<l.length
 ·rw[if_pos h1,YGl (l:=_++_),YGR h1,<-YGl]
  exact Yd _
 ·rw[if_neg h1,show k-l.length=0 by omega,YGl (l:=_++_),YG4 (by omega),show k-l.length=0 by omega]
  exact Yd _
def Q10:Env:={ ct:=fun n=>match n with|103=>some signC|_=>none,fn:=fun _=>none,meth:=fun _ _=>none}
theorem Yo8:Q10.ct 103=some signC:=rfl
theorem YBu:Yq YGc Q10:=by
 refine⟨fun f c h=>?_,fun f vf h=>?_,(fun _ _ _ h=>by cases h),by kernel_rfl,(fun _ h=>by cases h)⟩
 ·simp only[Q10]at h
  split at h
  ·cases h;exact⟨YzV,Tryz.f103,Tryz.func103,by kernel_rfl,by kernel_rfl⟩
  ·cases h
 ·cases h
theorem Yuc:belowC.ok YGc 74:=by
 refine Yb Tryz.func74 YFE YBu 500 belowC fun args k h=>?_
 simp only[belowC]at h
 split at h
 ·rename_i tt z n sz get kk den
  obtain⟨l,⟨⟨rfl,rfl,hg⟩,hl,hn,hk,hden,hdec⟩,h⟩:=h
  refine⟨[.vs tt z l.length 2 (fun k=>enc2 (l.getD k default)),.int .i64 kk,.int .i64 den],⟨⟨id,rfl,rfl,rfl,hg⟩,⟨rfl,rfl⟩,⟨rfl,rfl⟩,trivial⟩,?_⟩
  (try dsimp only[v74,Yo8,signC,enc2,go_sem,reduceIte])
  (try simp only[Yc,YGa,YF9,reduceCtorEq,YF8])
  have hnd:IntKind.i64.wrap (0-den)= -den:=by rw[YGd _ (by omega)];omega
  rw[hnd]
  simp only[YHu,YG7,if_false,Nat.sub_zero]
  refine⟨by decide,by unfold YP;omega,by decide,⟨by unfold YP;omega,fun k hk=>?_⟩,atF l den kk,⟨YB9,?_,by omega,hdec⟩,Yf h⟩
  ·obtain rfl:k=0:=by omega
   exact⟨rfl,trivial,trivial,trivial⟩
  ·intro x hx
   unfold atF at hx
   rw[YGT,YGU]at hx
   rcases hx with hx|rfl
   ·exact hl x hx
   ·simp only[okT];omega
 ·exact h.1.elim
def v45:VF:=⟨105,[.tmp 6,.tmp 7,.tmp 8],(ZR [Zi 6 0,u1 7 .mov [.cn (.bool false)],Zi 8 0] (ZR [Zm 19 1,Zc 20 73 19,Zm 9 20] (.seq (ZR [Zm 21 9,Zq 22 .neq 21 0] (ZC 22 (ZR [Zm 23 9,Zi 6 0,u1 7 .mov [.cn (.bool false)],Zm 8 23] .ret) .skip)) (.seq (ZR [Zm 24 2,Zq 25 .lss 24 1,Zm 26 25,Zg 27 26 false 2,u2 28 26 false (.cmp .gtr) [.tm 27,.cn (.int .i64 1000000)],u1 29 .or [.tm 26,.tm 28],Zm 30 29,Zg 31 30 false 0,u2 32 30 false (.cmp .lss) [.tm 31,.cn (.int .i64 1)],u1 33 .or [.tm 30,.tm 32],Zm 34 33,Zg 35 34 false 0,u2 36 34 false (.cmp .gtr) [.tm 35,.cn (.int .i64 1000000000000)],u1 37 .or [.tm 34,.tm 36]] (ZC 37 (ZR [Zi 6 0,u1 7 .mov [.cn (.bool false)],Zi 8 2] .ret) .skip)) (ZR [u1 38 (.buildSlice 2 0 [(.int .i64 0),(.int .i64 0)] []) [],Zm 39 1,u1 40 (.append 2 16 [(.int .i64 0),(.int .i64 0)]) [.tm 38,.tm 39],Zm 41 0,Zm 42 2,u1 43 (.build [(.int .i64 0),(.int .i64 0)] [(0,1),(1,1)]) [.tm 41,.tm 42],u1 44 (.buildSlice 2 1 [(.int .i64 0),(.int .i64 0)] [(0,2)]) [.tm 43],u1 45 (.append 2 16 [(.int .i64 0),(.int .i64 0)]) [.tm 40,.tm 44],Zm 10 45] (.seq (ZR [Zm 46 10,Zm 47 2,u1 48 (.call 74) [.tm 46,.cn (.int .i64 1000000000001),.tm 47],Zq 49 .geq 48 0] (ZC 49 (ZR [Zi 6 0,u1 7 .mov [.cn (.bool false)],Zi 8 7] .ret) .skip)) (ZR [Zm 51 10,u1 52 (.call 75) [.tm 51,.cn (.int .i64 30)],Zm 50 52,Ze 53 0 50,Ze 54 1 50,u1 11 (.allocArr 2 1 [.nil,.nil]) [],u1 12 (.allocArr 2 1 [.nil,.nil]) [],Zs 2 11 53,Zs 2 12 54] (ZR [Zi 13 0,Zi 14 1000000000001] (.seq (.block 0 (.loop (.seq (ZR [Zm 55 14,Zm 56 13,Zo 57 .sub 55 56,Zq 58 .gtr 57 1] (ZC 58 .skip (.exit 0))) (.block 1 (ZR [Zm 59 13,Zm 60 14,Zo 61 .add 59 60,u1 62 .quo [.tm 61,.cn (.int .i64 2)],Zm 15 62] (ZR [Zm 64 15,Zm 65 2,u1 66 .neg [.tm 65],u1 67 (.build [(.int .i64 0),(.int .i64 0)] [(0,1),(1,1)]) [.tm 64,.tm 66],u1 68 (.buildSlice 2 1 [(.int .i64 0),(.int .i64 0)] [(0,2)]) [.tm 67],u1 69 (.call 75) [.tm 68,.cn (.int .i64 30)],Zm 63 69,Ze 70 0 63,Ze 71 1 63,u1 16 (.allocArr 2 1 [.nil,.nil]) [],u1 17 (.allocArr 2 1 [.nil,.nil]) [],Zs 2 16 70,Zs 2 17 71] (.seq (.draw [] [Zw 72 2 11,w1 73 (.idxArr 2 1) [.tm 12,.cn (.int .i64 0)],Zv 74 1 73,w1 75 (.idxArr 2 1) [.tm 17,.cn (.int .i64 0)],Zv 76 1 75,w1 78 (.idxArr 2 1) [.tm 12,.cn (.int .i64 1)],Zv 79 1 78,w1 80 (.idxArr 2 1) [.tm 17,.cn (.int .i64 1)],Zv 81 1 80,Zz 77 77 74 76,Zz 82 77 79 81,w1 83 (.build [.nil,.nil] [(0,1),(1,1)]) [.tm 77,.tm 82],Zz 84 76 72 83,Zu 18 84]) (.seq (ZR [Zm 85 18,Zq 86 .eql 85 0] (ZC 86 (.region [Zm 87 10,Zm 88 15,Zm 89 2,u1 90 (.call 74) [.tm 87,.tm 88,.tm 89],Zm 18 90]) .skip)) (ZR [Zm 91 18,Zq 92 .geq 91 0] (ZC 92 (.region [Zm 93 15,Zm 13 93]) (.region [Zm 94 15,Zm 14 94]))))))))))) (ZR [Zm 95 13,Zm 96 13,Zq 97 .gtr 96 0,Zm 98 97,Zg 99 98 true 10,Zg 100 98 true 13,Zg 101 98 true 2,u2 102 98 true (.call 74) [.tm 99,.tm 100,.tm 101],u2 103 98 true (.cmp .eql) [.tm 102,.cn (.int .i64 0)],u1 104 .and [.tm 98,.tm 103],Zm 6 95,Zm 7 104,Zi 8 0] .ret))))))))))⟩
theorem YFd:Yg YGc Tryz.f45=some v45:=by kernel_rfl
def tstR(all:List (Int×Int))(den:Int)(k:Nat):Bool:=decide (dnP (atF all den k)<=upP (atF all den k))
def powR(all:List (Int×Int))(den:Int):Nat:=bisN (tstR all den) 41 0 1000000000001
def rPowerC:Ctr:={ alias:=false,of:=fun l=>match l with
 | [.int .i64 s,.vs _ _ n sz get,.int .i64 den]=> .ex (List (Int×Int)) fun l=> .pre (lsP 2 enc2 n sz get l/\(∀x,x∈l->okT0 x=false)/\n<=16/\1<=n/\(1<=s/\s<=1000000000000)/\(1<=den/\den<=1000000)/\
     (Dec (atF (l++[(s,den)]) den 1000000000001)/\tstR (l++[(s,den)]) den 1000000000001=false)/\PthG (fun k=>Dec (atF (l++[(s,den)]) den k)) (tstR (l++[(s,den)]) den) 41 0 1000000000001) (.fin (.tup [.int .i64 (powR (l++[(s,den)]) den),.bool (decide (0<powR (l++[(s,den)]) den)&&decide (upP (atF (l++[(s,den)]) den (powR (l++[(s,den)]) den))=dnP (atF (l++[(s,den)]) den (powR (l++[(s,den)]) den)))),.int .i64 0]) [])
 |_=>noC}
def Q11:Env:={ ct:=fun n=>match n with|73=>some chkTC|74=>some belowC|75=>some sumsC|76=>some orderC|77=>some addC|_=>none,fn:=fun _=>none,meth:=fun _ _=>none}
theorem Ytf:Q11.ct 73=some chkTC:=rfl
theorem Ymr:Q11.ct 74=some belowC:=rfl
theorem Yms:Q11.ct 75=some sumsC:=rfl
theorem Ytg:Q11.ct 76=some orderC:=rfl
theorem Yth:Q11.ct 77=some addC:=rfl
theorem YBv:Yq YGc Q11:=by
 refine⟨fun f c h=>?_,fun f vf h=>?_,(fun _ _ _ h=>by cases h),by kernel_rfl,(fun _ h=>by cases h)⟩
 ·simp only[Q11]at h
  split at h
  ·cases h;exact⟨Yfk,Tryz.f73,Tryz.func73,by kernel_rfl,by kernel_rfl⟩
  ·cases h;exact⟨Yuc,Tryz.f74,Tryz.func74,by kernel_rfl,by kernel_rfl⟩
  ·cases h;exact⟨YsQ,Tryz.f75,Tryz.func75,by kernel_rfl,by kernel_rfl⟩
  ·cases h;exact⟨YbT,Tryz.f76,Tryz.func76,by kernel_rfl,by kernel_rfl⟩
  ·cases h;exact⟨YfL,Tryz.f77,Tryz.func77,by kernel_rfl,by kernel_rfl⟩
  ·cases h
 ·cases h
theorem YvI{l:List (Int×Int)}{s den:Int}{hp:List HO}{r:List SV->List SV}{i:Nat}:
 lsP 2 enc2 (l.length+1) 2 (fun k=>Ybu false hp r (if k<l.length then Yj i [SV.int IntKind.i64 (l.getD k default).fst,SV.int IntKind.i64 (l.getD k default).snd]else Yj i (YL 2 (YG ((k-l.length)*2) [SV.int IntKind.i64 s,SV.int IntKind.i64 den])))) (l++[(s,den)]):=by
 refine⟨rfl,by simp,fun k hk=>?_⟩
 dsimp only
 by_cases h1:k<l.length
 ·rw[if_pos h1,YGl (l:=_++_),YGR h1,<-YGl]
  exact Yd _
 ·rw[if_neg h1,show k-l.length=0 by omega,YGl (l:=_++_),YG4 (by omega),show k-l.length=0 by omega]
  exact Yd _
theorem Yy7{m:Nat}{den:Int}{hp:List HO}{r:List SV->List SV}:
 lsP 2 enc2 1 2 (fun k=>Ybu false hp r (YL 2 (YG (k*2) [SV.int .i64 ((m:Nat):Int),SV.int .i64 (-den)]))) [((m:Int), -den)]:=by
 refine⟨rfl,rfl,fun k hk=>?_⟩
 obtain rfl:k=0:=by omega
 exact Yd _
theorem Yk9{l:List (Int×Int)}{s den:Int}{i k a b:Nat}(hk:k<l.length+1):leL a b (if k<l.length then [SV.int IntKind.i64 (l.getD k default).fst,SV.int IntKind.i64 (l.getD k default).snd]else Yj i (YL 2 (YG ((k-l.length)*2) [SV.int IntKind.i64 s,SV.int IntKind.i64 den]))) (if k<l.length then [SV.int IntKind.i64 (l.getD k default).fst,SV.int IntKind.i64 (l.getD k default).snd]else Yj i (YL 2 (YG ((k-l.length)*2) [SV.int IntKind.i64 s,SV.int IntKind.i64 den]))):=Ysz hk
theorem Yla{s den:Int}{i k a b:Nat}(hk:k<1):leL a b (Yj i (YL 2 (YG (k*2) [SV.int IntKind.i64 s,SV.int IntKind.i64 den]))) (Yj i (YL 2 (YG (k*2) [SV.int IntKind.i64 s,SV.int IntKind.i64 den]))):=Yvh hk
theorem YpY{l:List (Int×Int)}{s den:Int}{hp:List HO}{r:List SV->List SV}{i:Nat}:
 lsP 2 enc2 (l.length+1) 2 (fun k=>Ybu false hp r (if k<l.length then [SV.int IntKind.i64 (l.getD k default).fst,SV.int IntKind.i64 (l.getD k default).snd]else Yj i (YL 2 (YG ((k-l.length)*2) [SV.int IntKind.i64 s,SV.int IntKind.i64 den])))) (l++[(s,den)]):=by
 refine⟨rfl,by simp,fun k hk=>?_⟩
 dsimp only
 by_cases h1:k<l.length
 ·rw[if_pos h1,YGl (l:=_++_),YGR h1,<-YGl]
  exact Yd _
 ·rw[if_neg h1,show k-l.length=0 by omega,YGl (l:=_++_),YG4 (by omega),show k-l.length=0 by omega]
  exact Yd _
theorem rPower_ok:rPowerC.ok YGc 45:=by
 refine Yb Tryz.func45 YFd YBv 800 rPowerC fun args k h=>?_
 simp only[rPowerC]at h
 split at h
 ·rename_i s tt z n sz get den
  obtain⟨l,⟨⟨rfl,rfl,hg⟩,hl,hn,hn1,hs,hd,htop,hpth⟩,h⟩:=h
  refine⟨[.int .i64 s,.vs tt z l.length 2 (fun k=>enc2 (l.getD k default)),.int .i64 den],⟨⟨rfl,rfl⟩,⟨id,rfl,rfl,rfl,hg⟩,⟨rfl,rfl⟩,trivial⟩,?_⟩
  (try dsimp only[v45,Ytf,Ymr,Yms,chkTC,belowC,sumsC,natS,enc2,go_sem,reduceIte])
  (try simp only[Yc,YGa,YF9,reduceCtorEq,YF8])
  have hnd:IntKind.i64.wrap (0-den)= -den:=by rw[YGd _ (by omega)];omega
  have hchk:YiL l=0:=by
   have:l.any okT0=false:=by rw[List.any_eq_false];exact fun x hx=>by rw[hl x hx];decide
   rw[YiL,if_neg (by omega),if_neg (by rw[this];decide)]
  refine⟨l,⟨⟨rfl,rfl,fun k _=>Yd _⟩,by omega⟩,fun hh=>absurd hchk hh,fun _=>⟨fun hh=>?_,fun _=>?_⟩⟩
  ·rw[decide_eq_false (by omega:¬den<1),decide_eq_false (by omega:¬1000000<den),decide_eq_false (by omega:¬s<1),decide_eq_false (by omega:¬1000000000000<s)]at hh
   cases hh
  ·simp only[YHu,YG7,if_false,Nat.sub_zero]
   obtain⟨all,hall⟩:∃all,all=l++[(s,den)]:=⟨_,rfl⟩
   have hok:∀x,x∈all->okT x:=by
    intro x hx
    rw[hall,YGT,YGU]at hx
    rcases hx with hx|rfl
    ·have:=hl x hx
     unfold okT0 at this
     simp only[YG8,decide_eq_false_iff_not]at this
     unfold okT
     omega
    ·simp only[okT];omega
   have hlen:all.length=l.length+1:=by rw[hall];simp
   rw[<-hall]at h htop hpth
   have hat:∀kk:Int,1<=kk->kk<=1000000000001->∀x,x∈atF all den kk->okT x:=by
    intro kk k1 k2 x hx
    unfold atF at hx
    rw[YGT,YGU]at hx
    rcases hx with hx|rfl
    ·exact hok x hx
    ·simp only[okT];omega
   have hsgn:∀kk:Nat,(0<=sgn (atF all den kk)↔tstR all den kk=true):=fun kk=>by
    unfold sgn tstR
    rw[decide_eq_true_eq]
    split
    ·constructor
     ·intro _;omega
     ·intro _;decide
    ·split
     ·constructor
      ·intro hh;exact absurd hh (by decide)
      ·intro _;omega
     ·constructor
      ·intro _;omega
      ·intro _;decide
   obtain⟨R,hR⟩:∃R,R=powR all den:=⟨_,rfl⟩
   rw[<-hR]at h
   have b1:=S_nl (p:=30) (g:=lo 30) (fun n h1 h2=>lo_b h1 h2) hok (by omega) (by decide)
   have b2:=S_nl (p:=30) (g:=hi 30) (fun n h1 h2=>hi_b h1 h2) hok (by omega) (by decide)
   refine⟨by decide,by unfold YP;omega,by decide,⟨by unfold YP;omega,fun k hk=>?_⟩,all,⟨hall▸YvI,hok,by omega,by decide,hd,htop.1⟩,fun hc=>?_,fun hc=>⟨all,30,⟨hall▸YvI,hok,by omega,rfl,by decide,by decide⟩,fun y1 y2 y3 y4=>⟨by decide,by decide,by decide,by decide,?_⟩⟩⟩
   ·obtain rfl:k=0:=by omega
    exact⟨rfl,trivial,trivial,trivial⟩
   ·have:=(hsgn 1000000000001).1 hc
    rw[htop.2]at this;cases this
   ·refine Loop.keep [2,7,0,0] (Nat×Nat×Nat) (fun s=>[(13,.int .i64 s.2.1),(14,.int .i64 s.2.2)]) (fun _=>[]) [] (fun s=>PthG (fun k=>Dec (atF all den k)) (tstR all den) s.1 s.2.1 s.2.2/\bisN (tstR all den) s.1 s.2.1 s.2.2=R/\s.2.1<s.2.2/\s.2.2<=1000000000001) (fun s=>s.1) ?_ ?_
    ·refine⟨(41,0,1000000000001),⟨hpth,hR.symm,by decide,by decide⟩,?_⟩
     (try dsimp only[go_sem,reduceIte])
     simp only[Ya]
     refine⟨by simp,fun k hk=>?_,fun k hk=>Yla hk⟩
     exact Yk9 hk
    ·rintro⟨f,lo',hi'⟩ ⟨hp,hb,hlt,hle⟩
     dsimp only at hp hb hlt hle
     (try dsimp only[Ymr,Yms,Ytg,Yth,belowC,sumsC,orderC,addC,natS,enc2,YGb,YHw,Int.toNat_one,YHC,go_sem,reduceIte])
     (try simp only[Yc,YGa,YF9,reduceCtorEq,YF8])
     have ed:IntKind.i64.wrap ((hi':Int)-(lo':Int))=(hi':Int)-(lo':Int):=YGd _ (by omega)
     have em:IntKind.i64.wrap ((IntKind.i64.wrap ((lo':Int)+(hi':Int))).tdiv 2)=(((lo'+hi')/2:Nat):Int):=by
      have e1:IntKind.i64.wrap ((lo':Int)+(hi':Int))=((lo'+hi':Nat):Int):=by rw[YGd _ (by omega)];omega
      have e2:(((lo'+hi':Nat):Int)).tdiv 2=(((lo'+hi')/2:Nat):Int):=YHh (y:=2) rfl rfl
      rw[e1,e2,YGd _ (by omega)]
     rw[ed,em,hnd]
     refine⟨fun hcd=>?_,fun hcd=>?_⟩
     ·obtain⟨g,rfl⟩:∃g,f=g+1:=by
       cases f with
       |zero=>have hp:hi'<=lo'+1:=hp;omega
       |succ g=>exact⟨g,rfl⟩
      rcases hp with hp| ⟨hP,hp⟩
      ·omega
      rw[bisN,if_neg (by omega)]at hb
      obtain⟨m,hm⟩:∃m,m=(lo'+hi')/2:=⟨_,rfl⟩
      rw[<-hm]at hP hp hb⊢
      have hmr:lo'<m/\m<hi':=by omega
      have hpok:∀x,x∈ [((m:Int), -den)]->okT x:=by
       intro x hx
       rw[YGU]at hx
       subst hx;simp only[okT];omega
      have c1:=S_nl (p:=30) (g:=lo 30) (fun n h1 h2=>lo_b h1 h2) hpok (Nat.le_add_left 1 19) (by decide)
      have c2:=S_nl (p:=30) (g:=hi 30) (fun n h1 h2=>hi_b h1 h2) hpok (Nat.le_add_left 1 19) (by decide)
      have hatm:=hat (m:Int) (by omega) (by omega)
      have hal:(atF all den (m:Int)).length<=20:=by unfold atF;rw[YHg,List.length_singleton];omega
      have d1:=S_nl (p:=30) (g:=lo 30) (fun n h1 h2=>lo_b h1 h2) hatm hal (by decide)
      have d2:=S_nl (p:=30) (g:=hi 30) (fun n h1 h2=>hi_b h1 h2) hatm hal (by decide)
      have eu:∀G:Nat->Nat,upS G (atF all den (m:Int))=upS G all:=fun G=>by
       unfold atF
       rw[(YpG G _ _).1,upS,upS]
       rw[if_pos (show(-den:Int)<0 by omega)]
       omega
      have edn:∀G:Nat->Nat,dnS G (atF all den (m:Int))=dnS G all+dnS G [((m:Int), -den)]:=fun G=>by
       unfold atF
       rw[(YpG G _ _).2]
      rw[edn]at d1 d2
      obtain⟨o1,o2,o3,o4⟩:=Yia (p:=30) hatm
      have hord:ordR (atF all den (m:Int)) 30=(if dnS (hi 30) all+dnS (hi 30) [((m:Int), -den)] <upS (lo 30) all then 1 else if upS (hi 30) all<dnS (lo 30) all+dnS (lo 30) [((m:Int), -den)]then -1 else 0):=by
       unfold ordR
       rw[eu,eu,edn,edn]
      refine⟨by decide,by decide,[((m:Int), -den)],30,⟨Yy7,hpok,rfl,by decide,by decide⟩,fun w1 w2 w3 w4=>⟨by decide,by decide,by decide,by decide,by decide,by decide,by decide,by decide,by decide,by decide,by decide,by decide,dnS (lo 30) all,dnS (lo 30) [((m:Int), -den)],⟨Ye (by omega),Ye (by omega),by omega,by omega⟩,dnS (hi 30) all,dnS (hi 30) [((m:Int), -den)],⟨Ye (by omega),Ye (by omega),by omega,by omega⟩,upS (lo 30) all,upS (hi 30) all,dnS (lo 30) all+dnS (lo 30) [((m:Int), -den)],dnS (hi 30) all+dnS (hi 30) [((m:Int), -den)],⟨⟨Ye (by omega),rfl⟩,⟨Ye (by omega),rfl⟩,⟨Ye (by omega),rfl⟩,⟨Ye (by omega),rfl⟩⟩,?_⟩⟩
      rw[<-hord]
      have stT:tstR all den m=true->PthG (fun k=>Dec (atF all den (k:Int))) (tstR all den) g m hi'/\bisN (tstR all den) g m hi'=R:=fun hh=>by
       rw[if_pos hh]at hp hb;exact⟨hp,hb⟩
      have stF:tstR all den m=false->PthG (fun k=>Dec (atF all den (k:Int))) (tstR all den) g lo' m/\bisN (tstR all den) g lo' m=R:=fun hh=>by
       rw[if_neg (by rw[hh];decide)]at hp hb;exact⟨hp,hb⟩
      have hsm:=hsgn m
      have sF:¬0<=sgn (atF all den (m:Int))->tstR all den m=false:=fun hh=>by
       cases hq:tstR all den m with
       |false=>rfl
       |true=>exact absurd (hsm.2 hq) hh
      have oT:¬ordR (atF all den (m:Int)) 30=0->0<=ordR (atF all den (m:Int)) 30->tstR all den m=true:=fun h1 h2=>by
       have:ordR (atF all den (m:Int)) 30=1:=by omega
       exact decide_eq_true (YHn (o1 this))
      have oF:¬0<=ordR (atF all den (m:Int)) 30->tstR all den m=false:=fun h2=>by
       have:ordR (atF all den (m:Int)) 30= -1:=by omega
       have:=o2 this
       exact decide_eq_false (by omega)
      refine⟨fun e=>⟨all,⟨hall▸YpY,hok,by omega,⟨by omega,by omega⟩,hd,hP⟩,fun e2=>?_,fun e2=>?_⟩,fun e=>⟨fun e2=>?_,fun e2=>?_⟩⟩
      ·obtain⟨u1,u2⟩:=stT (hsm.1 e2)
       refine⟨(g,m,hi'),⟨u1,u2,by simp only;omega,hle⟩,by simp only;omega,?_⟩
       simp only[Ya]
       exact⟨by simp,fun k hk=>Yk9 hk,fun k hk=>Yla hk⟩
      ·obtain⟨u1,u2⟩:=stF (sF e2)
       refine⟨(g,lo',m),⟨u1,u2,by simp only;omega,by simp only;omega⟩,by simp only;omega,?_⟩
       simp only[Ya]
       exact⟨by simp,fun k hk=>Yk9 hk,fun k hk=>Yla hk⟩
      ·obtain⟨u1,u2⟩:=stT (oT e e2)
       refine⟨(g,m,hi'),⟨u1,u2,by simp only;omega,hle⟩,by simp only;omega,?_⟩
       simp only[Ya]
       exact⟨by simp,fun k hk=>Yk9 hk,fun k hk=>Yla hk⟩
      ·obtain⟨u1,u2⟩:=stF (oF e2)
       refine⟨(g,lo',m),⟨u1,u2,by simp only;omega,by simp only;omega⟩,by simp only;omega,?_⟩
       simp only[Ya]
       exact⟨by simp,fun k hk=>Yk9 hk,fun k hk=>Yla hk⟩
     ·have hRl:R=lo':=by
       rw[<-hb]
       cases f with
       |zero=>rfl
       |succ g=>rw[bisN,if_pos (by omega)]
      subst hRl
      have hdR:0<R->Dec (atF all den (R:Int)):=fun hh=>by
       have:=(YeP 41 0 1000000000001 (by decide) hpth).1
       rw[show bisN (tstR all den) 41 0 1000000000001=R from hR.symm]at this
       rcases this with h0|h0
       ·omega
       ·exact h0.1
      refine⟨all,fun h0=>⟨hall▸YpY,hok,by omega,⟨by omega,by omega⟩,hd,hdR (by omega)⟩,?_⟩
      have hz:decide (sgn (atF all den (R:Int))=0)=decide (upP (atF all den (R:Int))=dnP (atF all den (R:Int))):=by
       rw[decide_eq_decide]
       unfold sgn
       split
       ·constructor
        ·intro hh;exact absurd hh (by decide)
        ·intro _;omega
       ·split
        ·constructor
         ·intro hh;exact absurd hh (by decide)
         ·intro _;omega
        ·constructor
         ·intro _;omega
         ·intro _;rfl
      have hz2:decide ((0:Int)<(R:Int))=decide (0<R):=by rw[decide_eq_decide];omega
      rw[hz,hz2]
      exact YmS h
 ·exact h.1.elim
end Go.Proofs.YtmiclogmkfobgaaGreat.Q
namespace Go.Proofs.YtmiclogmkfobgaaGreat
open Go Go.Vx
set_option maxRecDepth 100000
set_option maxHeartbeats 4000000
def v82:VF:=⟨58,[.tmp 2],(ZR [Zi 2 0] (.seq (ZR [Zi 3 0] (.block 0 (.loop (.seq (ZR [Zm 5 3,Zm 6 0,Zl 7 6,Zr 8 .lss 5 7] (ZC 8 .skip (.exit 0))) (.seq (.block 1 (ZR [Zm 11 0,Zm 12 3,Zx 13 2 11 12,Za 14 0 13,Zf 15 1 14,Zq 16 .lss 15 (-4611686018427387904),Zm 17 16,Zg 18 17 false 0,Zg 19 17 false 3,u2 20 17 false (.idxAddr 2) [.tm 18,.tm 19],Zj 21 17 false 0 20,Zh 22 17 false 1 21,u2 23 17 false (.cmp .gtr) [.tm 22,.cn (.int .i64 4611686018427387904)],u1 24 .or [.tm 17,.tm 23],Zm 25 24,Zg 26 25 false 0,Zg 27 25 false 3,u2 28 25 false (.idxAddr 2) [.tm 26,.tm 27],Zj 29 25 false 1 28,Zh 30 25 false 1 29,u2 31 25 false (.cmp .lss) [.tm 30,.cn (.int .i64 (-4611686018427387904))],u1 32 .or [.tm 25,.tm 31],Zm 33 32,Zg 34 33 false 0,Zg 35 33 false 3,u2 36 33 false (.idxAddr 2) [.tm 34,.tm 35],Zj 37 33 false 1 36,Zh 38 33 false 1 37,u2 39 33 false (.cmp .gtr) [.tm 38,.cn (.int .i64 4611686018427387904)],u1 40 .or [.tm 33,.tm 39]] (ZC 40 (ZR [Zi 2 7] .ret) .skip))) (.region [Zm 9 3,Zp 10 9 1,Zm 3 10])))))) (.seq (ZR [Zi 4 0] (.block 2 (.loop (.seq (ZR [Zm 41 4,Zm 42 0,Zl 43 42,Zr 44 .lss 41 43] (ZC 44 .skip (.exit 2))) (.seq (.block 3 (.seq (.draw [] [Zu 47 0,Zu 48 4,ZX 49 2 47 48,Zy 50 0 49,Zv 51 1 50,Zu 52 0,Zu 53 4,ZX 54 2 52 53,Zy 55 1 54,Zv 56 1 55,w1 57 (.cmp .gtr) [.tm 51,.tm 56]]) (ZC 57 (ZR [Zi 2 2] .ret) .skip))) (.region [Zm 45 4,Zp 46 45 1,Zm 4 46])))))) (ZR [Zi 2 0] .ret))))⟩
theorem YFM:Yg YGc Tryz.f82=some v82:=by kernel_rfl
def v50:VF:=⟨6,[.tmp 2],(ZR [u1 1 .box [.tm 0],Zi 2 0] (ZR [Zt 3 2 1,u1 4 (.buildSlice 2 1 [(.int .i64 0),(.int .i64 0)] [(0,2)]) [.tm 3],Zc 5 82 4,Zm 2 5] .ret))⟩
theorem YFi:Yg YGc Tryz.f50=some v50:=by kernel_rfl
theorem YDk{a b:Int}:(decide (a< -4611686018427387904) || decide (4611686018427387904<a) || decide (b< -4611686018427387904) || decide (4611686018427387904<b))= !(Ybg a&&Ybg b):=by
 rw[YHz]
 simp only[Ybg,YG6,decide_eq_true_eq,YGA,YGZ,decide_eq_false_iff_not]
 omega
theorem YzD:ivlC.ok YGc 82:=by
 refine Yb Tryz.func82 YFM Yo4 400 ivlC fun args k h=>?_
 simp only[ivlC]at h
 split at h
 ·rename_i tt z n sz get
  obtain⟨l,⟨⟨rfl,rfl,hg⟩,hmax⟩,h⟩:=h
  refine⟨[.vs tt z l.length 2 (fun k=>enc2 (l.getD k default))],by simpa [leL,le]using hg,?_⟩
  (try dsimp only[v82,enc2,go_sem,reduceIte])
  (try simp only[Yc,YGa,YF9,reduceCtorEq,YF8])
  refine Loop.keep [0,2] Nat (fun i=>[(3,.int .i64 i)]) (fun _=>[]) [] (fun i=>i<=l.length/\∀j,j<i->(Ybg (l.getD j default).1&&Ybg (l.getD j default).2)=true) (fun i=>l.length-i) ?_ ?_
  ·refine⟨0,⟨YHk _,fun j h=>by omega⟩,?_⟩
   (try dsimp only[go_sem,reduceIte])
   simp only[Ya]
   simp
  ·rintro i ⟨hi,ha⟩
   (try dsimp only[enc2,YGb,go_sem,reduceIte])
   (try simp only[Yc,YGa,YF9,reduceCtorEq,YF8])
   simp only[YDk]
   refine⟨fun hlt=>⟨⟨by omega,hlt⟩,fun _=>⟨by omega,hlt⟩,fun _=>⟨by omega,hlt⟩,fun _=>⟨by omega,hlt⟩,fun hb=>Yf ?_,fun hb=>?_⟩,fun hge=>?_⟩
   ·have e:=Yrf (l:=l) (i:=i) (by omega) (by rw[YGA]at hb;exact hb)
    rw[e]at h;exact h
   ·refine⟨i+1,⟨by omega,fun j hj=>?_⟩,by omega,?_⟩
    ·rcases YGz j i with h'|h'
     ·exact ha j h'
     ·obtain rfl:j=i:=by omega
      simpa using hb
    ·have hw:=Yed (i:=i) (n:=l.length) (by omega) (by omega)
     simp only[hw,Ya] <;> simp
   ·obtain rfl:i=l.length:=by omega
    refine Loop.keep [0,3] Nat (fun i=>[(4,.int .i64 i)]) (fun _=>[]) [] (fun i=>i<=l.length/\∀j,j<i->(l.getD j default).1<=(l.getD j default).2) (fun i=>l.length-i) ?_ ?_
    ·refine⟨0,⟨YHk _,fun j h=>by omega⟩,?_⟩
     (try dsimp only[go_sem,reduceIte])
     simp only[Ya]
     simp
    ·rintro i ⟨hi,hc⟩
     (try dsimp only[enc2,YGb,go_sem,reduceIte])
     (try simp only[Yc,YGa,YF9,reduceCtorEq,YF8])
     refine⟨fun hlt=>⟨⟨by omega,hlt⟩,⟨by omega,hlt⟩,fun hb=>Yf ?_,fun hb=>?_⟩,fun hge=>?_⟩
     ·have e:=YCP ha (i:=i) (by omega) (by omega)
      rw[e]at h;exact h
     ·refine⟨i+1,⟨by omega,fun j hj=>?_⟩,by omega,?_⟩
      ·rcases YGz j i with h'|h'
       ·exact hc j h'
       ·obtain rfl:j=i:=by omega
        omega
      ·have hw:=Yed (i:=i) (n:=l.length) (by omega) (by omega)
       simp only[hw,Ya] <;> simp
     ·obtain rfl:i=l.length:=by omega
      rw[YCO ha hc]at h
      exact Yf h
 ·exact h.1.elim
def Q0:Env:={ ct:=fun n=>match n with|82=>some ivlC|_=>none,fn:=fun _=>none,meth:=fun _ _=>none}
theorem YwQ:Q0.ct 82=some ivlC:=rfl
theorem Yte:Yq YGc Q0:=by
 refine⟨fun f c h=>?_,fun f vf h=>?_,(fun _ _ _ h=>by cases h),by kernel_rfl,(fun _ h=>by cases h)⟩
 ·simp only[Q0]at h
  split at h
  ·cases h;exact⟨YzD,Tryz.f82,Tryz.func82,by kernel_rfl,by kernel_rfl⟩
  ·cases h
 ·cases h
theorem Yk4:iv1C.ok YGc 50:=by
 refine Yb Tryz.func50 YFi Yte 100 iv1C fun args k h=>⟨args,?_⟩
 simp only[iv1C]at h
 split at h
 ·rename_i x y
  refine⟨by simp [leL,le],?_⟩
  (try dsimp only[v50,YwQ,ivlC,go_sem,reduceIte])
  (try simp only[Yc,YGa,YF9,reduceCtorEq,YF8])
  refine⟨by decide,[(x,y)],⟨⟨rfl,rfl,fun k hk=>?_⟩,by simp⟩,Yf h⟩
  match k,hk with
  |0,_=>exact Yd _
 ·exact h.1.elim
theorem YlV{a1 a2 x:Int}(y:Int)(h1:a1<=x)(h2:x<=a2):min (a1*y) (a2*y)<=x*y/\x*y<=max (a1*y) (a2*y):=by
 rcases Int.le_total 0 y with hy|hy
 ·have:=YGE h1 hy
  have:=YGE h2 hy
  omega
 ·have:=Int.mul_le_mul_of_nonpos_right h1 hy
  have:=Int.mul_le_mul_of_nonpos_right h2 hy
  omega
def lo4(a b c d:Int):Int:=min (min a b) (min c d)
def hi4(a b c d:Int):Int:=max (max a b) (max c d)
theorem YyX{a1 a2 b1 b2 x y:Int}(h1:a1<=x)(h2:x<=a2)(h3:b1<=y)(h4:y<=b2):
 lo4 (a1*b1) (a1*b2) (a2*b1) (a2*b2)<=x*y/\x*y<=hi4 (a1*b1) (a1*b2) (a2*b1) (a2*b2):=by
 have e1:=YlV y h1 h2
 have e2:=YlV a1 h3 h4
 have e3:=YlV a2 h3 h4
 rw[Int.mul_comm b1 a1,Int.mul_comm b2 a1,Int.mul_comm y a1]at e2
 rw[Int.mul_comm b1 a2,Int.mul_comm b2 a2,Int.mul_comm y a2]at e3
 unfold lo4 hi4
 omega
theorem YrM{a b M N:Int}(h1: -M<=a/\a<=M)(h2: -N<=b/\b<=N): -(M*N)<=a*b/\a*b<=M*N:=by
 have e:=YyX h1.1 h1.2 h2.1 h2.2
 simp only[lo4,hi4,Int.neg_mul,Int.mul_neg,Int.neg_neg]at e
 have:0<=M*N:=YHv (by omega) (by omega)
 omega
theorem Yss{t:Int}(h: -4611686018427387904<=t/\t<=4611686018427387904):rndB t=(t,true):=by rw[rndB,if_pos h]
theorem Yvn{s t:Int}:Ybh (s,true) (t,true)=((s,t),0):=rfl
theorem Yi4{x y x' y':Int}(hy:0<y)(hy':0<y')(h:x*y'<=x'*y):x/y<=x'/y':=by
 rw[Int.le_ediv_iff_mul_le hy']
 have e:=Int.ediv_mul_le x (show y≠0 by omega)
 have e2:=YGE e (show 0<=y' by omega)
 refine Int.le_of_mul_le_mul_right ?_ hy
 have e3:x/y*y*y'=x/y*y'*y:=by rw[Int.mul_assoc,Int.mul_comm y,<-Int.mul_assoc]
 omega
def lowQ(a b:Iv):Int:=a.1/(if a.1<0 then b.1 else b.2)
def YlP(a b:Iv):Int:= -((-a.2)/(if a.2<0 then b.2 else b.1))
theorem YyS{a b:Iv}:lowQ a b=a.1/b.1\/lowQ a b=a.1/b.2:=by
 unfold lowQ;split
 ·exact Or.inl rfl
 ·exact Or.inr rfl
theorem YuB{a b:Iv}:YlP a b= -((-a.2)/b.1)\/YlP a b= -((-a.2)/b.2):=by
 unfold YlP;split
 ·exact Or.inr rfl
 ·exact Or.inl rfl
theorem Yu3{x y M:Int}(hx: -M<=x/\x<=M)(hy:0<y): -M<=x/y/\x/y<=M:=by
 have h:=Int.mul_le_mul_of_nonneg_left (show 1<=y by omega) (show 0<=M by omega)
 have e1:=Yi4 (x:= -M) (y:=1) (x':=x) (y':=y) (by omega) hy (by rw[Int.neg_mul];omega)
 have e2:=Yi4 (x:=x) (y:=y) (x':=M) (y':=1) hy (by omega) (by omega)
 rw[Int.ediv_one]at e1 e2
 exact⟨e1,e2⟩
theorem Yjv{x y:Int}(hx: -2147483648<=x/\x<=2147483648)(hy:0<y): -2147483648<=x/y/\x/y<=2147483648:=by
 have e1:=Yi4 (x:= -2147483648) (y:=1) (x':=x) (y':=y) (by omega) hy (by omega)
 have e2:=Yi4 (x:=x) (y:=y) (x':=2147483648) (y':=1) hy (by omega) (by omega)
 rw[Int.ediv_one]at e1 e2
 exact⟨e1,e2⟩
theorem div_pos{a b:Iv}(ha: -2147483648<=a.1/\a.1<=a.2/\a.2<=2147483648)(hb:0<b.1)(hb':b.1<=b.2):YgL a b=((lowQ a b,YlP a b),0):=by
 have q1: -2147483648<=lowQ a b/\lowQ a b<=2147483648:=by
  rcases YyS (a:=a) (b:=b)with e|e <;> rw[e]
  ·exact Yjv (by omega) (by omega)
  ·exact Yjv (by omega) (by omega)
 have q2: -2147483648<=YlP a b/\YlP a b<=2147483648:=by
  rcases YuB (a:=a) (b:=b)with e|e <;> rw[e]
  ·have:=Yjv (x:= -a.2) (y:=b.1) (by omega) (by omega);omega
  ·have:=Yjv (x:= -a.2) (y:=b.2) (by omega) (by omega);omega
 have e1:rndF false a.1 (if a.1<0 then b.1 else b.2)=rndB (lowQ a b):=rfl
 have e2:rndF true a.2 (if a.2<0 then b.2 else b.1)=rndB (YlP a b):=rfl
 rw[YgL,e1,e2,Yss (by omega),Yss (by omega),Yvn]
def neg(a:Iv):Iv:=(-a.2, -a.1)
def v53:VF:=⟨16,[.cell 2 true 3],(ZR [u1 2 (.alloc [(.bool false),.nil,.nil]) []] (.seq (ZR [Zm 3 0,Zq 4 .lss 3 0] (ZC 4 (ZR [Zm 5 0,u1 6 .neg [.tm 5],u1 7 (.conv .u64) [.tm 6],Zc 8 86 7,u1 9 (.call 86) [.cn (.int .u64 1)],u1 10 (.build [(.bool false),.nil,.nil] [(0,1),(1,1),(2,1)]) [.cn (.bool true),.tm 8,.tm 9],Zs 3 2 10] .ret) .skip)) (ZR [Zm 11 0,u1 12 (.conv .u64) [.tm 11],Zc 13 86 12,u1 14 (.call 86) [.cn (.int .u64 1)],u1 15 (.build [(.bool false),.nil,.nil] [(1,1),(2,1)]) [.tm 13,.tm 14],Zs 3 2 15] .ret)))⟩
theorem YFl:Yg YGc Tryz.f53=some v53:=by kernel_rfl
def v54:VF:=⟨16,[.cell 4 true 3],(ZR [u1 4 (.alloc [(.bool false),.nil,.nil]) []] (ZR [Zm 8 0,Zc 9 53 8,Zm 10 1,Zc 11 53 10,Zd 12 87 9 11,Zm 7 12,Ze 13 0 7,Ze 14 1 7,u1 5 (.alloc [(.bool false),.nil,.nil]) [],Zs 3 5 13,Zm 6 14] (ZR [Zt 15 3 5,Zs 3 4 15] .ret)))⟩
theorem YFm:Yg YGc Tryz.f54=some v54:=by kernel_rfl
def v84:VF:=⟨32,[.tmp 2,.tmp 3],(ZR [u1 1 .box [.tm 0],Zi 2 0,u1 3 .mov [.cn (.bool false)]] (ZR [Zt 10 3 1,Zc 11 111 10,Zm 9 11,Ze 12 0 9,Ze 13 1 9,Ze 14 2 9,Zm 4 12,Zm 5 13,Zm 6 14] (ZR [Zm 16 5,Zc 17 112 16,Zm 15 17,Ze 18 0 15,Ze 19 1 15,Zm 7 18,Zm 8 19] (.seq (ZR [Zm 20 8,Zq 21 .neq 20 0,Zm 22 21,Zg 23 22 false 7,u2 24 22 false (.cmp .gtr) [.tm 23,.cn (.int .u64 4611686018427387904)],u1 25 .or [.tm 22,.tm 24]] (ZC 25 (ZR [Zi 2 0,u1 3 .mov [.cn (.bool false)]] .ret) .skip)) (.seq (ZR [Zm 26 4] (ZC 26 (ZR [Zm 27 7,u1 28 (.conv .i64) [.tm 27],u1 29 .neg [.tm 28],Zm 2 29,u1 3 .mov [.cn (.bool true)]] .ret) .skip)) (ZR [Zm 30 7,u1 31 (.conv .i64) [.tm 30],Zm 2 31,u1 3 .mov [.cn (.bool true)]] .ret))))))⟩
theorem YFO:Yg YGc Tryz.f84=some v84:=by kernel_rfl
def v85:VF:=⟨27,[.tmp 2,.tmp 3],(ZR [u1 1 .box [.tm 0],Zi 2 0,u1 3 .mov [.cn (.bool false)]] (ZR [Za 7 0 1,Zf 8 1 7,u1 9 .not [.tm 8],Zm 10 9,Zj 11 10 true 1 1,Zh 12 10 true 1 11,u2 13 10 true .len [.tm 12],u2 14 10 true (.cmp .gtr) [.tm 13,.cn (.int .i64 0)],u1 15 .and [.tm 10,.tm 14],Za 16 1 1,Zf 17 1 16,Za 18 2 1,Zf 19 1 18,u1 20 (.build [(.bool false),.nil,.nil] [(0,1),(1,1),(2,1)]) [.tm 15,.tm 17,.tm 19],Zc 21 84 20,Zm 6 21,Ze 22 0 6,Ze 23 1 6,Zm 4 22,Zm 5 23] (ZR [Zm 24 4,u1 25 .neg [.tm 24],Zm 26 5,Zm 2 25,Zm 3 26] .ret)))⟩
theorem YFP:Yg YGc Tryz.f85=some v85:=by kernel_rfl
def v51:VF:=⟨75,[.cell 2 true 2,.tmp 3],(ZR [Zn 2,Zi 3 0] (.seq (.draw [(4,.box [(.bool false),.nil,.nil]),(5,.box [(.bool false),.nil,.nil])] [Zu 13 0,w1 14 (.idxAddr 3) [.tm 13,.cn (.int .i64 0)],Zw 15 3 14,Zu 16 0,w1 17 (.idxAddr 3) [.tm 16,.cn (.int .i64 0)],Zw 18 3 17,⟨Zs 3 4 15,[.tm 17]⟩,ZS 3 5 18]) (.seq (ZR [Zi 6 1] (.block 0 (.loop (.seq (ZR [Zm 19 6,Zm 20 0,Zl 21 20,Zr 22 .lss 19 21] (ZC 22 .skip (.exit 0))) (.seq (.block 1 (.seq (.draw [] [Zu 26 0,Zu 27 6,ZX 28 3 26 27,Zw 29 3 28,Zw 30 3 4,Zz 31 83 29 30,Zu 25 31,ZE 32 0 25,ZE 33 1 25,Zu 7 32,Zu 8 33]) (.seq (ZR [Zm 34 7,Zq 35 .lss 34 0] (ZC 35 (.region [Zm 36 0,Zm 37 6,Zx 38 3 36 37,Zt 39 3 38,Zs 3 4 39]) .skip)) (.seq (.draw [] [Zu 41 0,Zu 42 6,ZX 43 3 41 42,Zw 44 3 43,Zw 45 3 5,Zz 46 83 44 45,Zu 40 46,ZE 47 0 40,ZE 48 1 40,Zu 7 47]) (ZR [Zm 49 7,Zq 50 .gtr 49 0] (ZC 50 (.region [Zm 51 0,Zm 52 6,Zx 53 3 51 52,Zt 54 3 53,Zs 3 5 54]) .skip)))))) (.region [Zm 23 6,Zp 24 23 1,Zm 6 24])))))) (ZR [Zt 56 3 4,Zc 57 84 56,Zm 55 57,Ze 58 0 55,Ze 59 1 55,Zm 9 58,Zm 10 59] (ZR [Zt 61 3 5,Zc 62 85 61,Zm 60 62,Ze 63 0 60,Ze 64 1 60,Zm 11 63,Zm 12 64] (.seq (ZR [Zm 65 10,u1 66 .not [.tm 65],Zm 67 66,Zg 68 67 false 12,u2 69 67 false .not [.tm 68],u1 70 .or [.tm 67,.tm 69]] (ZC 70 (ZR [u1 71 (.build [(.int .i64 0),(.int .i64 0)] []) [],Zs 2 2 71,Zi 3 7] .ret) .skip)) (ZR [Zm 72 9,Zm 73 11,u1 74 (.build [(.int .i64 0),(.int .i64 0)] [(0,1),(1,1)]) [.tm 72,.tm 73],Zs 2 2 74,Zi 3 0] .ret)))))))⟩
theorem YFj:Yg YGc Tryz.f51=some v51:=by kernel_rfl
theorem Ydd{p:Fr}(hd:0<p.2)(h1:p.1.natAbs<4294967296^8)(h2:p.2<4294967296^8):frOk p:=
 ⟨hd,YGg (nl_le.2 (YGN (YzN _ _) h1)) (by decide),YGg (nl_le.2 (YGN (YzG _ _) h2)) (by decide)⟩
theorem YhZ{n:Int}(h: -4611686018427387904<=n/\n<=4611686018427387904):frOk (n,1):=
 Ydd (show 0<1 by decide) (by dsimp only;omega) (show 1<4294967296^8 by decide)
theorem YEt(n:Int):rnum n 1=n.natAbs:=by simp [rnum,fg]
theorem YEp(n:Int):rden n 1=1:=by simp [rden,fg]
theorem YCF(p:Fr)(hd:0<p.2):p.1/(p.2:Int)=nsg (decide (p.1<0)) (rnum p.1 p.2)/(rden p.1 p.2:Int):=by
 have h1:=n_eq p.1 p.2
 have h2:=d_eq p.1 p.2
 have hg:0<((fg p.1 p.2:Nat):Int):=by have:=YfQ (n:=p.1) hd;omega
 conv=>lhs;rw[h1,h2]
 exact Int.mul_ediv_mul_of_pos_left _ _ hg
theorem YCE{p:Fr}(hd:0<p.2):(p.1/(p.2:Int)).natAbs<=rnum p.1 p.2:=by
 rw[YCF p hd]
 have hr:=YaY (n:=p.1) hd
 have:=Yu3 (x:=nsg (decide (p.1<0)) (rnum p.1 p.2)) (y:=(rden p.1 p.2:Int)) (M:=(rnum p.1 p.2:Int)) (by unfold nsg;split <;> omega) (by omega)
 omega
theorem Yly{k:SV->List HO->Prop}{al:Bool}{hp:List HO}{p:Fr}(h:k (.agg (encF true p)) []):YD al k (.agg (encF true p)) hp:=
 YC h (Yv _ ⟨trivial,trivial,trivial,trivial⟩) (fun _=>by simp [encF,natV,Yl,Ym])
theorem Yiz{k:SV->List HO->Prop}{al:Bool}{hp:List HO}{κ:IntKind}{x:Int}{b:Bool}(h:k (.tup [.int κ x,.bool b]) []):YD al k (.tup [.int κ x,.bool b]) hp:=
 YC h (Yv _ ⟨trivial,trivial,trivial⟩) (fun _=>by simp [Yl,Ym])
def quoiC:Ctr:={ alias:=false,of:=fun l=>match l with
 | [.int .i64 n]=> .pre (-4611686018427387904<=n/\n<=4611686018427387904) (.fin (.agg (encF true (n,1))) [])
 |_=>noC}
def ofrC:Ctr:={ alias:=false,of:=fun l=>match l with
 | [.int .i64 n,.int .i64 d]=> .pre ((-4611686018427387904<=n/\n<=4611686018427387904)/\0<d/\d<=4611686018427387904) (.fin (.agg (encF true (n,d.toNat))) [])
 |_=>noC}
def floC(up:Bool):Ctr:={ alias:=false,of:=fun l=>match l with
 | [.agg [.bool neg,.vs _ z1 n1 s1 g1,.vs _ z2 n2 s2 g2]]=> .ex Fr fun p=> .pre (YgU p neg z1 n1 s1 g1 z2 n2 s2 g2) (.fin (.tup [.int .i64 (rndF up p.1 p.2).1,.bool (rndF up p.1 p.2).2]) [])
 |_=>noC}
def floorC:=floC false
def ceilC:=floC true
def S1:Env:={ ct:=fun n=>match n with|86=>some ofC|111=>some qfloorC|112=>some smallC|_=>none,fn:=fun _=>none,meth:=fun _ _=>none}
theorem YwX:S1.ct 86=some ofC:=rfl
theorem YtS:S1.ct 111=some qfloorC:=rfl
theorem YtT:S1.ct 112=some smallC:=rfl
theorem YBN:Yq YGc S1:=by
 refine⟨fun f c h=>?_,fun f vf h=>?_,(fun _ _ _ h=>by cases h),by kernel_rfl,(fun _ h=>by cases h)⟩
 ·simp only[S1]at h
  split at h
  ·cases h;exact⟨YuW,Tryz.f86,Tryz.func86,by kernel_rfl,by kernel_rfl⟩
  ·cases h;exact⟨Ysh,Tryz.f111,Tryz.func111,by kernel_rfl,by kernel_rfl⟩
  ·cases h;exact⟨Yvm,Tryz.f112,Tryz.func112,by kernel_rfl,by kernel_rfl⟩
  ·cases h
 ·cases h
theorem Yl5:quoiC.ok YGc 53:=by
 refine Yb Tryz.func53 YFl YBN 200 quoiC fun args k h=>⟨args,?_⟩
 simp only[quoiC]at h
 split at h
 ·rename_i n
  obtain⟨hn,h⟩:=h
  refine⟨by simp [leL,le],?_⟩
  (try dsimp only[v53,YwX,ofC,natS,go_sem,reduceIte])
  (try simp only[Yc,YGa,YF9,reduceCtorEq,YF8])
  have h:k (.agg (encF true (n,1))) []:=h
  have e:encF true (n,1)=[.bool (decide (n<0)),natV true false n.natAbs,natV true false 1]:=by unfold encF;rw[YEt,YEp]
  refine⟨fun h0=>?_,fun h0=>?_⟩
  ·have w1:IntKind.u64.wrap (IntKind.i64.wrap (0-n))= -n:=by rw[YGd (0-n) (by omega),YGF _ (by omega)];omega
   have w2:(-n).toNat=n.natAbs:=by omega
   rw[w1,w2]
   refine⟨by omega,by decide,?_⟩
   have h2:=Yly (al:=quoiC.alias) (hp:=[HO.box (encF true (n,1))]) h
   rw[e,decide_eq_true h0]at h2;exact h2
  ·have w1:IntKind.u64.wrap n=n:=YGF _ (by omega)
   have w2:n.toNat=n.natAbs:=by omega
   rw[w1,w2]
   refine⟨by omega,by decide,?_⟩
   have h2:=Yly (al:=quoiC.alias) (hp:=[HO.box (encF true (n,1))]) h
   rw[e,decide_eq_false h0]at h2;exact h2
 ·exact h.1.elim
theorem YvV:floorC.ok YGc 84:=by
 refine Yb Tryz.func84 YFO YBN 200 floorC fun args k h=>?_
 simp only[floorC,ceilC,floC]at h
 split at h
 ·rename_i neg t1 z1 n1 s1 g1 t2 z2 n2 s2 g2
  obtain⟨p,hp,h⟩:=h
  refine⟨[.agg (encF false p)],⟨Yi5 hp,trivial⟩,?_⟩
  have hok:=hp.1
  clear hp
  (try dsimp only[v84,YtS,YtT,qfloorC,smallC,natS,natV,encF,go_sem,reduceIte])
  (try simp only[Yc,YGa,YF9,reduceCtorEq,YF8])
  have hN:nl (p.1/(p.2:Int)).natAbs<=512:=YGg (YbF (YCE hok.1)) hok.2.1
  have h:k (.tup [.int .i64 (rndB (p.1/(p.2:Int))).1,.bool (rndB (p.1/(p.2:Int))).2]) []:=h
  have s1:p.1<0->p.1/(p.2:Int)<0:=fun hn=>Int.ediv_neg_of_neg_of_pos hn (by have:=hok.1;omega)
  have s2:¬p.1<0->0<=p.1/(p.2:Int):=fun hn=>Int.ediv_nonneg (by omega) (by omega)
  refine⟨p,Yz hok,by decide,by decide,by decide,(p.1/(p.2:Int)).natAbs,⟨Ye (by omega),rfl,hN⟩,by decide,by decide,?_⟩
  clear hN
  generalize p.1/(p.2:Int)=q at*
  have key:(!decide ((if q.natAbs<18446744073709551616 then(0:Int)else 7)=0) || decide ((4611686018427387904:Int)<if q.natAbs<18446744073709551616 then(q.natAbs:Int)else 0))=decide (4611686018427387904<q.natAbs):=by
   by_cases hN:q.natAbs<18446744073709551616
   ·rw[if_pos hN,if_pos hN,YHz];simp only[decide_true,Bool.not_true,YHx,decide_eq_true_eq];omega
   ·rw[if_neg hN,if_neg hN,YHz];simp only[decide_eq_true_eq];simp;omega
  rw[key]
  refine⟨fun hb=>?_,fun hb=>⟨fun hn=>?_,fun hn=>?_⟩⟩
  ·rw[decide_eq_true_eq]at hb
   rw[rndB,if_neg (by omega)]at h
   exact Yiz h
  ·rw[decide_eq_false_iff_not]at hb
   have:=s1 hn
   rw[rndB,if_pos (by omega)]at h
   have w:IntKind.i64.wrap (0-IntKind.i64.wrap (if q.natAbs<18446744073709551616 then(q.natAbs:Int)else 0))=q:=by
    rw[if_pos (by omega),YGd ((q.natAbs:Int)) (by omega),YGd _ (by omega)];omega
   rw[w];exact Yiz h
  ·rw[decide_eq_false_iff_not]at hb
   have:=s2 hn
   rw[rndB,if_pos (by omega)]at h
   have w:IntKind.i64.wrap (if q.natAbs<18446744073709551616 then(q.natAbs:Int)else 0)=q:=by
    rw[if_pos (by omega),YGd _ (by omega)];omega
   rw[w];exact Yiz h
 ·exact h.1.elim
def loQ(x:Fr)(r:List Fr):Fr:=r.foldl (fun low y=>if cmpQ y.1 y.2 low.1 low.2<0 then y else low) x
def hiQ(x:Fr)(r:List Fr):Fr:=r.foldl (fun high y=>if 0<cmpQ y.1 y.2 high.1 high.2 then y else high) x
def YjH(x:Fr)(r:List Fr):Iv×Int:=Ybh (rndF false (loQ x r).1 (loQ x r).2) (rndF true (hiQ x r).1 (hiQ x r).2)
def spanqC:Ctr:={ alias:=false,of:=fun l=>match l with
 | [.vs _ _ n sz get]=> .ex Fr fun x=> .ex (List Fr) fun r=> .pre (lsP 3 (encF false) n sz get (x::r)/\(x::r).length<=1000/\∀p∈x::r,frOk p) (.fin (.tup [.agg (enc2 (YjH x r).1),.int .i64 (YjH x r).2]) [])
 |_=>noC}
def S2:Env:={ ct:=fun n=>match n with|53=>some quoiC|87=>some qdivC|84=>some floorC|_=>none,fn:=fun _=>none,meth:=fun _ _=>none}
theorem YwY:S2.ct 53=some quoiC:=rfl
theorem Yw0:S2.ct 87=some qdivC:=rfl
theorem YwZ:S2.ct 84=some floorC:=rfl
theorem YBO:Yq YGc S2:=by
 refine⟨fun f c h=>?_,fun f vf h=>?_,(fun _ _ _ h=>by cases h),by kernel_rfl,(fun _ h=>by cases h)⟩
 ·simp only[S2]at h
  split at h
  ·cases h;exact⟨Yl5,Tryz.f53,Tryz.func53,by kernel_rfl,by kernel_rfl⟩
  ·cases h;exact⟨Yzi,Tryz.f87,Tryz.func87,by kernel_rfl,by kernel_rfl⟩
  ·cases h;exact⟨YvV,Tryz.f84,Tryz.func84,by kernel_rfl,by kernel_rfl⟩
  ·cases h
 ·cases h
theorem YDm:ofrC.ok YGc 54:=by
 refine Yb Tryz.func54 YFm YBO 200 ofrC fun args k h=>⟨args,?_⟩
 simp only[ofrC]at h
 split at h
 ·rename_i n d
  obtain⟨⟨hn,hd0,hd⟩,h⟩:=h
  refine⟨by simp [leL,le],?_⟩
  (try dsimp only[v54,YwY,Yw0,quoiC,qdivC,natS,natV,encF,go_sem,reduceIte])
  (try simp only[Yc,YGa,YF9,reduceCtorEq,YF8])
  have h:k (.agg (encF true (n,d.toNat))) []:=h
  have e:divF (n,1) (d,1)=(n,d.toNat):=by
   have h1:¬d<0:=by omega
   have h2:d.natAbs=d.toNat:=by omega
   simp [divF,nsg,h1,h2]
  rw[<-e]at h
  refine⟨hn,by omega,(n,1),(d,1),⟨Yz (YhZ hn),Yz (YhZ (by omega)),by show¬d=0;omega,by rw[e];exact Ydd (by dsimp only;omega) (by dsimp only;omega) (by dsimp only;omega)⟩,by decide,by decide,?_⟩
  exact Yly h
 ·exact h.1.elim
theorem Yve(t:Int):rndB (-t)=(-(rndB t).1,(rndB t).2):=by
 unfold rndB
 by_cases h: -4611686018427387904<=t/\t<=4611686018427387904
 ·rw[if_pos h,if_pos (by omega)]
 ·rw[if_neg h,if_neg (by omega)];rfl
theorem Yvd(t:Int): -4611686018427387904<=(rndB t).1/\(rndB t).1<=4611686018427387904:=by
 unfold rndB;split
 ·assumption
 ·simp
theorem YCi:ceilC.ok YGc 85:=by
 refine Yb Tryz.func85 YFP YBO 200 ceilC fun args k h=>?_
 simp only[floorC,ceilC,floC]at h
 split at h
 ·rename_i neg t1 z1 n1 s1 g1 t2 z2 n2 s2 g2
  obtain⟨p,hp,h⟩:=h
  refine⟨[.agg (encF false p)],⟨Yi5 hp,trivial⟩,?_⟩
  have hok:=hp.1
  clear hp
  (try dsimp only[v85,YwZ,floorC,floC,natS,natV,encF,go_sem,reduceIte])
  (try simp only[Yc,YGa,YF9,reduceCtorEq,YF8])
  have t:=Yme hok.1
  have f:=Yz (YAa hok)
  rw[t.1,t.2.1,<-t.2.2]at f
  have h:k (.tup [.int .i64 (rndB (-((-p.1)/(p.2:Int)))).1,.bool (rndB (-((-p.1)/(p.2:Int)))).2]) []:=h
  rw[Yve]at h
  refine⟨Yhp p,f,by decide,by decide,?_⟩
  have e:rndF false (Yhp p).1 ((Yhp p).2:Int)=rndB ((-p.1)/(p.2:Int)):=rfl
  rw[e]
  have b:=Yvd ((-p.1)/(p.2:Int))
  rw[YGd _ (by omega),Int.zero_sub]
  exact Yiz h
 ·exact h.1.elim
def S3:Env:={ ct:=fun n=>match n with|83=>some qcmpC|84=>some floorC|85=>some ceilC|_=>none,fn:=fun _=>none,meth:=fun _ _=>none}
theorem Yw1:S3.ct 83=some qcmpC:=rfl
theorem Yw2:S3.ct 84=some floorC:=rfl
theorem Yw3:S3.ct 85=some ceilC:=rfl
theorem S3_ok:Yq YGc S3:=by
 refine⟨fun f c h=>?_,fun f vf h=>?_,(fun _ _ _ h=>by cases h),by kernel_rfl,(fun _ h=>by cases h)⟩
 ·simp only[S3]at h
  split at h
  ·cases h;exact⟨Yzh,Tryz.f83,Tryz.func83,by kernel_rfl,by kernel_rfl⟩
  ·cases h;exact⟨YvV,Tryz.f84,Tryz.func84,by kernel_rfl,by kernel_rfl⟩
  ·cases h;exact⟨YCi,Tryz.f85,Tryz.func85,by kernel_rfl,by kernel_rfl⟩
  ·cases h
 ·cases h
theorem YyN(x:Fr):∀(r:List Fr),loQ x r∈x::r:=by
 intro r
 induction r generalizing x with
 |nil=>exact YGy
 |cons a r ih=>
  have e:loQ x (a::r)=loQ (if cmpQ a.1 a.2 x.1 x.2<0 then a else x) r:=rfl
  rw[e]
  have h:=ih (if cmpQ a.1 a.2 x.1 x.2<0 then a else x)
  rcases YGK.1 h with h|h
  ·rw[h];split <;> simp
  ·simp [h]
theorem Yyq(x:Fr):∀(r:List Fr),hiQ x r∈x::r:=by
 intro r
 induction r generalizing x with
 |nil=>exact YGy
 |cons a r ih=>
  have e:hiQ x (a::r)=hiQ (if 0<cmpQ a.1 a.2 x.1 x.2 then a else x) r:=rfl
  rw[e]
  have h:=ih (if 0<cmpQ a.1 a.2 x.1 x.2 then a else x)
  rcases YGK.1 h with h|h
  ·rw[h];split <;> simp
  ·simp [h]
theorem Yob{x a:Fr}{r:List Fr}{i:Nat}(h:a∈x::r.take i):a∈x::r:=by
 rcases YGK.1 h with h|h
 ·simp [h]
 ·simp [List.mem_of_mem_take h]
theorem Yn7:spanqC.ok YGc 51:=by
 refine Yb Tryz.func51 YFj S3_ok 400 spanqC fun args k h=>?_
 simp only[spanqC]at h
 split at h
 ·rename_i tt z n sz get
  obtain⟨x,r,⟨⟨rfl,rfl,hg⟩,hmax,hall⟩,h⟩:=h
  refine⟨[.vs tt z (x::r).length 3 (fun k=>encF false ((x::r).getD k default))],⟨by simpa [le]using hg,trivial⟩,?_⟩
  (try dsimp only[v51,encF,natV,go_sem,reduceIte])
  (try simp only[Yc,YGa,YF9,reduceCtorEq,YF8])
  have hlen:((x::r).length:Int)=r.length+1:=by simp
  refine⟨⟨by decide,by omega⟩,⟨by decide,by omega⟩,?_⟩
  refine Loop.keep [0,1,0,0,0,0] Nat (fun i=>[(6,.int .i64 ((i:Int)+1))]) (fun i=>[(1,.box (encF false (loQ x (r.take i)))),(2,.box (encF false (hiQ x (r.take i))))]) [] (fun i=>i<=r.length) (fun i=>r.length-i) ?_ ?_
  ·refine⟨0,YHk _,?_⟩
   (try dsimp only[encF,natV,go_sem,reduceIte])
   simp only[Ya]
   refine⟨by simp,?_,?_⟩ <;> simp [loQ,hiQ] <;> exact⟨rfl,fun k _=>Yd _,fun k _=>Yd _⟩
  ·rintro i hi
   (try dsimp only[Yw1,Yw2,Yw3,qcmpC,floorC,ceilC,floC,encF,natV,YGb,go_sem,reduceIte])
   (try simp only[Yc,YGa,YF9,reduceCtorEq,YF8])
   have ey:(x::r).getD ((i:Int)+1).toNat default=r.getD i default:=by
    have:((i:Int)+1).toNat=i+1:=by omega
    rw[this];rfl
   simp only[ey,hlen]
   have hL:frOk (loQ x (r.take i)):=hall _ (Yob (YyN x _))
   have hH:frOk (hiQ x (r.take i)):=hall _ (Yob (Yyq x _))
   refine⟨fun hlt=>?_,fun hge=>?_⟩
   ·have hi':i<r.length:=by omega
    have hY:frOk (r.getD i default):=hall _ (YGx _ (Yk hi'))
    have eL:loQ x (r.take (i+1))=if cmpQ (r.getD i default).1 (r.getD i default).2 (loQ x (r.take i)).1 (loQ x (r.take i)).2<0 then r.getD i default else loQ x (r.take i):=Yr hi'
    have eH:hiQ x (r.take (i+1))=if 0<cmpQ (r.getD i default).1 (r.getD i default).2 (hiQ x (r.take i)).1 (hiQ x (r.take i)).2 then r.getD i default else hiQ x (r.take i):=Yr hi'
    have hw:IntKind.i64.wrap ((i:Int)+1+1)=((i+1:Nat):Int)+1:=by
     rw[YHf]at hmax
     rw[YGd _ (by omega)];omega
    have bd:0<=(i:Int)+1/\(i:Int)+1<(r.length:Int)+1:=by omega
    refine⟨bd,r.getD i default,loQ x (r.take i),⟨Yz hY,Yz hL⟩,by decide,by decide,
     fun h1=>⟨bd,bd,r.getD i default,hiQ x (r.take i),⟨Yz hY,Yz hH⟩,by decide,by decide,fun h2=>⟨bd,i+1,by omega,by omega,?_⟩,fun h2=>⟨i+1,by omega,by omega,?_⟩⟩,
     fun h1=>⟨bd,r.getD i default,hiQ x (r.take i),⟨Yz hY,Yz hH⟩,by decide,by decide,fun h2=>⟨bd,i+1,by omega,by omega,?_⟩,fun h2=>⟨i+1,by omega,by omega,?_⟩⟩⟩
    ·simp only[eL,eH,if_pos h1,if_pos h2,hw,Ya]
     simp
    ·simp only[eL,eH,if_pos h1,if_neg h2,hw,Ya]
     simp
    ·simp only[eL,eH,if_neg h1,if_pos h2,hw,Ya]
     simp
    ·simp only[eL,eH,if_neg h1,if_neg h2,hw,Ya]
     simp
   ·obtain rfl:i=r.length:=by omega
    rw[YHe]at hL hH
    rw[YHe]
    refine⟨loQ x r,Yz hL,by decide,by decide,hiQ x r,Yz hH,by decide,by decide,?_⟩
    have h:k (.tup [.agg (enc2 (YjH x r).1),.int .i64 (YjH x r).2]) []:=h
    unfold YjH Ybh at h
    refine⟨fun hb=>?_,fun hb=>?_⟩
    ·rw[if_neg (by rw[<-YHt,YGA]at hb;rw[hb];simp)]at h
     exact YF (r:=((0,0),7)) h
    ·rw[if_pos (by rw[<-YHt,YG0]at hb;exact hb)]at h
     exact YF h
 ·exact h.1.elim
theorem Ygh{n m:Int}{d:Nat}(hd:0<d):(cmpQ n d m d<0↔n<m)/\(0<cmpQ n d m d↔m<n):=by
 have h1:=YfA (x:=n) (y:=m) hd
 have h2:=YfA (x:=m) (y:=n) hd
 unfold cmpQ cmpI
 rw[<-h1,<-h2]
 generalize n*(d:Int)=N
 generalize m*(d:Int)=M
 clear h1 h2
 by_cases c1:N<M
 ·rw[if_pos c1];omega
 ·rw[if_neg c1]
  by_cases c2:M<N
  ·rw[if_pos c2];omega
  ·rw[if_neg c2];omega
theorem YyO{d:Nat}(hd:0<d)(n:Int)(r:List Int):loQ (n,d) (r.map fun m=>(m,d))=(lowI n r,d):=by
 induction r generalizing n with
 |nil=>rfl
 |cons a r ih=>
  have e:loQ (n,d) ((a::r).map fun m=>(m,d))=loQ (if cmpQ a d n d<0 then(a,d)else(n,d)) (r.map fun m=>(m,d)):=rfl
  have e2:lowI n (a::r)=lowI (if a<n then a else n) r:=rfl
  rw[e,e2,<-ih]
  by_cases h:a<n
  ·rw[if_pos ((Ygh hd).1.2 h),if_pos h]
  ·rw[if_neg (fun hh=>h ((Ygh hd).1.1 hh)),if_neg h]
theorem Yyr{d:Nat}(hd:0<d)(n:Int)(r:List Int):hiQ (n,d) (r.map fun m=>(m,d))=(Ybc n r,d):=by
 induction r generalizing n with
 |nil=>rfl
 |cons a r ih=>
  have e:hiQ (n,d) ((a::r).map fun m=>(m,d))=hiQ (if 0<cmpQ a d n d then(a,d)else(n,d)) (r.map fun m=>(m,d)):=rfl
  have e2:Ybc n (a::r)=Ybc (if n<a then a else n) r:=rfl
  rw[e,e2,<-ih]
  by_cases h:n<a
  ·rw[if_pos ((Ygh hd).2.2 h),if_pos h]
  ·rw[if_neg (fun hh=>h ((Ygh hd).2.1 hh)),if_neg h]
theorem Ylg{d:Nat}(hd:0<d)(n:Int)(r:List Int):YjH (n,d) (r.map fun m=>(m,d))=Yd9 d n r:=by
 rw[YjH,YyO hd,Yyr hd];rfl
def v26:VF:=⟨63,[.cell 6 true 2,.tmp 7],(ZR [u1 3 .box [.tm 0],Zn 6,Zi 7 0] (ZR [Zt 14 2 3,Zc 15 50 14,Zm 8 15] (.seq (ZR [Zm 16 8,Zq 17 .eql 16 0,Zm 18 17,Zg 19 18 true 2,u2 20 18 true (.cmp .lss) [.tm 19,.cn (.int .i64 1)],Zg 21 18 true 20,Zg 22 21 false 2,u2 23 21 false (.cmp .gtr) [.tm 22,.cn (.int .i64 4611686018427387904)],u2 24 18 true .or [.tm 21,.tm 23],Zg 25 18 true 24,Zg 26 25 false 1,u2 27 25 false (.cmp .lss) [.tm 26,.cn (.int .i64 (-4611686018427387904))],u2 28 18 true .or [.tm 25,.tm 27],Zg 29 18 true 28,Zg 30 29 false 1,u2 31 29 false (.cmp .gtr) [.tm 30,.cn (.int .i64 4611686018427387904)],u2 32 18 true .or [.tm 29,.tm 31],u1 33 .and [.tm 18,.tm 32]] (ZC 33 (.region [Zi 8 2]) .skip)) (.seq (ZR [Zm 34 8,Zq 35 .neq 34 0] (ZC 35 (ZR [u1 36 (.build [(.int .i64 0),(.int .i64 0)] []) [],Zm 37 8,Zs 2 6 36,Zm 7 37] .ret) .skip)) (ZR [Zm 38 1,Zm 39 2,Zd 40 54 38 39,u1 9 (.alloc [(.bool false),.nil,.nil]) [],Zs 3 9 40] (.seq (.draw [(10,.box [(.bool false),.nil,.nil])] [Zy 42 0 3,Zv 43 1 42,Zw 45 3 9,w1 44 (.call 53) [.tm 43],Zz 46 55 44 45,Zu 41 46,ZE 47 0 41,ZE 48 1 41,ZS 3 10 47,Zu 11 48]) (.seq (.draw [(12,.box [(.bool false),.nil,.nil])] [Zy 50 1 3,Zv 51 1 50,Zw 53 3 9,w1 52 (.call 53) [.tm 51],Zz 54 55 52 53,Zu 49 54,ZE 55 0 49,ZE 56 1 49,ZS 3 12 55,Zu 13 56]) (ZR [Zt 57 3 10,Zt 58 3 12,u1 59 (.buildSlice 3 2 [(.bool false),.nil,.nil] [(0,3),(3,3)]) [.tm 57,.tm 58],Zc 60 51 59,Ze 61 0 60,Ze 62 1 60,Zs 2 6 61,Zm 7 62] .ret))))))))⟩
theorem YEX:Yg YGc Tryz.f26=some v26:=by kernel_rfl
def v52:VF:=⟨39,[.tmp 2],(ZR [u1 2 .mov [.cn .nil]] (ZR [u1 3 .mov [.cn .nil]] (.seq (ZR [Zi 4 0] (.block 0 (.loop (.seq (ZR [Zm 9 4,Zm 10 0,Zl 11 10,Zr 12 .lss 9 11] (ZC 12 .skip (.exit 0))) (.seq (.block 1 (.seq (.draw [(5,.box [(.bool false),.nil,.nil])] [Zu 16 0,Zu 17 4,ZX 18 3 16 17,Zw 19 3 18,w1 20 (.call 54) [.cn (.int .i64 3141592653589793238),.cn (.int .i64 1000000000000000000)],Zz 21 55 19 20,Zu 15 21,ZE 22 0 15,ZE 23 1 15,ZS 3 5 22,Zu 6 23]) (.seq (.draw [(7,.box [(.bool false),.nil,.nil])] [Zu 25 0,Zu 26 4,ZX 27 3 25 26,Zw 28 3 27,w1 29 (.call 54) [.cn (.int .i64 3141592653589793239),.cn (.int .i64 1000000000000000000)],Zz 30 55 28 29,Zu 24 30,ZE 31 0 24,ZE 32 1 24,ZS 3 7 31,Zu 8 32]) (.region [Zm 33 3,Zt 34 3 5,Zt 35 3 7,u1 36 (.buildSlice 3 2 [(.bool false),.nil,.nil] [(0,3),(3,3)]) [.tm 34,.tm 35],u1 37 (.append 3 56 [(.bool false),.nil,.nil]) [.tm 33,.tm 36],Zm 3 37])))) (.region [Zm 13 4,Zp 14 13 1,Zm 4 14])))))) (ZR [Zm 38 3,Zm 2 38] .ret))))⟩
theorem YFk:Yg YGc Tryz.f52=some v52:=by kernel_rfl
def v25:VF:=⟨22,[.cell 2 true 2,.tmp 3],(ZR [u1 1 .box [.tm 0],Zn 2,Zi 3 0] (ZR [Zt 5 2 1,Zc 6 50 5,Zm 4 6] (.seq (ZR [Zm 7 4,Zq 8 .neq 7 0] (ZC 8 (ZR [u1 9 (.build [(.int .i64 0),(.int .i64 0)] []) [],Zm 10 4,Zs 2 2 9,Zm 3 10] .ret) .skip)) (.seq (.draw [] [Zy 11 0 1,Zv 12 1 11,Zy 14 1 1,Zv 15 1 14,w1 13 (.call 53) [.tm 12],w1 16 (.call 53) [.tm 15],w1 17 (.buildSlice 3 2 [(.bool false),.nil,.nil] [(0,3),(3,3)]) [.tm 13,.tm 16],w1 18 (.call 52) [.tm 17],w1 19 (.call 51) [.tm 18],ZE 20 0 19,ZE 21 1 19,ZS 2 2 20,Zu 3 21]) .ret))))⟩
theorem YEW:Yg YGc Tryz.f25=some v25:=by kernel_rfl
def S4:Env:={ ct:=fun n=>match n with|50=>some iv1C|53=>some quoiC|54=>some ofrC|55=>some qmulC|51=>some spanqC|_=>none,fn:=fun _=>none,meth:=fun _ _=>none}
theorem Yw4:S4.ct 50=some iv1C:=rfl
theorem Yw6:S4.ct 53=some quoiC:=rfl
theorem Ypx:S4.ct 54=some ofrC:=rfl
theorem Ypy:S4.ct 55=some qmulC:=rfl
theorem Yw5:S4.ct 51=some spanqC:=rfl
theorem YBP:Yq YGc S4:=by
 refine⟨fun f c h=>?_,fun f vf h=>?_,(fun _ _ _ h=>by cases h),by kernel_rfl,(fun _ h=>by cases h)⟩
 ·simp only[S4]at h
  split at h
  ·cases h;exact⟨Yk4,Tryz.f50,Tryz.func50,by kernel_rfl,by kernel_rfl⟩
  ·cases h;exact⟨Yl5,Tryz.f53,Tryz.func53,by kernel_rfl,by kernel_rfl⟩
  ·cases h;exact⟨YDm,Tryz.f54,Tryz.func54,by kernel_rfl,by kernel_rfl⟩
  ·cases h;exact⟨Yzj,Tryz.f55,Tryz.func55,by kernel_rfl,by kernel_rfl⟩
  ·cases h;exact⟨Yn7,Tryz.f51,Tryz.func51,by kernel_rfl,by kernel_rfl⟩
  ·cases h
 ·cases h
theorem YzQ:sclC.ok YGc 26:=by
 refine Yb Tryz.func26 YEX YBP 400 sclC fun args k h=>⟨args,?_⟩
 simp only[sclC]at h
 split at h
 ·rename_i x y n d
  refine⟨by simp [leL,le],?_⟩
  (try dsimp only[v26,Yw4,Yw6,Ypx,Ypy,Yw5,iv1C,quoiC,ofrC,qmulC,spanqC,enc2,encF,natV,go_sem,reduceIte])
  (try simp only[Yc,YGa,YF9,reduceCtorEq,YF8])
  have h:k (.tup [.agg (enc2 (sclF (x,y) n d).1),.int .i64 (sclF (x,y) n d).2]) []:=h
  refine⟨fun a b=>by simp [a,b],fun a b=>by rw[b];simp [a],fun a b=>by rw[b];simp [a],fun hb=>⟨fun _=>?_,fun h2=>absurd h2 (by decide)⟩,fun hb=>⟨fun he=>?_,fun he=>?_⟩⟩
  ·simp only[YGi,YG6,decide_eq_true_eq]at hb
   rw[sclF,if_neg (by omega),if_pos (by omega)]at h
   exact YF h
  ·rw[sclF,if_pos he]at h
   exact YF h
  ·have hb':¬(d<1\/4611686018427387904<d\/n< -4611686018427387904\/4611686018427387904<n):=by
    intro hh
    have:(decide (ivE [(x,y)]=0)&&(decide (d<1) || decide (4611686018427387904<d) || decide (n< -4611686018427387904) || decide (4611686018427387904<n)))=true:=by
     simp only[YGi,YG6,decide_eq_true_eq];omega
    rw[this]at hb;cases hb
   rw[sclF,if_neg (by omega),if_neg hb']at h
   obtain⟨hx,hy,hxy⟩:=ivE1 he
   have m1:=YrM (M:=4611686018427387904) (N:=4611686018427387904) hx (show -4611686018427387904<=n/\n<=4611686018427387904 by omega)
   have m2:=YrM (M:=4611686018427387904) (N:=4611686018427387904) hy (show -4611686018427387904<=n/\n<=4611686018427387904 by omega)
   dsimp only at hx hy m1 m2
   have hq:frOk (n,d.toNat):=Ydd (by dsimp only;omega) (by dsimp only;omega) (by dsimp only;omega)
   have hp1:frOk (x*n,1*d.toNat):=Ydd (by dsimp only;omega) (by dsimp only;omega) (by dsimp only;omega)
   have hp2:frOk (y*n,1*d.toNat):=Ydd (by dsimp only;omega) (by dsimp only;omega) (by dsimp only;omega)
   refine⟨⟨by omega,by omega⟩,hx,(x,1),(n,d.toNat),⟨Yz (YhZ hx),Yz hq,hp1⟩,by decide,by decide,hy,(y,1),(n,d.toNat),⟨Yz (YhZ hy),Yz hq,hp2⟩,by decide,by decide,by decide,
    (x*n,1*d.toNat),[(y*n,1*d.toNat)],⟨⟨rfl,rfl,fun k hk=>match k,hk with|0,_=>Yd (encF false (x*n,1*d.toNat)) |1,_=>Yd (encF false (y*n,1*d.toNat))⟩,by simp,YrA hp1 hp2⟩,?_⟩
   have e:=Ylg (d:=1*d.toNat) (by omega) (x*n) [y*n]
   have e2:((1*d.toNat:Nat):Int)=d:=by omega
   rw[e2]at e
   have e3:YjH (x*n,1*d.toNat) [(y*n,1*d.toNat)]=Yd9 d (x*n) [y*n]:=e
   rw[e3]
   exact⟨by decide,by decide,YF h⟩
 ·exact h.1.elim
def pisF(l:List Fr):List Fr:=l.flatMap fun p=>[(p.1*3141592653589793238,p.2*1000000000000000000),(p.1*3141592653589793239,p.2*1000000000000000000)]
theorem Ygn(l:List Fr):(pisF l).length=2*l.length:=by
 induction l with
 |nil=>rfl
 |cons a l ih=>
  have e:pisF (a::l)=(a.1*3141592653589793238,a.2*1000000000000000000)::(a.1*3141592653589793239,a.2*1000000000000000000)::pisF l:=rfl
  rw[e,YHf,YHf,ih,YHf];omega
theorem YnL:∀(l:List Fr)(i:Nat),i<l.length->(pisF l).getD (2*i) default=((l.getD i default).1*3141592653589793238,(l.getD i default).2*1000000000000000000)/\(pisF l).getD (2*i+1) default=((l.getD i default).1*3141592653589793239,(l.getD i default).2*1000000000000000000)
 | [],_,h=>absurd h (YG7 _)
 |a::l,0,_=>⟨rfl,rfl⟩
 |a::l,i+1,h=>by
  have e:pisF (a::l)=(a.1*3141592653589793238,a.2*1000000000000000000)::(a.1*3141592653589793239,a.2*1000000000000000000)::pisF l:=rfl
  have ih:=YnL l i (by simpa using h)
  rw[e,show 2*(i+1)=2*i+2 by omega]
  exact ih
def frsR(l:List Fr):SV:= .vs true (decide (l.length=0)) l.length 3 (fun k=>encF true (l.getD k default))
def pisC:Ctr:={ alias:=false,of:=fun l=>match l with
 | [.vs _ _ n sz get]=> .ex (List Fr) fun l=> .pre (lsP 3 (encF false) n sz get l/\l.length<=100/\(∀p∈l,frOk p)/\∀p∈pisF l,frOk p) (.fin (frsR (pisF l)) [])
 |_=>noC}
theorem YDw:pisC.ok YGc 52:=by
 refine Yb Tryz.func52 YFk YBP 400 pisC fun args k h=>?_
 simp only[pisC]at h
 split at h
 ·rename_i tt z n sz get
  obtain⟨l,⟨⟨rfl,rfl,hg⟩,hmax,hall,hpis⟩,h⟩:=h
  refine⟨[.vs tt z l.length 3 (fun k=>encF false (l.getD k default))],⟨by simpa [le]using hg,trivial⟩,?_⟩
  (try dsimp only[v52,encF,natV,go_sem,reduceIte])
  (try simp only[Yc,YGa,YF9,reduceCtorEq,YF8])
  refine Loop.keep [0,1,0,0] Nat (fun i=>[(3,.own 0 0 (2*i) 3),(4,.int .i64 i)]) (fun i=>[(0,.own (decide (i=0)) 3 (2*i) (fun k=>encF true ((pisF l).getD k default)))]) [.gone] (fun i=>i<=l.length) (fun i=>l.length-i) ?_ ?_
  ·refine⟨0,YHk _,?_⟩
   (try dsimp only[go_sem,reduceIte])
   simp only[Ya]
   simp
  ·rintro i hi
   (try dsimp only[Ypx,Ypy,ofrC,qmulC,encF,natV,YGb,go_sem,reduceIte])
   (try simp only[Yc,YGa,YF9,reduceCtorEq,YF8])
   have eT:YHE 1000000000000000000=1000000000000000000:=rfl
   simp only[eT]
   refine⟨fun hlt=>?_,fun hge=>?_⟩
   ·have hi':i<l.length:=by omega
    have hp:frOk (l.getD i default):=hall _ (Yk hi')
    have hc1:frOk (3141592653589793238,1000000000000000000):=Ydd (show 0<1000000000000000000 by decide) (show Int.natAbs 3141592653589793238<4294967296^8 by decide) (show 1000000000000000000<4294967296^8 by decide)
    have hc2:frOk (3141592653589793239,1000000000000000000):=Ydd (show 0<1000000000000000000 by decide) (show Int.natAbs 3141592653589793239<4294967296^8 by decide) (show 1000000000000000000<4294967296^8 by decide)
    have hg2:=YnL l i hi'
    have hr1:frOk ((l.getD i default).1*3141592653589793238,(l.getD i default).2*1000000000000000000):=by
     rw[<-hg2.1];exact hpis _ (Yk (by rw[Ygn];omega))
    have hr2:frOk ((l.getD i default).1*3141592653589793239,(l.getD i default).2*1000000000000000000):=by
     rw[<-hg2.2];exact hpis _ (Yk (by rw[Ygn];omega))
    refine⟨⟨by omega,by omega⟩,⟨⟨by decide,by decide⟩,by decide,by decide⟩,l.getD i default,(3141592653589793238,1000000000000000000),⟨Yz hp,Yz hc1,hr1⟩,by decide,by decide,
     ⟨by omega,by omega⟩,⟨⟨by decide,by decide⟩,by decide,by decide⟩,l.getD i default,(3141592653589793239,1000000000000000000),⟨Yz hp,Yz hc2,hr2⟩,by decide,by decide,by decide,?_⟩
    generalize l.getD i default=p at*
    (try dsimp only[go_sem,reduceIte])
    (try simp only[Yc,YGa,YF9,reduceCtorEq,YF8])
    refine⟨⟨by unfold YP;omega,fun q hq=>?_⟩,i+1,by omega,by omega,?_⟩
    ·match q,hq with
     |0,_=>exact⟨rfl,trivial,trivial,trivial,trivial⟩
     |1,_=>exact⟨rfl,trivial,trivial,trivial,trivial⟩
    ·have hw:IntKind.i64.wrap ((i:Int)+1)=((i+1:Nat):Int):=by rw[YGd _ (by omega)];omega
     have e2:2*(i+1)=2*i+2:=by omega
     simp only[hw,e2,Bool.or_self,Bool.or_false,Ya]
     refine⟨by omega,by simp,fun q hq=>?_⟩
     rcases YGz q (2*i)with h'|h'
     ·rw[if_pos h'];exact YS _ ⟨trivial,trivial,trivial,trivial⟩
     ·rw[if_neg (by omega)]
      rcases YGz q (2*i+1)with h''|h''
      ·obtain rfl:q=2*i:=by omega
       rw[Nat.sub_self,hg2.1]
       exact YS (encF true (p.1*3141592653589793238,p.2*1000000000000000000)) ⟨trivial,trivial,trivial,trivial⟩
      ·obtain rfl:q=2*i+1:=by omega
       rw[show 2*i+1-2*i=1 by omega,hg2.2]
       exact YS (encF true (p.1*3141592653589793239,p.2*1000000000000000000)) ⟨trivial,trivial,trivial,trivial⟩
   ·obtain rfl:i=l.length:=by omega
    have hz:decide ((pisF l).length=0)=decide (l.length=0):=by rw[Ygn,YHz,decide_eq_true_eq,decide_eq_true_eq];omega
    refine YC (show k _ []from h) ?_ ?_
    ·(try dsimp only[frsR,expo,encF,natV,go_sem,reduceIte])
     rw[hz,Ygn]
     simp only[Ya]
    ·intro _;simp [Yl,Ym,encF,natV,frsR]
 ·exact h.1.elim
def S5:Env:={ ct:=fun n=>match n with|50=>some iv1C|53=>some quoiC|52=>some pisC|51=>some spanqC|_=>none,fn:=fun _=>none,meth:=fun _ _=>none}
theorem Yw7:S5.ct 50=some iv1C:=rfl
theorem Yxa:S5.ct 53=some quoiC:=rfl
theorem Yw9:S5.ct 52=some pisC:=rfl
theorem Yw8:S5.ct 51=some spanqC:=rfl
theorem S5_ok:Yq YGc S5:=by
 refine⟨fun f c h=>?_,fun f vf h=>?_,(fun _ _ _ h=>by cases h),by kernel_rfl,(fun _ h=>by cases h)⟩
 ·simp only[S5]at h
  split at h
  ·cases h;exact⟨Yk4,Tryz.f50,Tryz.func50,by kernel_rfl,by kernel_rfl⟩
  ·cases h;exact⟨Yl5,Tryz.f53,Tryz.func53,by kernel_rfl,by kernel_rfl⟩
  ·cases h;exact⟨YDw,Tryz.f52,Tryz.func52,by kernel_rfl,by kernel_rfl⟩
  ·cases h;exact⟨Yn7,Tryz.f51,Tryz.func51,by kernel_rfl,by kernel_rfl⟩
  ·cases h
 ·cases h
theorem Yy9{x y:Int}{d:Nat}(hd:0<d/\d<=1000000)(hx:x.natAbs<4294967296^5)(hy:y.natAbs<4294967296^5):∀p∈pisF [(x,d),(y,d)],frOk p:=by
 have a1:(x*3141592653589793238).natAbs<4294967296^8:=by omega
 have a2:(x*3141592653589793239).natAbs<4294967296^8:=by omega
 have a3:(y*3141592653589793238).natAbs<4294967296^8:=by omega
 have a4:(y*3141592653589793239).natAbs<4294967296^8:=by omega
 have b1:0<d*1000000000000000000:=by omega
 have b2:d*1000000000000000000<4294967296^8:=by omega
 have e:pisF [(x,d),(y,d)]=[(x*3141592653589793238,d*1000000000000000000),(x*3141592653589793239,d*1000000000000000000),(y*3141592653589793238,d*1000000000000000000),(y*3141592653589793239,d*1000000000000000000)]:=rfl
 rw[e]
 intro p hp
 simp only[YGK,List.not_mem_nil,or_false]at hp
 rcases hp with rfl|rfl|rfl|rfl
 ·exact Ydd b1 a1 b2
 ·exact Ydd b1 a2 b2
 ·exact Ydd b1 a3 b2
 ·exact Ydd b1 a4 b2
theorem YEu:piC.ok YGc 25:=by
 refine Yb Tryz.func25 YEW S5_ok 400 piC fun args k h=>⟨args,?_⟩
 simp only[piC,ivoC]at h
 split at h
 ·rename_i x y
  refine⟨by simp [leL,le],?_⟩
  (try dsimp only[v25,Yw7,Yxa,Yw9,Yw8,iv1C,quoiC,pisC,frsR,spanqC,enc2,encF,natV,go_sem,reduceIte])
  (try simp only[Yc,YGa,YF9,reduceCtorEq,YF8])
  have h:k (.tup [.agg (enc2 (piF (x,y)).1),.int .i64 (piF (x,y)).2]) []:=h
  refine⟨fun he=>?_,fun he=>?_⟩
  ·rw[piF,if_pos he]at h
   exact YF h
  ·rw[piF,if_neg (by omega)]at h
   obtain⟨hx,hy,hxy⟩:=ivE1 he
   dsimp only at hx hy
   have hP:=Yy9 (x:=x) (y:=y) (d:=1) ⟨by decide,by decide⟩ (by omega) (by omega)
   refine⟨hx,hy,by decide,[(x,1),(y,1)],⟨⟨rfl,rfl,fun k hk=>match k,hk with|0,_=>Yd (encF false (x,1)) |1,_=>Yd (encF false (y,1))⟩,by simp,YrA (YhZ hx) (YhZ hy),hP⟩,
    (x*3141592653589793238,1*1000000000000000000),[(x*3141592653589793239,1*1000000000000000000),(y*3141592653589793238,1*1000000000000000000),(y*3141592653589793239,1*1000000000000000000)],
    ⟨⟨rfl,rfl,fun k hk=>Yd (encF false ((pisF [(x,1),(y,1)]).getD k default))⟩,by simp,hP⟩,by decide,by decide,?_⟩
   have e:=Ylg (d:=1*1000000000000000000) (by decide) (x*3141592653589793238) [x*3141592653589793239,y*3141592653589793238,y*3141592653589793239]
   have e2:((1*1000000000000000000:Nat):Int)=1000000000000000000:=rfl
   rw[e2]at e
   have e3:YjH (x*3141592653589793238,1*1000000000000000000) [(x*3141592653589793239,1*1000000000000000000),(y*3141592653589793238,1*1000000000000000000),(y*3141592653589793239,1*1000000000000000000)]=Yd9 1000000000000000000 (x*3141592653589793238) [x*3141592653589793239,y*3141592653589793238,y*3141592653589793239]:=e
   rw[e3]
   exact YF h
 ·exact h.1.elim
set_option maxHeartbeats 8000000
def v22:VF:=⟨48,[.cell 4 true 2],(ZR [u1 2 .box [.tm 0],Zn 4] (ZR [Zt 12 7 2,Zm 13 1,Zd 14 44 12 13,Zm 11 14,Ze 15 0 11,Ze 16 1 11,Zm 5 15,Zm 6 16] (ZR [Za 18 0 2,Zf 19 1 18,Za 20 1 2,Zf 21 1 20,Zo 22 .sub 19 21,Zm 23 5,u1 24 .neg [.tm 23],u1 25 (.build [(.int .i64 0),(.int .i64 0)] [(0,1),(1,1)]) [.cn (.int .i64 2),.tm 24],u1 26 (.buildSlice 2 1 [(.int .i64 0),(.int .i64 0)] [(0,2)]) [.tm 25],Zm 27 6,u1 28 (.call 45) [.tm 22,.tm 26,.tm 27],Zm 17 28,Ze 29 0 17,Ze 30 1 17,Ze 31 2 17,Zm 7 29,Zm 8 30,Zm 9 31] (ZR [Za 32 1 2,Zf 33 1 32,Zm 34 7,Zo 35 .add 33 34,Za 36 1 2,Zf 37 1 36,Zm 38 7,Zo 39 .add 37 38,u1 40 (.build [(.int .i64 0),(.int .i64 0)] [(0,1),(1,1)]) [.tm 35,.tm 39],Zn 10,Zs 2 10 40] (.seq (ZR [Zm 41 8,u1 42 .not [.tm 41]] (ZC 42 (.region [Za 43 1 10,Zf 44 1 43,Zp 45 44 1,Za 46 1 10,Zs 1 46 45]) .skip)) (ZR [Zt 47 2 10,Zs 2 4 47] .ret))))))⟩
theorem YET:Yg YGc Tryz.f22=some v22:=by kernel_rfl
def v21:VF:=⟨17,[.tmp 4],(ZR [u1 2 .box [.tm 0],Zi 4 0] (ZR [Zt 6 7 2,Zc 7 11 6,Zm 5 7] (.seq (ZR [Zm 8 5,Zq 9 .eql 8 0,Zm 10 9,u2 11 10 true (.load true 7) [.tm 2],Zg 12 10 true 1,u2 13 10 true (.call 43) [.tm 11,.tm 12],u2 14 10 true .not [.tm 13],u1 15 .and [.tm 10,.tm 14]] (ZC 15 (.region [Zi 5 2]) .skip)) (ZR [Zm 16 5,Zm 4 16] .ret))))⟩
theorem YES:Yg YGc Tryz.f21=some v21:=by kernel_rfl
def v7:VF:=⟨17,[.cell 4 true 2,.tmp 5],(ZR [u1 2 .box [.tm 0],Zn 4,Zi 5 0] (ZR [Zt 7 7 2,Zm 8 1,Zd 9 21 7 8,Zm 6 9] (.seq (ZR [Zm 10 6,Zq 11 .neq 10 0] (ZC 11 (ZR [u1 12 (.build [(.int .i64 0),(.int .i64 0)] []) [],Zm 13 6,Zs 2 4 12,Zm 5 13] .ret) .skip)) (ZR [Zt 14 7 2,Zm 15 1,Zd 16 22 14 15,Zs 2 4 16,Zi 5 0] .ret))))⟩
theorem v7_is:Yg YGc Tryz.f7=some v7:=by kernel_rfl
def v9:VF:=⟨49,[.cell 4 true 2,.cell 5 true 2,.tmp 6],(ZR [u1 2 .box [.tm 0],Zn 4,Zn 5,Zi 6 0] (ZR [Zt 14 7 2,Zm 15 1,Zd 16 21 14 15,Zm 7 16] (.seq (ZR [Zm 17 7,Zq 18 .neq 17 0] (ZC 18 (ZR [u1 19 (.build [(.int .i64 0),(.int .i64 0)] []) [],u1 20 (.build [(.int .i64 0),(.int .i64 0)] []) [],Zm 21 7,Zs 2 4 19,Zs 2 5 20,Zm 6 21] .ret) .skip)) (ZR [Zt 23 7 2,Zm 24 1,Zd 25 22 23 24,Zc 26 25 25,Zm 22 26,Ze 27 0 22,Ze 28 1 22,Zn 8,Zs 2 8 27,Zm 9 28] (ZR [Zt 30 2 8,Za 31 3 2,Zf 32 1 31,Za 33 4 2,Zf 34 1 33,u1 35 (.call 26) [.tm 30,.tm 32,.tm 34],Zm 29 35,Ze 36 0 29,Ze 37 1 29,Zn 10,Zs 2 10 36,Zm 11 37] (ZR [Zt 39 2 10,Za 40 5 2,Zf 41 1 40,Za 42 6 2,Zf 43 1 42,u1 44 (.call 26) [.tm 39,.tm 41,.tm 43],Zm 38 44,Ze 45 0 38,Ze 46 1 38,Zn 12,Zs 2 12 45,Zm 13 46] (.seq (.draw [] [Zw 47 2 10,Zw 48 2 12,⟨Zs 2 4 47,[.tm 12]⟩,ZS 2 5 48,w1 6 .mov [.cn (.int .i64 0)]]) .ret)))))))⟩
theorem v9_is:Yg YGc Tryz.f9=some v9:=by kernel_rfl
theorem Ywu{m num den:Nat}(hd:1<=den):Q.tstR (rtA m num den) den=tstK m num den:=by
 funext k
 obtain⟨P1,P2⟩:=Ysu (m:=m) (num:=num) (k:=k) hd
 unfold Q.tstR tstK
 rw[P1,P2]
theorem YDx{m num den:Nat}(hd:1<=den):Q.powR (rtA m num den) den=rtN m num den:=by
 unfold Q.powR rtN
 rw[Ywu hd]
def SR2:Env:={ ct:=fun n=>match n with|44=>some rexpC|45=>some Q.rPowerC|_=>none,fn:=fun _=>none,meth:=fun _ _=>none}
theorem Yt0:SR2.ct 44=some rexpC:=rfl
theorem Yt1:SR2.ct 45=some Q.rPowerC:=rfl
theorem YBW:Yq YGc SR2:=by
 refine⟨fun f c h=>?_,fun f vf h=>?_,(fun _ _ _ h=>by cases h),by kernel_rfl,(fun _ h=>by cases h)⟩
 ·simp only[SR2]at h
  split at h
  ·cases h;exact⟨YEr,Tryz.f44,Tryz.func44,by kernel_rfl,by kernel_rfl⟩
  ·cases h;exact⟨Q.rPower_ok,Tryz.f45,Tryz.func45,by kernel_rfl,by kernel_rfl⟩
  ·cases h
 ·cases h
theorem YEq:diaC.ok YGc 22:=by
 refine Yb Tryz.func22 YET YBW 500 diaC fun args k h=>?_
 simp only[diaC]at h
 split at h
 ·rename_i d c tt z n sz get mn md cn cd note
  obtain⟨bs,⟨⟨rfl,rfl,hg⟩,hs,hnote⟩,h⟩:=h
  refine⟨[.agg [.int .i64 d,.int .i64 c,.vs tt z bs.length 2 (fun k=>enc2 (bs.getD k default)),.int .i64 mn,.int .i64 md,.int .i64 cn,.int .i64 cd],.int .i64 note],⟨⟨⟨rfl,rfl⟩,⟨rfl,rfl⟩,⟨id,rfl,rfl,rfl,hg⟩,⟨rfl,rfl⟩,⟨rfl,rfl⟩,⟨rfl,rfl⟩,⟨rfl,rfl⟩,trivial⟩,⟨rfl,rfl⟩,trivial⟩,?_⟩
  dsimp only[v22,Yt0,Yt1,rexpC,Q.rPowerC,enc2,go_sem,reduceIte]
  simp only[Yc,YGa,YF9,reduceCtorEq,YF8]
  have hr:=Yjr hs
  simp only at hr
  obtain⟨m,num,den,p⟩:=prt hs hnote
  refine⟨bs,⟨⟨rfl,rfl,fun k _=>Yd _⟩,hs,hnote⟩,fun x y hxy=>?_⟩
  obtain⟨G,j,r,G1,G2,hrex,hj⟩:=hxy
  have hb:=hrex.bnd
  have hj2:139*j*262144<=139*3*262144:=YGf _ (by omega)
  obtain⟨r1,r2,r3⟩:=Yva p G1 G2 hrex.d1 (by omega) (by omega)
  have em:=p.em
  simp only at em
  have hm:=p.mr
  have e1:IntKind.i64.wrap (d-c)=(m:Int):=by rw[em];exact YGd _ (by omega)
  have e2:IntKind.i64.wrap (0-(x:Int))= -(x:Int):=by rw[YGd _ (by omega)];omega
  rw[e1,e2]
  have hy1:=hrex.d1
  have hdec:=Yqx hm (show x<=1000000000 by omega) (show 1<=y/\y<=1000000 by omega) r1
  have hlist: [((2:Int), -(x:Int))]++[((m:Int),(y:Int))]=rtA m x y:=rfl
  have htop:Q.tstR (rtA m x y) y 1000000000001=false:=by rw[Ywu hy1];exact Ymd hm.2 hy1 (by decide)
  refine⟨by decide,by decide,by decide,[(2, -(x:Int))],?_⟩
  rw[hlist,YDx hy1]
  obtain⟨P1,P2⟩:=Ysu (m:=m) (num:=x) (k:=rtN m x y) hy1
  rw[P1,P2]
  have hle:=YnX (num:=x) hm hy1
  have hflag:(decide (0<rtN m x y)&&decide (m^y=2^x*rtN m x y^y))=exN m x y:=rfl
  rw[hflag]
  have hdia:diaS ⟨d,c,bs,mn,md,cn,cd⟩ note=(c+(rtN m x y:Int),if exN m x y=true then c+(rtN m x y:Int)else c+(rtN m x y:Int)+1):=by
   unfold diaS
   simp only
   have:=Yl7 p
   simp only at this
   rw[this,r2,r3]
  rw[hdia]at h
  have w1:IntKind.i64.wrap (c+(rtN m x y:Int))=c+(rtN m x y:Int):=YGd _ (by omega)
  have w2:IntKind.i64.wrap (c+(rtN m x y:Int)+1)=c+(rtN m x y:Int)+1:=YGd _ (by omega)
  rw[w1,w2]
  refine⟨⟨⟨rfl,rfl,fun k hk=>?_⟩,fun z hz=>?_,by omega,by omega,⟨hdec 1000000000001 (by decide) (by decide),htop⟩,Yhb 41 0 1000000000001 (by decide) fun k k1 k2=>hdec k k1 (by omega)⟩,by decide,by decide,by decide,fun hf=>?_,fun hf=>?_⟩
  ·obtain rfl:k=0:=by omega
   exact Yd _
  ·rw[YGU]at hz
   subst hz
   simp only[okT0,YG8,decide_eq_false_iff_not]
   omega
  ·rw[if_neg (by rw[hf];decide)]at h
   exact Yc7 h
  ·rw[if_pos hf]at h
   exact Yc7 h
 ·exact h.1.elim
def SR3:Env:={ ct:=fun n=>match n with|11=>some chkLC|43=>some hasC|_=>none,fn:=fun _=>none,meth:=fun _ _=>none}
theorem Yt2:SR3.ct 11=some chkLC:=rfl
theorem Yt3:SR3.ct 43=some hasC:=rfl
theorem YBX:Yq YGc SR3:=by
 refine⟨fun f c h=>?_,fun f vf h=>?_,(fun _ _ _ h=>by cases h),by kernel_rfl,(fun _ h=>by cases h)⟩
 ·simp only[SR3]at h
  split at h
  ·cases h;exact⟨YzF,Tryz.f11,Tryz.func11,by kernel_rfl,by kernel_rfl⟩
  ·cases h;exact⟨YzL,Tryz.f43,Tryz.func43,by kernel_rfl,by kernel_rfl⟩
  ·cases h
 ·cases h
def raskC:Ctr:={ alias:=false,of:=fun l=>match l with
 | [.agg [.int .i64 d,.int .i64 c,.vs _ _ n sz get,.int .i64 mn,.int .i64 md,.int .i64 cn,.int .i64 cd],.int .i64 note]=>
   .ex (List (Int×Int)) fun bs=> .pre (lsP 2 enc2 n sz get bs/\n<=9223372036854775807) (.fin (.int .i64 (askS ⟨d,c,bs,mn,md,cn,cd⟩ note note)) [])
 |_=> .pre False (.fin (.int .i64 0) [])}
theorem YEl:raskC.ok YGc 21:=by
 refine Yb Tryz.func21 YES YBX 300 raskC fun args k h=>?_
 simp only[raskC]at h
 split at h
 ·rename_i d c tt z n sz get mn md cn cd note
  obtain⟨bs,⟨⟨rfl,rfl,hg⟩,hn⟩,h⟩:=h
  refine⟨[.agg [.int .i64 d,.int .i64 c,.vs tt z bs.length 2 (fun k=>enc2 (bs.getD k default)),.int .i64 mn,.int .i64 md,.int .i64 cn,.int .i64 cd],.int .i64 note],⟨⟨⟨rfl,rfl⟩,⟨rfl,rfl⟩,⟨id,rfl,rfl,rfl,hg⟩,⟨rfl,rfl⟩,⟨rfl,rfl⟩,⟨rfl,rfl⟩,⟨rfl,rfl⟩,trivial⟩,⟨rfl,rfl⟩,trivial⟩,?_⟩
  dsimp only[v21,Yt2,Yt3,chkLC,hasC,enc2,go_sem,reduceIte]
  simp only[Yc,YGa,YF9,reduceCtorEq,YF8]
  have self:lsP 2 enc2 bs.length 2 (fun k=>[SV.int IntKind.i64 (bs.getD k default).fst,SV.int IntKind.i64 (bs.getD k default).snd]) bs:=⟨rfl,rfl,fun k _=>Yd _⟩
  refine⟨bs,⟨self,hn⟩,bs,fun hc=>⟨self,(Ycd hc).1,hn⟩,fun hc=>?_,fun hc=>?_⟩
  ·rw[YGi,decide_eq_true_eq,YGA]at hc
   rw[askS,if_neg (by rw[hc.1];decide),if_pos (by rw[hc.2];rfl)]at h
   exact Yf h
  ·by_cases c0:chkL ⟨d,c,bs,mn,md,cn,cd⟩=0
   ·rw[decide_eq_true c0,YHq,YG0]at hc
    rw[askS,if_neg (by rw[c0];decide),if_neg (by rw[hc,decide_eq_false (Int.lt_irrefl note)];decide)]at h
    rw[c0]
    exact Yf h
   ·rw[askS,if_pos c0]at h
    exact Yf h
 ·exact h.1.elim
def SR4:Env:={ ct:=fun n=>match n with|21=>some raskC|22=>some diaC|25=>some piC|26=>some sclC|_=>none,fn:=fun _=>none,meth:=fun _ _=>none}
theorem Yiw:SR4.ct 21=some raskC:=rfl
theorem Yix:SR4.ct 22=some diaC:=rfl
theorem YmN:SR4.ct 25=some piC:=rfl
theorem YmO:SR4.ct 26=some sclC:=rfl
theorem YvE:Yq YGc SR4:=by
 refine⟨fun f c h=>?_,fun f vf h=>?_,(fun _ _ _ h=>by cases h),by kernel_rfl,(fun _ h=>by cases h)⟩
 ·simp only[SR4]at h
  split at h
  ·cases h;exact⟨YEl,Tryz.f21,Tryz.func21,by kernel_rfl,by kernel_rfl⟩
  ·cases h;exact⟨YEq,Tryz.f22,Tryz.func22,by kernel_rfl,by kernel_rfl⟩
  ·cases h;exact⟨YEu,Tryz.f25,Tryz.func25,by kernel_rfl,by kernel_rfl⟩
  ·cases h;exact⟨YzQ,Tryz.f26,Tryz.func26,by kernel_rfl,by kernel_rfl⟩
  ·cases h
 ·cases h
theorem YzH:diaFC.ok YGc 7:=by
 refine Yb Tryz.func7 v7_is YvE 300 diaFC fun args k h=>?_
 simp only[diaFC]at h
 split at h
 ·rename_i d c tt z n sz get mn md cn cd note
  obtain⟨bs,⟨⟨rfl,rfl,hg⟩,hn⟩,h⟩:=h
  refine⟨[.agg [.int .i64 d,.int .i64 c,.vs tt z bs.length 2 (fun k=>enc2 (bs.getD k default)),.int .i64 mn,.int .i64 md,.int .i64 cn,.int .i64 cd],.int .i64 note],⟨⟨⟨rfl,rfl⟩,⟨rfl,rfl⟩,⟨id,rfl,rfl,rfl,hg⟩,⟨rfl,rfl⟩,⟨rfl,rfl⟩,⟨rfl,rfl⟩,⟨rfl,rfl⟩,trivial⟩,⟨rfl,rfl⟩,trivial⟩,?_⟩
  dsimp only[v7,Yiw,Yix,raskC,diaC,enc2,go_sem,reduceIte]
  simp only[Yc,YGa,YF9,reduceCtorEq,YF8]
  have self:lsP 2 enc2 bs.length 2 (fun k=>[SV.int IntKind.i64 (bs.getD k default).fst,SV.int IntKind.i64 (bs.getD k default).snd]) bs:=⟨rfl,rfl,fun k _=>Yd _⟩
  refine⟨bs,⟨self,hn⟩,fun hc=>?_,fun hc=>?_⟩
  ·rw[diaF,if_pos hc]at h;exact Yew h
  ·rw[diaF,if_neg (by rw[hc];decide)]at h
   obtain⟨a1,a2,_⟩:=Yol hc
   have:=Ycl a1
   refine⟨bs,⟨self,a1,by omega,a2.2⟩,?_⟩
   (try simp only[Yc,YGa,YF9,reduceCtorEq,YF8])
   exact Yew h
 ·exact h.1.elim
theorem YEs:mouC.ok YGc 9:=by
 refine Yb Tryz.func9 v9_is YvE 400 mouC fun args k h=>?_
 simp only[mouC]at h
 split at h
 ·rename_i d c tt z n sz get mn md cn cd note
  obtain⟨bs,⟨⟨rfl,rfl,hg⟩,hn⟩,h⟩:=h
  refine⟨[.agg [.int .i64 d,.int .i64 c,.vs tt z bs.length 2 (fun k=>enc2 (bs.getD k default)),.int .i64 mn,.int .i64 md,.int .i64 cn,.int .i64 cd],.int .i64 note],⟨⟨⟨rfl,rfl⟩,⟨rfl,rfl⟩,⟨id,rfl,rfl,rfl,hg⟩,⟨rfl,rfl⟩,⟨rfl,rfl⟩,⟨rfl,rfl⟩,⟨rfl,rfl⟩,trivial⟩,⟨rfl,rfl⟩,trivial⟩,?_⟩
  have h:k (.tup [.agg (enc2 (mouS ⟨d,c,bs,mn,md,cn,cd⟩ note).1),.agg (enc2 (mouS ⟨d,c,bs,mn,md,cn,cd⟩ note).2.1),.int .i64 (mouS ⟨d,c,bs,mn,md,cn,cd⟩ note).2.2]) []:=h
  dsimp only[v9,Yiw,Yix,YmN,YmO,raskC,diaC,piC,sclC,ivoC,enc2,go_sem,reduceIte]
  simp only[Yc,YGa,YF9,reduceCtorEq,YF8]
  have self:lsP 2 enc2 bs.length 2 (fun k=>[SV.int IntKind.i64 (bs.getD k default).fst,SV.int IntKind.i64 (bs.getD k default).snd]) bs:=⟨rfl,rfl,fun k _=>Yd _⟩
  refine⟨bs,⟨self,hn⟩,fun hc=>?_,fun hc=>?_⟩
  ·rw[mouS,if_pos hc]at h
   exact Yiy (p:=(0,0)) (q:=(0,0)) h
  ·rw[mouS,if_neg (by rw[hc];decide)]at h
   obtain⟨a1,a2,_⟩:=Yol hc
   have:=Ycl a1
   refine⟨bs,⟨self,a1,by omega,a2.2⟩,?_⟩
   (try dsimp only[Yiw,Yix,YmN,YmO,raskC,diaC,piC,sclC,ivoC,enc2,go_sem,reduceIte])
   (try simp only[Yc,YGa,YF9,reduceCtorEq,YF8])
   rw[cut_e a1 (show 0<=note/\note<=139 by omega)]at h
   exact⟨by decide,by decide,by decide,by decide,by decide,by decide,Yiy (p:=widS ⟨d,c,bs,mn,md,cn,cd⟩ note) (q:=(cutS ⟨d,c,bs,mn,md,cn,cd⟩ note).1) (e:=0) h⟩
 ·exact h.1.elim
def v14:VF:=⟨60,[.cell 6 true 5,.tmp 7],(ZR [u1 3 .box [.tm 0],u1 6 (.alloc [(.int .i64 0),(.int .i64 0),(.int .i64 0),(.int .i64 0),(.int .i64 0)]) [],Zi 7 0] (ZR [Zt 15 7 3,Zm 16 1,Zd 17 9 15 16,Zm 14 17,Ze 18 0 14,Ze 19 1 14,Ze 20 2 14,Zn 8,Zn 9,Zs 2 8 18,Zs 2 9 19,Zm 10 20] (.seq (ZR [Zm 21 10,Zq 22 .neq 21 0] (ZC 22 (ZR [u1 23 (.build [(.int .i64 0),(.int .i64 0),(.int .i64 0),(.int .i64 0),(.int .i64 0)] []) [],Zm 24 10,Zs 5 6 23,Zm 7 24] .ret) .skip)) (.seq (ZR [Zm 25 2,Zq 26 .lss 25 1,Zm 27 26,Zg 28 27 false 2,u2 29 27 false (.cmp .gtr) [.tm 28,.cn (.int .i64 3)],u1 30 .or [.tm 27,.tm 29]] (ZC 30 (ZR [u1 31 (.build [(.int .i64 0),(.int .i64 0),(.int .i64 0),(.int .i64 0),(.int .i64 0)] []) [],Zs 5 6 31,Zi 7 2] .ret) .skip)) (ZR [Zt 33 7 3,Zm 34 1,Zd 35 7 33 34,Zm 32 35,Ze 36 0 32,Ze 37 1 32,Zn 11,Zs 2 11 36,Zm 12 37] (ZR [Zm 38 2,Za 39 0 11,Zf 40 1 39,Za 41 0 11,Zf 42 1 41,Za 43 0 8,Zf 44 1 43,Za 45 0 9,Zf 46 1 45,u1 47 (.build [(.int .i64 0),(.int .i64 0),(.int .i64 0),(.int .i64 0),(.int .i64 0)] [(0,1),(1,1),(2,1),(3,1),(4,1)]) [.tm 38,.tm 40,.tm 42,.tm 44,.tm 46],u1 13 (.alloc [(.int .i64 0),(.int .i64 0),(.int .i64 0),(.int .i64 0),(.int .i64 0)]) [],Zs 5 13 47] (.seq (ZR [Zm 48 2,Zq 49 .eql 48 3] (ZC 49 (.region [Za 50 0 11,Zf 51 1 50,u1 52 (.ari .mul) [.cn (.int .i64 2),.tm 51],u1 53 .quo [.tm 52,.cn (.int .i64 3)],Za 54 2 13,Zs 1 54 53]) .skip)) (.seq (ZR [Zt 55 5 13,Zc 56 36 55,Zq 57 .neq 56 0] (ZC 57 (ZR [u1 58 (.build [(.int .i64 0),(.int .i64 0),(.int .i64 0),(.int .i64 0),(.int .i64 0)] []) [],Zs 5 6 58,Zi 7 7] .ret) .skip)) (ZR [Zt 59 5 13,Zs 5 6 59,Zi 7 0] .ret)))))))))⟩
theorem YEP:Yg YGc Tryz.f14=some v14:=by kernel_rfl
def v4:VF:=⟨41,[.tmp 6],(ZR [u1 3 .box [.tm 0],u1 6 .mov [.cn (.bool false)]] (.seq (ZR [Za 11 2 3,Zf 12 1 11,Zl 13 12,Zq 14 .gtr 13 100] (ZC 14 (ZR [u1 15 (.call 12) [],Zm 6 15] .ret) .skip)) (ZR [Zt 17 7 3,Zm 18 1,Zm 19 2,u1 20 (.call 13) [.tm 17,.tm 18,.tm 19],Zm 16 20,Ze 21 0 16,Ze 22 1 16,u1 7 (.alloc [(.int .i64 0),(.int .i64 0),(.int .i64 0),(.int .i64 0),(.int .i64 0)]) [],Zs 5 7 21,Zm 8 22] (ZR [Zt 24 7 3,Zm 25 1,Zm 26 2,u1 27 (.call 14) [.tm 24,.tm 25,.tm 26],Zm 23 27,Ze 28 0 23,Ze 29 1 23,u1 9 (.alloc [(.int .i64 0),(.int .i64 0),(.int .i64 0),(.int .i64 0),(.int .i64 0)]) [],Zs 5 9 28,Zm 10 29] (ZR [Zt 30 5 7,Zt 31 5 9,u1 32 (.eqv false [true,true,true,true,true]) [.tm 30,.tm 31],Zm 33 32,Zg 34 33 true 8,Zg 35 33 true 10,u2 36 33 true (.cmp .eql) [.tm 34,.tm 35],u1 37 .and [.tm 33,.tm 36],Zm 38 37,u2 39 38 true (.call 12) [],u1 40 .and [.tm 38,.tm 39],Zm 6 40] .ret)))))⟩
theorem v4_is:Yg YGc Tryz.f4=some v4:=by kernel_rfl
def SM3:Env:={ ct:=fun n=>match n with|9=>some mouC|7=>some diaFC|36=>some chkBC|_=>none,fn:=fun _=>none,meth:=fun _ _=>none}
theorem Yxk:SM3.ct 9=some mouC:=rfl
theorem Yxj:SM3.ct 7=some diaFC:=rfl
theorem YtW:SM3.ct 36=some chkBC:=rfl
theorem YBS:Yq YGc SM3:=by
 refine⟨fun f c h=>?_,fun f vf h=>?_,(fun _ _ _ h=>by cases h),by kernel_rfl,(fun _ h=>by cases h)⟩
 ·simp only[SM3]at h
  split at h
  ·cases h;exact⟨YEs,Tryz.f9,Tryz.func9,by kernel_rfl,by kernel_rfl⟩
  ·cases h;exact⟨YzH,Tryz.f7,Tryz.func7,by kernel_rfl,by kernel_rfl⟩
  ·cases h;exact⟨YzE,Tryz.f36,Tryz.func36,by kernel_rfl,by kernel_rfl⟩
  ·cases h
 ·cases h
theorem in_13(k:Int):inF k 1 3= !(decide (k<1) || decide (3<k)):=by
 unfold inF
 rw[YHz,YGi,decide_eq_true_eq,decide_eq_true_eq,YGA,YG8,decide_eq_false_iff_not,decide_eq_false_iff_not]
 omega
theorem YEm:bodC.ok YGc 14:=by
 refine Yb Tryz.func14 YEP YBS 400 bodC fun args k h=>?_
 simp only[bodC]at h
 split at h
 ·rename_i d c tt z n sz get mn md cn cd note kind
  obtain⟨bs,⟨⟨rfl,rfl,hg⟩,hn⟩,h⟩:=h
  refine⟨[.agg [.int .i64 d,.int .i64 c,.vs tt z bs.length 2 (fun k=>enc2 (bs.getD k default)),.int .i64 mn,.int .i64 md,.int .i64 cn,.int .i64 cd],.int .i64 note,.int .i64 kind],⟨⟨⟨rfl,rfl⟩,⟨rfl,rfl⟩,⟨id,rfl,rfl,rfl,hg⟩,⟨rfl,rfl⟩,⟨rfl,rfl⟩,⟨rfl,rfl⟩,⟨rfl,rfl⟩,trivial⟩,⟨rfl,rfl⟩,⟨rfl,rfl⟩,trivial⟩,?_⟩
  have h:k (.tup [.agg (encY (bodF ⟨d,c,bs,mn,md,cn,cd⟩ note kind).1),.int .i64 (bodF ⟨d,c,bs,mn,md,cn,cd⟩ note kind).2]) []:=h
  dsimp only[v14,Yxk,Yxj,YtW,mouC,diaFC,chkBC,enc2,go_sem,reduceIte]
  simp only[Yc,YGa,YF9,reduceCtorEq,YF8]
  have self:lsP 2 enc2 bs.length 2 (fun k=>[SV.int IntKind.i64 (bs.getD k default).fst,SV.int IntKind.i64 (bs.getD k default).snd]) bs:=⟨rfl,rfl,fun k _=>Yd _⟩
  refine⟨bs,⟨self,hn⟩,by decide,by decide,by decide,fun hc=>?_,fun hc=>?_⟩
  ·rw[bodF,if_pos hc]at h
   exact Yba (p:=bod0) h
  ·rw[bodF,if_neg (by rw[hc];decide)]at h
   have hask:askS ⟨d,c,bs,mn,md,cn,cd⟩ note note=0:=by
    by_cases h0:askS ⟨d,c,bs,mn,md,cn,cd⟩ note note=0
    ·exact h0
    ·rw[mouS,if_pos h0]at hc;exact absurd hc h0
   obtain⟨hs,n0,_⟩:=Yol hask
   have hf:=Ycl hs
   have hm:mouS ⟨d,c,bs,mn,md,cn,cd⟩ note=(widS ⟨d,c,bs,mn,md,cn,cd⟩ note,(cutS ⟨d,c,bs,mn,md,cn,cd⟩ note).1,(cutS ⟨d,c,bs,mn,md,cn,cd⟩ note).2):=by
    rw[mouS,if_neg (by rw[hask];decide)]
   have hd:diaF ⟨d,c,bs,mn,md,cn,cd⟩ note=(diaS ⟨d,c,bs,mn,md,cn,cd⟩ note,0):=by
    rw[diaF,if_neg (by rw[hask];decide)]
   obtain⟨d0,d1,d2,d3⟩:=YlH hs (note:=note) (by omega)
   rw[in_13]at h
   refine⟨fun hi=>?_,fun hi=>⟨bs,⟨self,hn⟩,by decide,by decide,?_⟩⟩
   ·rw[if_neg (by rw[hi];decide)]at h
    exact Yba (p:=bod0) h
   ·rw[if_pos (by rw[hi];rfl)]at h
    rw[hd,hm]
    dsimp only
    have e1:IntKind.i64.wrap (2*(diaS ⟨d,c,bs,mn,md,cn,cd⟩ note).1)=2*(diaS ⟨d,c,bs,mn,md,cn,cd⟩ note).1:=YGd _ (by omega)
    have e2:IntKind.i64.wrap (Int.tdiv (2*(diaS ⟨d,c,bs,mn,md,cn,cd⟩ note).1) 3)=Int.tdiv ((diaS ⟨d,c,bs,mn,md,cn,cd⟩ note).1*2) 3:=by
     rw[Int.mul_comm 2]
     refine YGd _ ?_
     rw[Int.tdiv_eq_ediv_of_nonneg (by omega)]
     omega
    rw[e1,e2]
    refine⟨fun hk=>⟨by decide,fun hx=>?_,fun hx=>?_⟩,fun hk=>⟨fun hx=>?_,fun hx=>?_⟩⟩
    all_goals
     have hB:bodB ⟨d,c,bs,mn,md,cn,cd⟩ note kind=⟨kind,(diaS ⟨d,c,bs,mn,md,cn,cd⟩ note).1,if kind=3 then Int.tdiv ((diaS ⟨d,c,bs,mn,md,cn,cd⟩ note).1*2) 3 else(diaS ⟨d,c,bs,mn,md,cn,cd⟩ note).1,(widS ⟨d,c,bs,mn,md,cn,cd⟩ note).1,(cutS ⟨d,c,bs,mn,md,cn,cd⟩ note).1.1⟩:=rfl
     first|rw[if_pos hk]at hB|rw[if_neg hk]at hB
     rw[hB]at h
    ·rw[if_pos hx]at h
     exact Yba (p:=bod0) h
    ·rw[if_neg (by rw[hx];decide)]at h
     exact Yba h
    ·rw[if_pos hx]at h
     exact Yba (p:=bod0) h
    ·rw[if_neg (by rw[hx];decide)]at h
     exact Yba h
 ·exact h.1.elim
def shS:List Sh:=[.int .i64,.int .i64,.slice Yxv,.int .i64,.int .i64,.int .i64,.int .i64]
def YCT:List PSh:=[⟨true,shS⟩,⟨false,[.int .i64]⟩,⟨false,[.int .i64]⟩]
theorem YEy{cs:List SV}(h:okSL shS cs):∃(z:Bool) (s:Scl),s.bs.length<=9223372036854775807/\leXL cs [.int .i64 s.d,.int .i64 s.c,.vs false z s.bs.length 2 (fun k=>enc2 (s.bs.getD k default)),.int .i64 s.mn,.int .i64 s.md,.int .i64 s.cn,.int .i64 s.cd]:=by
 obtain⟨_,_,rfl,⟨n1,rfl,_⟩,e1⟩:=YT h
 obtain⟨_,_,rfl,⟨n2,rfl,_⟩,e2⟩:=YT e1
 obtain⟨_,_,rfl,h3,e3⟩:=YT e2
 obtain⟨_,_,rfl,⟨n4,rfl,_⟩,e4⟩:=YT e3
 obtain⟨_,_,rfl,⟨n5,rfl,_⟩,e5⟩:=YT e4
 obtain⟨_,_,rfl,⟨n6,rfl,_⟩,e6⟩:=YT e5
 obtain⟨_,_,rfl,⟨n7,rfl,_⟩,e7⟩:=YT e6
 cases YfX e7
 obtain⟨z,l,hl,hle⟩:=YCQ h3
 rw[YrL]at hl
 exact⟨z,⟨n1,n2,l,n4,n5,n6,n7⟩,hl,⟨rfl,rfl⟩,⟨rfl,rfl⟩,hle,⟨rfl,rfl⟩,⟨rfl,rfl⟩,⟨rfl,rfl⟩,⟨rfl,rfl⟩,trivial⟩
def SM4:Env:={ ct:=fun n=>match n with|13=>some bodC|14=>some bodC|12=>some trueC|_=>none,fn:=fun _=>none,meth:=fun _ _=>none}
theorem YtY:SM4.ct 13=some bodC:=rfl
theorem YtZ:SM4.ct 14=some bodC:=rfl
theorem YtX:SM4.ct 12=some trueC:=rfl
theorem YBT:Yq YGc SM4:=by
 refine⟨fun f c h=>?_,fun f vf h=>?_,(fun _ _ _ h=>by cases h),by kernel_rfl,(fun _ h=>by cases h)⟩
 ·simp only[SM4]at h
  split at h
  ·cases h;exact⟨bod_c,Tryz.f13,Tryz.func13,by kernel_rfl,by kernel_rfl⟩
  ·cases h;exact⟨YEm,Tryz.f14,Tryz.func14,by kernel_rfl,by kernel_rfl⟩
  ·cases h;exact⟨YzU,Tryz.f12,Tryz.func12,by kernel_rfl,by kernel_rfl⟩
  ·cases h
 ·cases h
theorem Yrh:(lawC YCT).ok YGc 4:=by
 refine Yb Tryz.func4 v4_is YBT 600 (lawC YCT) fun args k h=>?_
 obtain⟨ha,hk⟩:=h
 obtain⟨_,_,rfl,h1,e1⟩:=YcR ha
 obtain⟨cs,rfl,hcs⟩:=Yl0 h1
 obtain⟨_,_,rfl,h3,e3⟩:=YcR e1
 obtain⟨_,_,rfl,h4,e4⟩:=YcR e3
 cases YkR e4
 obtain⟨note,rfl,hnote⟩:=Yg7 h3
 obtain⟨kind,rfl,hkind⟩:=Yg7 h4
 obtain⟨z,⟨d,c,bs,mn,md,cn,cd⟩,hl,hle⟩:=YEy hcs
 simp only at hl hle
 refine⟨[.agg [.int .i64 d,.int .i64 c,.vs false z bs.length 2 (fun k=>enc2 (bs.getD k default)),.int .i64 mn,.int .i64 md,.int .i64 cn,.int .i64 cd],.int .i64 note,.int .i64 kind],⟨Yjh _ _ hle (by simp only[Ykd,Ym3,YvL,Yqg,and_self]),⟨rfl,rfl⟩,⟨rfl,rfl⟩,trivial⟩,?_⟩
 have self:lsP 2 enc2 bs.length 2 (fun k=>[SV.int IntKind.i64 (bs.getD k default).fst,SV.int IntKind.i64 (bs.getD k default).snd]) bs:=⟨rfl,rfl,fun k _=>Yd _⟩
 dsimp only[v4,YtY,YtZ,YtX,bodC,trueC,encY,enc2,go_sem,reduceIte]
 simp only[Yc,YGa,YF9,reduceCtorEq,YF8]
 have hk':k (.bool true) []:=hk
 refine⟨fun _=>YK hk',fun _=>⟨bs,⟨self,hl⟩,by decide,by decide,bs,⟨self,hl⟩,by decide,by decide,?_⟩⟩
 simp only[decide_true,Bool.and_self,Bool.and_true,YHq]
 exact YK hk'
end Go.Proofs.YtmiclogmkfobgaaGreat
namespace Go.Proofs.YtmiclogmkfobgaaGreat
open Go Go.Vx Go.RowKit
set_option maxRecDepth 100000
theorem YDs:ownKnob YGc.godebug=none:=by kernel_rfl
theorem YyC:laidOutB YGc=true:=by kernel_rfl
theorem Yd5(os:Os)(started:os.Started)(H:Type)(enc:TypeId×Value->H):
 ReturnsInHanded {} Tryz.checked os 4 .any (Rows.lengthsBodiesSpec.pre6 enc YGc Tryz.f4 Rows.lengthsBodiesRow.domain false) (Rows.lengthsBodiesSpec.post enc YGc Tryz.f4 false true false false):=
 Yox (C:=Tryz.checked) (tb:=4) YDs started (by kernel_rfl) Tryz.func4 YyC
  (ChangeSpec.witness6 (enc:=enc) (C:=Tryz.checked) false ⟨#[], #[.agg #[.int .i64 0,.int .i64 0,.slice none 0 0,.int .i64 0,.int .i64 0,.int .i64 0,.int .i64 0],.int .i64 0,.int .i64 0],[]⟩ 8 (by kernel_rfl) (by kernel_rfl) (by kernel_rfl) (by kernel_rfl))
  (by kernel_rfl) (by kernel_rfl) (by kernel_rfl) (by kernel_rfl) rfl (fun ds h=>match ds,h with| [_,_,_],_=>⟨rfl,rfl,rfl⟩) Yrh
theorem lengthsBodies_holds:Rows.LengthsBodiesSaid:=
 OpenClaim.holds_of_wide 4 Tryz.f4 rfl rfl rfl rfl rfl rfl rfl ⟨rfl,rfl,rfl,rfl,rfl⟩ rfl rfl rfl rfl rfl (by kernel_rfl) Tryz.func4 (by kernel_rfl)
  (of_decide_eq_true (by kernel_rfl)) (by unfold Func.isWrapper;first| (rw[if_pos (by decide+kernel)];kernel_rfl) | (rw[if_neg (by decide+kernel)];exact⟨rfl,rfl⟩))
  (fun os started H enc _=>Yd5 os started H enc)
end Go.Proofs.YtmiclogmkfobgaaGreat
