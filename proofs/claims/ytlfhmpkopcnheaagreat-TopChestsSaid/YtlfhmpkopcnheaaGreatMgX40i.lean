/- builtRows, walked. -/
import Derived.Test.YtlfhmpkopcnheaaGreatMgX40h
import Derived.Test.YtlfhmpkopcnheaaGreatRows
open Bool renaming and_eq_true->YHn,not_eq_true->YIp,or_eq_false_iff->YHp
open Int renaming le_refl->YIs,mul_le_mul_of_nonneg_left->YHU,mul_nonneg->YIe,toNat->YH0,toNat_natCast->YHj
open Go.IntWalk renaming i64_in->YHi
open List renaming any_eq_false->YHP,getD_eq_getElem?_getD->YHo,mem_map->YIr,range->YIc
open Nat renaming le_refl->YHr,not_lt_zero->YIf,reduceAdd->YHf,reduceEqDiff->YHg,reduceLeDiff->YHh,zero_le->YHK
open Go.Proofs.Tryz renaming prog->YHk
set_option linter.all false
namespace Go.Proofs.YtlfhmpkopcnheaaGreat
open Go Go.Vx
set_option maxRecDepth 100000
set_option maxHeartbeats 8000000
def v7:VF:=⟨157,[.tmp 4],(ZR [u1 2 .box [.tm 0],u1 4 .mov [.cn (.bool false)]] (ZR [u1 5 .mov [.cn .nil]] (.seq (ZR [Zi 6 0] (.block 0 (.loop (.seq (ZR [Zm 14 6,Zm 15 1,Zl 16 15,Zr 17 .lss 14 16] (ZC 17 .skip (.exit 0))) (.seq (.block 1 (.draw [] [Zu 20 5,Zu 21 1,Zu 22 6,ZX 23 2 21 22,Zy 24 1 23,Zv 25 1 24,w1 26 (.ari .add) [.tm 25,.cn (.int .i64 1)],w1 27 .quo [.tm 26,.cn (.int .i64 2)],Zw 28 24 2,Zu 29 6,Zz 30 13 28 29,w1 31 (.build [(.int .i64 0),(.int .i64 0)] [(0,1),(1,1)]) [.tm 27,.tm 30],w1 32 (.buildSlice 2 1 [(.int .i64 0),(.int .i64 0)] [(0,2)]) [.tm 31],w1 33 (.append 2 16 [(.int .i64 0),(.int .i64 0)]) [.tm 20,.tm 32],Zu 5 33])) (.region [Zm 18 6,Zp 19 18 1,Zm 6 19])))))) (ZR [Za 35 13 2,Zt 36 6 35,Zm 37 5,Zd 38 10 36 37,Zm 34 38,Ze 39 0 34,Ze 40 1 34,Zm 7 39,Zm 8 40] (.seq (ZR [Zm 41 8,Zq 42 .neq 41 0] (ZC 42 (ZR [Zm 43 7,Zl 44 43,Zq 45 .eql 44 0,Zm 4 45] .ret) .skip)) (.seq (ZR [Zm 46 7,Zl 47 46,Zm 48 1,Zl 49 48,Zr 50 .neq 47 49,Zm 51 50,Zj 52 51 false 13 2,u2 53 51 false (.load true 6) [.tm 52],Zg 54 51 false 7,u2 55 51 false (.call 18) [.tm 53,.tm 54],u2 56 51 false (.cmp .neq) [.tm 55,.cn (.int .i64 0)],u1 57 .or [.tm 51,.tm 56]] (ZC 57 (ZR [u1 4 .mov [.cn (.bool false)]] .ret) .skip)) (.seq (ZR [Zi 9 0] (.block 2 (.loop (.seq (ZR [Zm 58 9,Zm 59 7,Zl 60 59,Zr 61 .lss 58 60] (ZC 61 .skip (.exit 2))) (.seq (.block 3 (.seq (ZR [Zi 10 0] (.block 4 (.loop (.seq (ZR [Zm 64 10,Zm 65 9,Zr 66 .lss 64 65] (ZC 66 .skip (.exit 4))) (.seq (.block 5 (.seq (.draw [] [Zu 69 7,Zu 70 9,ZX 71 4 69 70,Zy 72 0 71,Zv 73 1 72,Zu 74 7,Zu 75 10,ZX 76 4 74 75,Zy 77 0 76,Zv 78 1 77,w1 79 (.ari .sub) [.tm 73,.tm 78],w1 80 (.ari .mul) [.cn (.int .i64 2),.tm 79],Zu 81 7,Zu 82 9,ZX 83 4 81 82,Zy 84 1 83,Zv 85 1 84,Zu 86 7,Zu 87 10,ZX 88 4 86 87,Zy 89 1 88,Zv 90 1 89,w1 91 (.ari .sub) [.tm 85,.tm 90],w1 92 (.ari .mul) [.cn (.int .i64 2),.tm 91],Zu 11 80,Zu 12 92]) (.seq (.draw [] [Zu 93 1,Zu 94 9,ZX 95 2 93 94,Zy 96 1 95,Zv 97 1 96,Zu 98 1,Zu 99 10,ZX 100 2 98 99,Zy 101 1 100,Zv 102 1 101,w1 103 (.ari .add) [.tm 97,.tm 102],Zy 104 13 2,Zy 105 2 104,Zv 106 1 105,w1 107 (.ari .mul) [.cn (.int .i64 2),.tm 106],w1 108 (.ari .add) [.tm 103,.tm 107],Zu 13 108]) (ZR [Zm 109 11,Zm 110 11,Zo 111 .mul 109 110,Zm 112 12,Zm 113 12,Zo 114 .mul 112 113,Zo 115 .add 111 114,Zm 116 13,Zm 117 13,Zo 118 .mul 116 117,Zr 119 .lss 115 118] (ZC 119 (ZR [u1 4 .mov [.cn (.bool false)]] .ret) .skip))))) (.region [Zm 67 10,Zp 68 67 1,Zm 10 68])))))) (.seq (.draw [] [Zu 120 7,Zu 121 9,ZX 122 4 120 121,Zy 123 0 122,Zv 124 1 123,w1 125 (.ari .mul) [.cn (.int .i64 2),.tm 124],Zu 126 1,Zu 127 9,ZX 128 2 126 127,Zy 129 0 128,Zv 130 1 129,w1 131 (.cmp .lss) [.tm 125,.tm 130],Zu 132 131,⟨Zg 133 132 false 7,[]⟩,⟨Zg 134 132 false 9,[]⟩,⟨u2 135 132 false (.idxAddr 4) [.tm 133,.tm 134],[]⟩,⟨Zj 136 132 false 1 135,[]⟩,⟨Zh 137 132 false 1 136,[]⟩,⟨u2 138 132 false (.ari .mul) [.cn (.int .i64 2),.tm 137],[]⟩,⟨Zg 139 132 false 1,[]⟩,⟨Zg 140 132 false 9,[]⟩,⟨u2 141 132 false (.idxAddr 2) [.tm 139,.tm 140],[]⟩,⟨Zj 142 132 false 0 141,[]⟩,⟨Zh 143 132 false 1 142,[]⟩,⟨u2 144 132 false (.cmp .lss) [.tm 138,.tm 143],[]⟩,w1 145 .or [.tm 132,.tm 144],Zu 146 145,⟨Zg 147 146 false 7,[]⟩,⟨Zg 148 146 false 9,[]⟩,⟨u2 149 146 false (.idxAddr 4) [.tm 147,.tm 148],[]⟩,⟨Zj 150 146 false 3 149,[]⟩,⟨Zh 151 146 false 1 150,[]⟩,⟨u2 152 146 false (.load true 24) [.tm 2],[]⟩,⟨Zg 153 146 false 9,[]⟩,⟨u2 154 146 false (.call 13) [.tm 152,.tm 153],[]⟩,⟨u2 155 146 false (.cmp .neq) [.tm 151,.tm 154],[]⟩,w1 156 .or [.tm 146,.tm 155]]) (ZC 156 (ZR [u1 4 .mov [.cn (.bool false)]] .ret) .skip)))) (.region [Zm 62 9,Zp 63 62 1,Zm 9 63])))))) (ZR [u1 4 .mov [.cn (.bool true)]] .ret))))))))⟩
theorem v7_is:Ye YHk Tryz.f7=some v7:=by kernel_rfl
def browC:Ctr:={ alias:=false,of:=fun l=>match l with
 | [.agg cs,.vs _ _ n sz get]=> .ex Blt fun X=> .pre (cs=bltC X/\X.good/\lsP 2 enc2 n sz get (tabL X.s X.lo X.hi)) (.fin (.bool true) [])
 |_=>noC}
def TB6:Env:={ ct:=fun n=>match n with|13=>some lenBC|10=>some rowC|18=>some ckC|_=>none,fn:=fun _=>none,meth:=fun _ _=>none}
theorem YfP:TB6.ct 13=some lenBC:=rfl
theorem YfO:TB6.ct 10=some rowC:=rfl
theorem YfQ:TB6.ct 18=some ckC:=rfl
theorem YC6:Yn YHk TB6:=by
 refine⟨fun f c h=>?_,fun f vf h=>?_,(fun _ _ _ h=>by cases h),by kernel_rfl,(fun _ h=>by cases h),(fun _ _ h=>by cases h)⟩
 ·simp only[TB6]at h
  split at h
  ·cases h;exact⟨Yxt,Tryz.f13,Tryz.func13,by kernel_rfl,by kernel_rfl⟩
  ·cases h;exact⟨Ytf,Tryz.f10,Tryz.func10,by kernel_rfl,by kernel_rfl⟩
  ·cases h;exact⟨ck_ok,Tryz.f18,Tryz.func18,by kernel_rfl,by kernel_rfl⟩
  ·cases h
 ·cases h
theorem YDw:browC.ok YHk 7:=by
 refine Yb Tryz.func7 v7_is YC6 900 browC fun args k h=>?_
 simp only[browC]at h
 split at h
 ·rename_i cs tt z n sz get
  obtain⟨X,⟨rfl,hX,hts⟩,h⟩:=h
  have h:k (.bool true) []:=h
  have tl:=Ydk hX
  have tg:= @Ymo X hX
  obtain⟨t,ht⟩:∃t,t=tabL X.s X.lo X.hi:=⟨_,rfl⟩
  rw[<-ht]at hts tl
  have tg:∀k,k<rngB X->t.getD k default=diaS X.s (X.lo+k):=fun k hk=>by rw[ht];exact tg hk
  obtain⟨rfl,rfl,hg⟩:=hts
  refine⟨[.agg (bltC X),.vs tt z t.length 2 (fun k=>enc2 (t.getD k default))],⟨Yx _ (by simp [bltC,bndL,bnd]),⟨id,rfl,rfl,rfl,hg⟩,trivial⟩,?_⟩
  dsimp only[v7,bltC,enc2,YfP,YfO,YfQ,lenBC,rowC,ckC,lsS,encS,encU,encT,Y9,YHj,go_sem,reduceIte,YHf]
  simp only[Yc,YHf,YHh,reduceCtorEq,YHg]
  have hb0:=Yfo hX
  refine Loop.keep [1,0,1] (Nat×Bool) (fun s=>[(5,.own 1 0 s.1 2),(6,.int .i64 s.1)]) (fun s=>[(1,.own s.2 2 s.1 (fun k=>encT (Yjb X k)))]) [.gone] (fun s=>s.1<=rngB X/\(s.2=true->s.1=0)) (fun s=>rngB X-s.1) ?_ ?_
  ·refine⟨(0,true),⟨YHK _,fun _=>rfl⟩,?_⟩
   dsimp only[go_sem,reduceIte,YHf]
   simp only[Ya]
   exact⟨by decide,by decide,rfl⟩
  rintro⟨i,z1⟩ ⟨hi,hz⟩
  replace hi:i<=rngB X:=hi
  replace hz:z1=true->i=0:=hz
  dsimp only[v7,bltC,enc2,YfP,YfO,YfQ,lenBC,rowC,ckC,lsS,encS,encU,encT,Y9,YHj,go_sem,reduceIte,YHf]
  simp only[Yc,YHf,YHh,reduceCtorEq,YHg]
  refine⟨fun hlt=>⟨⟨by omega,by omega⟩,by decide,X.low,i,⟨rfl,hX.1,hX.2.1,rfl,by omega⟩,by decide,⟨by unfold Y3;omega,fun q hq=>match q,hq with|0,_=>⟨rfl,trivial,trivial,trivial⟩⟩,(i+1,false),⟨by show i+1<=_;omega,fun h0=>(by cases h0)⟩,by show _-(i+1)<_;omega,?_⟩,fun hge=>?_⟩
  ·have hir:i<rngB X:=by omega
   have hd:=YdZ hb0.1 (note:=X.lo+i) (by omega)
   have e1:IntKind.i64.wrap ((IntKind.i64.wrap ((t.getD i default).2+1)).tdiv 2)=(Yjb X i).1:=by
    rw[tg i hir,YHi ((diaS X.s (X.lo+i)).2+1) (by omega),Int.tdiv_eq_ediv_of_nonneg (by omega),YHi _ (by omega)]
    rfl
   rw[e1,show lenB X.low i=(Yjb X i).2 from rfl,YHi ((i:Int)+1) (by omega)]
   simp only[Ya]
   refine⟨⟨by decide,by decide,rfl⟩,by cases z1 <;> rfl,fun q hq=>?_⟩
   by_cases cq:q<i
   ·rw[if_pos cq];exact Yx [.int _ _,.int _ _] ⟨trivial,trivial,trivial⟩
   ·obtain rfl:q=i:=by omega
    rw[if_neg cq,Nat.sub_self]
    exact Yx [.int _ _,.int _ _] ⟨trivial,trivial,trivial⟩
  ·obtain rfl:i=rngB X:=by omega
   have selfT:lsP 2 encT (rngB X) 2 (fun k=>[SV.int IntKind.i64 (Yjb X k).1,SV.int IntKind.i64 (Yjb X k).2]) (Yi6 X):=⟨rfl,(Yi8 X).symm,fun k hk=>by rw[Yi7 hk];exact Yd _⟩
   have err:= @Yww X.b (Yi6 X)
   have good:= @Yti X.b (Yi6 X)
   refine⟨X.b,Yi6 X,⟨Ybv _,selfT,by rw[Yi8];omega⟩,by decide,by decide,?_⟩
   obtain⟨R,hR⟩:∃R,R=YaQ X.b (Yi6 X):=⟨_,rfl⟩
   rw[<-hR]at err good⊢
   refine⟨fun hne=>?_,fun heq=>⟨X.b,R.1,fun _=>⟨Ybv _,rfl,rfl,fun k _=>Yd _⟩,?_⟩⟩
   ·rw[err hne];exact Yi h
   obtain⟨g1,g2,g3,g4,g5,g6⟩:=good heq
   rw[Yi8]at g1 g4 g5 g6
   rw[g2,decide_eq_true (show(R.1.length:Int)=(t.length:Int)by omega)]
   refine⟨fun hb=>(by cases hb),fun _=>?_⟩
   refine Loop.keep [1,0,1,2] Nat (fun j=>[(9,.int .i64 j)]) (fun _=>[]) [] (fun j=>j<=rngB X) (fun j=>rngB X-j) ?_ ?_
   ·refine⟨0,YHK _,?_⟩
    dsimp only[go_sem,reduceIte,YHf]
    simp only[Ya]
    exact⟨by decide,rfl⟩
   rintro j hj
   dsimp only[v7,bltC,enc2,YfP,YfO,YfQ,lenBC,rowC,ckC,lsS,encS,encU,encT,Y9,YHj,go_sem,reduceIte,YHf]
   simp only[Yc,YHf,YHh,reduceCtorEq,YHg]
   refine⟨fun hlt=>?_,fun hge2=>?_⟩
   ·have hjr:j<rngB X:=by omega
    refine Loop.keep [1,0,1,2,1] Nat (fun m=>[(10,.int .i64 m)]) (fun _=>[]) [] (fun m=>m<=j) (fun m=>j-m) ?_ ?_
    ·refine⟨0,YHK _,?_⟩
     dsimp only[go_sem,reduceIte,YHf]
     simp only[Ya]
     exact⟨by decide,rfl⟩
    rintro m hm
    dsimp only[v7,bltC,enc2,YfP,YfO,YfQ,lenBC,rowC,ckC,lsS,encS,encU,encT,Y9,YHj,go_sem,reduceIte,YHf]
    simp only[Yc,YHf,YHh,reduceCtorEq,YHg]
    have dj:=YlY hb0.1 (note:=X.lo+j) (by omega)
    have dj2:=YdZ hb0.1 (note:=X.lo+j) (by omega)
    obtain⟨⟨_,_,px,py⟩,⟨pr,ph⟩,pa,pb⟩:=g5 j hjr
    rw[Yi7 hjr]at pr ph
    simp only[Yjb]at pr ph
    refine⟨fun hlt2=>⟨by omega,by omega,by omega,by omega,by omega,by omega,?_⟩,fun hge3=>?_⟩
    ·have hmr:m<rngB X:=by omega
     have dm:=YlY hb0.1 (note:=X.lo+m) (by omega)
     have dm2:=YdZ hb0.1 (note:=X.lo+m) (by omega)
     obtain⟨⟨_,_,qx,qy⟩,⟨qr,qh⟩,_,_⟩:=g5 m hmr
     rw[Yi7 hmr]at qr qh
     simp only[Yjb]at qr qh
     have ap:=apart (s:=(diaS X.s (X.lo+j)).2) (t:=(diaS X.s (X.lo+m)).2) g3.1 (by omega) (by omega) (g6 m j (by omega) hjr)
     rw[tg j hjr,tg m hmr]
     generalize R.1.getD j default=p at*
     generalize R.1.getD m default=q at*
     generalize(diaS X.s (X.lo+j)).2=s1 at*
     generalize(diaS X.s (X.lo+m)).2=s2 at*
     have k1:midN (2*(p.x-q.x)):=by unfold midN;omega
     have k2:midN (2*(p.y-q.y)):=by unfold midN;omega
     have k3:midN (s1+s2+2*X.b.c):=by unfold midN;omega
     have l1:=Ye8 k1 k1
     have l2:=Ye8 k2 k2
     have l3:=Ye8 k3 k3
     rw[YN (x:=p.x-q.x) (by omega),YN (x:=p.y-q.y) (by omega),YN (x:=2*(p.x-q.x)) (by omega),YN (x:=2*(p.y-q.y)) (by omega),YN (x:=s1+s2) (by omega),YN (x:=2*X.b.c) (by omega),YN (x:=s1+s2+2*X.b.c) (by omega),YN (x:=2*(p.x-q.x)*(2*(p.x-q.x))) (by omega),YN (x:=2*(p.y-q.y)*(2*(p.y-q.y))) (by omega),YN (x:=(s1+s2+2*X.b.c)*(s1+s2+2*X.b.c)) (by omega),YN (x:=2*(p.x-q.x)*(2*(p.x-q.x))+2*(p.y-q.y)*(2*(p.y-q.y))) (by omega)]
     refine⟨fun hb=>by omega,fun _=>⟨m+1,by omega,by omega,?_⟩⟩
     rw[YN (x:=(m:Int)+1) (by omega)]
     simp only[Ya]
     exact⟨by decide,rfl⟩
    ·have e1:decide (IntKind.i64.wrap (2*(R.1.getD j default).x)<(t.getD j default).1)=false:=by
      rw[tg j hjr,YN (by omega)]
      exact decide_eq_false (by omega)
     have e2:decide (IntKind.i64.wrap (2*(R.1.getD j default).y)<(t.getD j default).1)=false:=by
      rw[tg j hjr,YN (by omega)]
      exact decide_eq_false (by omega)
     refine⟨by omega,by omega,fun _=>by omega,fun _=>by omega,fun _=>by omega,X.low,j,fun _=>⟨rfl,hX.1,hX.2.1,rfl,by omega⟩,?_⟩
     rw[e1,e2,ph,show lenB X.low j=lenB X j from rfl,decide_eq_true rfl]
     refine⟨fun hb=>(by cases hb),fun _=>⟨j+1,by omega,by omega,?_⟩⟩
     rw[YN (x:=(j:Int)+1) (by omega)]
     simp only[Ya]
     exact⟨by decide,rfl⟩
   ·exact Yi h
 ·exact h.1.elim
def Ygq(X:Blt)(i:Nat):Int:=min (max ((diaS X.s (X.lo+i)).1*X.q/256) 100) 100000
def chnX(X:Blt)(i:Nat):Chn:=(false,[(Ygq X i,700)])
def Ykv(X:Blt):List Chn:=(YIc (rngB X)).map (chnX X)
def bstX(X:Blt)(i:Nat):List Int:=Yaf (Yae (chnX X i).2) X.w X.P
theorem Yel(X:Blt):(Ykv X).length=rngB X:=by unfold Ykv;rw[List.length_map,List.length_range]
theorem YiN{X:Blt}{k:Nat}(hk:k<rngB X):(Ykv X).getD k default=chnX X k:=by
 unfold Ykv
 rw[YHo,List.getElem?_map,List.getElem?_range hk];rfl
theorem YiI(X:Blt)(i:Nat):100<=Ygq X i/\Ygq X i<=100000:=by unfold Ygq;omega
theorem Yrj{X:Blt}(h:X.good){i:Nat}(hi:i+1<rngB X):Ygq X (i+1)<=Ygq X i:=by
 obtain⟨h1,h2,h3,h4,h5⟩:=Yfo h
 have c:=(Ynq h1 (note:=X.lo+i) (by omega) (by omega)).1
 have d:=(YdZ h1 (note:=X.lo+i+1) (by omega)).1
 have q:=h.1.2.2.2.2.2
 have m:=YO c (YIs X.q) d q.1
 unfold Ygq
 rw[show X.lo+((i+1:Nat):Int)=X.lo+(i:Int)+1 by omega]
 have m2:(diaS X.s (X.lo+i+1)).1*X.q/256<=(diaS X.s (X.lo+i)).1*X.q/256:=Int.ediv_le_ediv (by decide) m
 omega
theorem Yze(X:Blt)(i:Nat):chkT (chnX X i).2=0:=by
 have:=YiI X i
 have e:toeB (Ygq X i,700)=false:=by
  unfold toeB
  rw[YHp,outN_f,outN_f]
  exact⟨this,show(100:Int)<=700/\(700:Int)<=1000 by decide⟩
 unfold chkT chnX
 simp [e]
theorem YrF{a b:Int}(h0:0<=a)(h:a<=b)(h1:b<=100000):(YbJ a).2<=(YbJ b).2:=by
 unfold YbJ
 rw[YfW h0 (by omega),YfW (by omega) h1]
 simp only
 rw[(YaT h0 (by omega) true).2.2.2,(YaT (by omega) h1 true).2.2.2]
 simp only[rndT,if_true]
 have:=YO h h h0 (by omega)
 omega
theorem Ym9(X:Blt)(i:Nat):Yae (chnX X i).2=((YbJ (Ygq X i)).1,(YbJ (Ygq X i)).2):=by
 unfold chnX Yae
 simp
theorem Yq0{X:Blt}(h:X.good){i k:Nat}(hk:k=i\/k=i+1)(hi:k<rngB X):(Yae (chnX X k).2).2<=(Yae (chnX X i).2).2:=by
 rw[Ym9,Ym9]
 simp only
 rcases hk with rfl|rfl
 ·exact YIs _
 ·have a:=YiI X i
  have b:=YiI X (i+1)
  exact YrF (by omega) (Yrj h hi) a.2
def plnX(X:Blt):List (List Int)×Int:=plnF (Ykv X) X.P X.w
theorem YAo{X:Blt}(h:(plnX X).2≠0):(plnX X).1=[]:=by
 unfold plnX plnF at h⊢
 split
 ·rfl
 ·rename_i h1
  rw[if_neg h1]at h
  split
  ·rfl
  ·rename_i h2;rw[if_neg h2]at h;exact absurd rfl h
theorem YxE{X:Blt}(hX:X.good)(h:(plnX X).2=0):(plnX X).1.length=rngB X/\X.P.length<=40/\(10<=X.w.per/\X.w.per<=1000)/\X.P.any palB=false/\∀i,i<rngB X->(plnX X).1.getD i default=bstX X i:=by
 unfold plnX plnF at h⊢
 split at h
 ·cases h
 ·rename_i h1
  rw[if_neg h1]
  split at h
  ·cases h
  ·rename_i h2
   rw[if_neg h2]
   rw[YIp,YHp,YHp]at h1 h2
   have hw:=h2.1.2
   simp only[wshB,YHp,outN_f]at hw
   refine⟨by rw[List.length_map,Yel],by have:=of_decide_eq_false h1.1.2;omega,hw.1.1,h2.1.1,fun i hi=>?_⟩
   rw[Yf0 (by rw[Yel];exact hi),YiN hi]
   rfl
theorem Yxb{X:Blt}{i:Nat}(h:bstX X i≠ []):((bstX X i).length<=2)/\(∀k,k<(bstX X i).length->0<=(bstX X i).getD k default/\(bstX X i).getD k default<X.P.length)/\cmpF (Yae (chnX X i).2) (sumO (chs X.P (bstX X i))) X.w.per=1:=by
 obtain⟨v,e,_⟩:=Ygo h
 unfold bstX at h⊢
 generalize Yaf (Yae (chnX X i).2) X.w X.P=x at*
 have hl:=Ygt (show(chcF (Yae (chnX X i).2) X.w X.P x).2=true by rw[e])
 match x,hl with
 | [a],_=>
   rw[chc1]at e
   split at e
   ·rename_i hc
    have e2:=of_decide_eq_true (congrArg Prod.snd e)
    refine⟨by simp,fun k hk=>?_,?_⟩
    ·obtain rfl:k=0:=by simp at hk;exact hk
     exact hc.1
    ·rw[show sumO (chs X.P [a])=Ycb (X.P.getD a.toNat default)by simp [sumO,chs]];exact e2
   ·cases congrArg Prod.snd e
 | [a,b],_=>
   rw[chc2]at e
   split at e
   ·rename_i hc
    have e2:=of_decide_eq_true (congrArg Prod.snd e)
    refine⟨by simp,fun k hk=>?_,?_⟩
    ·have hk:k<2:=hk
     rcases(show k=0\/k=1 by omega)with rfl|rfl
     ·show 0<=a/\a<_;omega
     ·show 0<=b/\b<_;omega
    ·rw[show sumO (chs X.P [a,b])=Ycb (X.P.getD a.toNat default)+Ycb (X.P.getD b.toNat default)by simp [sumO,chs]];exact e2
   ·cases congrArg Prod.snd e
 | [],h=>simp at h
 |a::b::c::r,h=>simp at h
theorem Yvp{X:Blt}(hX:X.good)(h:(plnX X).2=0){i k:Nat}(hb:bstX X i≠ [])(hk:k=i\/k=i+1)(hi:k<rngB X):
 enoF (chnX X k).2 (chs X.P (bstX X i)) X.w.per=(1,0)/\bstX X k≠ []/\(bstX X k).length<=(bstX X i).length:=by
 obtain⟨p1,p2,p3,p4,p5⟩:=YxE hX h
 obtain⟨b1,b2,b3⟩:=Yxb hb
 have ha:=Yq0 hX hk hi
 have ha2:X.w.per*(Yae (chnX X k).2).2<=X.w.per*(Yae (chnX X i).2).2:=YHU ha (by omega)
 refine⟨?_,Yq8 hb rfl (YIs _) ha2⟩
 have hlen:(chs X.P (bstX X i)).length=(bstX X i).length:=by unfold chs;rw[List.length_map]
 have hpal:(chs X.P (bstX X i)).any palB=false:=by
  rw[YHP]
  intro p hp
  unfold chs at hp
  obtain⟨a,ha,rfl⟩:=YIr.1 hp
  obtain⟨m,hm,rfl⟩:=YQ ha
  have:=b2 m hm
  exact YHP.1 p4 _ (Yh (by omega))
 have h1:=cmp_one.2 (Int.le_trans ha2 (cmp_one.1 b3))
 unfold enoF
 rw[Yze,hpal,outN_f.2 p3,if_neg (by simp;omega),if_neg (by decide),h1]
def v8:VF:=⟨168,[.tmp 4],(ZR [u1 2 .box [.tm 0],u1 4 .mov [.cn (.bool false)]] (ZR [u1 5 .mov [.cn .nil]] (.seq (ZR [Zi 6 0] (.block 0 (.loop (.seq (ZR [Zm 16 6,Zm 17 1,Zl 18 17,Zr 19 .lss 16 18] (ZC 19 .skip (.exit 0))) (.seq (.block 1 (.seq (.draw [] [Zu 22 1,Zu 23 6,ZX 24 2 22 23,Zy 25 0 24,Zv 26 1 25,Zy 27 23 2,Zv 28 1 27,w1 29 (.conv .i64) [.tm 28],w1 30 (.ari .mul) [.tm 26,.tm 29],w1 31 .quo [.tm 30,.cn (.int .i64 256)],w1 32 .max [.tm 31,.cn (.int .i64 100)],w1 33 .min [.tm 32,.cn (.int .i64 100000)],Zu 7 33]) (.region [Zm 34 5,Zm 35 7,u1 36 (.build [(.int .i64 0),(.int .i64 0)] [(0,1),(1,1)]) [.tm 35,.cn (.int .i64 700)],u1 37 (.buildSlice 2 1 [(.int .i64 0),(.int .i64 0)] [(0,2)]) [.tm 36],u1 38 (.build [.nil] [(0,1)]) [.tm 37],u1 39 (.buildSlice 1 1 [.nil] [(0,1)]) [.tm 38],u1 40 (.append 1 24 [.nil]) [.tm 34,.tm 39],Zm 5 40]))) (.region [Zm 20 6,Zp 21 20 1,Zm 6 21])))))) (ZR [Zm 42 5,Za 43 19 2,Zf 44 1 43,Za 45 20 2,Zt 46 3 45,u1 47 (.call 19) [.tm 42,.tm 44,.tm 46],Zm 41 47,Ze 48 0 41,Ze 49 1 41,Zm 8 48,Zm 9 49] (.seq (ZR [Zm 50 9,Zq 51 .neq 50 0] (ZC 51 (ZR [Zm 52 8,Zl 53 52,Zq 54 .eql 53 0,Zm 4 54] .ret) .skip)) (.seq (ZR [Zm 55 8,Zl 56 55,Zm 57 5,Zl 58 57,Zr 59 .neq 56 58] (ZC 59 (ZR [u1 4 .mov [.cn (.bool false)]] .ret) .skip)) (.seq (ZR [Zi 10 0] (.block 2 (.loop (.seq (ZR [Zm 60 10,Zm 61 8,Zl 62 61,Zr 63 .lss 60 62] (ZC 63 .skip (.exit 2))) (.seq (.block 3 (.seq (ZR [Zm 66 8,Zm 67 10,Zx 68 1 66 67,Zf 69 1 68,Zl 70 69,Zq 71 .eql 70 0] (ZC 71 (.exit 3) .skip)) (ZR [u1 11 .mov [.cn .nil]] (.seq (ZR [Zi 12 0] (.block 4 (.loop (.seq (ZR [Zm 72 12,Zm 73 8,Zm 74 10,Zx 75 1 73 74,Zf 76 1 75,Zl 77 76,Zr 78 .lss 72 77] (ZC 78 .skip (.exit 4))) (.seq (.block 5 (.seq (.seq (.draw [] [Zu 81 8,Zu 82 10,ZX 83 1 81 82,Zv 84 1 83,Zu 85 12,ZX 86 1 84 85,Zv 87 1 86,w1 88 (.cmp .lss) [.tm 87,.cn (.int .i64 0)],Zu 89 88,⟨Zg 90 89 false 8,[]⟩,⟨Zg 91 89 false 10,[]⟩,⟨u2 92 89 false (.idxAddr 1) [.tm 90,.tm 91],[]⟩,⟨Zh 93 89 false 1 92,[]⟩,⟨Zg 94 89 false 12,[]⟩,⟨u2 95 89 false (.idxAddr 1) [.tm 93,.tm 94],[]⟩,⟨Zh 96 89 false 1 95,[]⟩,⟨Zj 97 89 false 19 2,[]⟩,⟨Zh 98 89 false 1 97,[]⟩,⟨u2 99 89 false .len [.tm 98],[]⟩,⟨u2 100 89 false (.cmp .geq) [.tm 96,.tm 99],[]⟩,w1 101 .or [.tm 89,.tm 100]]) (ZC 101 (ZR [u1 4 .mov [.cn (.bool false)]] .ret) .skip)) (.draw [] [Zu 102 11,Zy 103 19 2,Zv 104 1 103,Zu 105 8,Zu 106 10,ZX 107 1 105 106,Zv 108 1 107,Zu 109 12,ZX 110 1 108 109,Zv 111 1 110,ZX 112 4 104 111,Zw 113 4 112,w1 114 (.buildSlice 4 1 [(.int .i64 0),(.int .i64 0),(.int .i64 0),(.int .i64 0)] [(0,4)]) [.tm 113],w1 115 (.append 4 32 [(.int .i64 0),(.int .i64 0),(.int .i64 0),(.int .i64 0)]) [.tm 102,.tm 114],Zu 11 115]))) (.region [Zm 79 12,Zp 80 79 1,Zm 12 80])))))) (ZR [Zm 116 10,Zm 13 116] (.block 6 (.loop (.seq (ZR [Zm 117 13,Zm 118 8,Zl 119 118,Zr 120 .lss 117 119,Zm 121 120,Zg 122 121 true 13,Zg 123 121 true 10,u2 124 121 true (.ari .add) [.tm 123,.cn (.int .i64 2)],u2 125 121 true (.cmp .lss) [.tm 122,.tm 124],u1 126 .and [.tm 121,.tm 125]] (ZC 126 .skip (.exit 6))) (.seq (.block 7 (.seq (.draw [] [Zu 130 5,Zu 131 13,ZX 132 1 130 131,Zw 133 1 132,Zu 134 11,Zy 135 20 2,Zy 136 0 135,Zv 137 1 136,w1 138 (.call 20) [.tm 133,.tm 134,.tm 137],Zu 129 138,ZE 139 0 129,ZE 140 1 129,Zu 14 139,Zu 15 140]) (.seq (.draw [] [Zu 141 15,w1 142 (.cmp .neq) [.tm 141,.cn (.int .i64 0)],Zu 143 142,⟨Zg 144 143 false 14,[]⟩,⟨u2 145 143 false (.cmp .neq) [.tm 144,.cn (.int .i64 1)],[]⟩,w1 146 .or [.tm 143,.tm 145],Zu 147 146,⟨Zg 148 147 false 8,[]⟩,⟨Zg 149 147 false 13,[]⟩,⟨u2 150 147 false (.idxAddr 1) [.tm 148,.tm 149],[]⟩,⟨Zh 151 147 false 1 150,[]⟩,⟨u2 152 147 false .len [.tm 151],[]⟩,⟨u2 153 147 false (.cmp .eql) [.tm 152,.cn (.int .i64 0)],[]⟩,w1 154 .or [.tm 147,.tm 153],Zu 155 154,⟨Zg 156 155 false 8,[]⟩,⟨Zg 157 155 false 13,[]⟩,⟨u2 158 155 false (.idxAddr 1) [.tm 156,.tm 157],[]⟩,⟨Zh 159 155 false 1 158,[]⟩,⟨u2 160 155 false .len [.tm 159],[]⟩,⟨Zg 161 155 false 8,[]⟩,⟨Zg 162 155 false 10,[]⟩,⟨u2 163 155 false (.idxAddr 1) [.tm 161,.tm 162],[]⟩,⟨Zh 164 155 false 1 163,[]⟩,⟨u2 165 155 false .len [.tm 164],[]⟩,⟨u2 166 155 false (.cmp .gtr) [.tm 160,.tm 165],[]⟩,w1 167 .or [.tm 155,.tm 166]]) (ZC 167 (ZR [u1 4 .mov [.cn (.bool false)]] .ret) .skip)))) (.region [Zm 127 13,Zp 128 127 1,Zm 13 128])))))))))) (.region [Zm 64 10,Zp 65 64 1,Zm 10 65])))))) (ZR [u1 4 .mov [.cn (.bool true)]] .ret))))))))⟩
theorem v8_is:Ye YHk Tryz.f8=some v8:=by kernel_rfl
def bchC:Ctr:={ alias:=false,of:=fun l=>match l with
 | [.agg cs,.vs _ _ n sz get]=> .ex Blt fun X=> .pre (cs=bltC X/\X.good/\lsP 2 enc2 n sz get (tabL X.s X.lo X.hi)) (.fin (.bool true) [])
 |_=>noC}
def TB8:Env:={ ct:=fun n=>match n with|19=>some plnC|20=>some EnC|_=>none,fn:=fun _=>none,meth:=fun _ _=>none}
theorem Yeg:TB8.ct 19=some plnC:=rfl
theorem Yeh:TB8.ct 20=some EnC:=rfl
theorem YC7:Yn YHk TB8:=by
 refine⟨fun f c h=>?_,fun f vf h=>?_,(fun _ _ _ h=>by cases h),by kernel_rfl,(fun _ h=>by cases h),(fun _ _ h=>by cases h)⟩
 ·simp only[TB8]at h
  split at h
  ·cases h;exact⟨YAn,Tryz.f19,Tryz.func19,by kernel_rfl,by kernel_rfl⟩
  ·cases h;exact⟨En_ok,Tryz.f20,Tryz.func20,by kernel_rfl,by kernel_rfl⟩
  ·cases h
 ·cases h
theorem bch_c:bchC.ok YHk 8:=by
 refine Yb Tryz.func8 v8_is YC7 900 bchC fun args k h=>?_
 simp only[bchC]at h
 split at h
 ·rename_i cs tt z n sz get
  obtain⟨X,⟨rfl,hX,hts⟩,h⟩:=h
  have h:k (.bool true) []:=h
  have tl:=Ydk hX
  have tg:= @Ymo X hX
  obtain⟨t,ht⟩:∃t,t=tabL X.s X.lo X.hi:=⟨_,rfl⟩
  rw[<-ht]at hts tl
  have tg:∀k,k<rngB X->t.getD k default=diaS X.s (X.lo+k):=fun k hk=>by rw[ht];exact tg hk
  obtain⟨rfl,rfl,hg⟩:=hts
  refine⟨[.agg (bltC X),.vs tt z t.length 2 (fun k=>enc2 (t.getD k default))],⟨Yx _ (by simp [bltC,bndL,bnd]),⟨id,rfl,rfl,rfl,hg⟩,trivial⟩,?_⟩
  dsimp only[v8,bltC,enc2,Yeg,Yeh,plnC,EnC,vsV,vsI,enc1,encU,encT,Y9,YHj,go_sem,reduceIte,YHf]
  simp only[Yc,YHf,YHh,reduceCtorEq,YHg]
  have hb0:=Yfo hX
  refine Loop.keepF [1,0,1] (Nat×Bool) (fun s=>[(5,.own 1 0 s.1 1),(6,.int .i64 s.1)]) (fun s=>[(1,.own s.2 1 s.1 (fun k=>encC (chnX X k)))]) [.gone] (fun s=>s.1<=rngB X/\(s.2=true->s.1=0)) (fun s=>rngB X-s.1) ?_ ?_
  ·refine⟨(0,true),⟨YHK _,fun _=>rfl⟩,[],trivial,?_⟩
   dsimp only[go_sem,reduceIte,YHf]
   simp only[Ya]
   exact⟨by decide,by decide,rfl⟩
  rintro⟨i,z1⟩ ⟨hi,hz⟩
  replace hi:i<=rngB X:=hi
  replace hz:z1=true->i=0:=hz
  dsimp only[v8,bltC,enc2,Yeg,Yeh,plnC,EnC,vsV,vsI,enc1,encU,encT,Y9,encC,YHj,go_sem,reduceIte,YHf]
  simp only[Yc,YHf,YHh,reduceCtorEq,YHg]
  refine⟨fun hlt=>⟨⟨by omega,by omega⟩,by decide,by decide,by decide,⟨by unfold Y3;omega,fun q hq=>match q,hq with|0,_=>⟨rfl,trivial,trivial⟩⟩,(i+1,false),⟨by show i+1<=_;omega,fun h0=>(by cases h0)⟩,by show _-(i+1)<_;omega,[2],?_,?_⟩,fun hge=>?_⟩
  ·dsimp only[go_sem,reduceIte,YHf]
   exact⟨fun q hq=>match q,hq with|0,_=>rfl,trivial⟩
  ·have hir:i<rngB X:=by omega
   have hd:=YdZ hb0.1 (note:=X.lo+i) (by omega)
   have hq:=hX.1.2.2.2.2.2
   have hm:(diaS X.s (X.lo+i)).1*X.q<=3000000*255:=YO (by omega) hq.2 hd.1 (by decide)
   have hm0:0<=(diaS X.s (X.lo+i)).1*X.q:=YIe hd.1 hq.1
   have e1:IntKind.i64.wrap ((IntKind.i64.wrap ((t.getD i default).1*IntKind.i64.wrap X.q)).tdiv 256)=(diaS X.s (X.lo+i)).1*X.q/256:=by
    rw[tg i hir,YHi X.q (by omega),YHi ((diaS X.s (X.lo+i)).1*X.q) (by omega),Int.tdiv_eq_ediv_of_nonneg hm0,YHi _ (by omega)]
   rw[e1,YHi ((i:Int)+1) (by omega),show min (max ((diaS X.s (X.lo+i)).1*X.q/256) 100) 100000=Ygq X i from rfl]
   dsimp only[go_sem,reduceIte,YHf]
   simp only[Ya]
   refine⟨⟨by decide,by decide,rfl⟩,by cases z1 <;> rfl,fun q hq=>?_⟩
   by_cases cq:q<i
   ·rw[if_pos cq]
    exact Yx [.vs _ _ _ _ _] ⟨trivial,trivial⟩
   ·obtain rfl:q=i:=by omega
    rw[if_neg cq,Nat.sub_self]
    refine YgR _ _ ⟨⟨fun h=>(by cases h),rfl,rfl,rfl,fun j hj=>?_⟩,trivial⟩ (by simp [bndL,bnd])
    have hj:j<1:=hj
    obtain rfl:j=0:=by omega
    exact Yd _
  ·obtain rfl:i=rngB X:=by omega
   have selfC:lsP 1 encC (rngB X) 1 (fun k=>[SV.vs false (chnX X k).1 (chnX X k).2.length 2 fun k_1=>[SV.int IntKind.i64 ((chnX X k).2.getD k_1 default).1,SV.int IntKind.i64 ((chnX X k).2.getD k_1 default).2]]) (Ykv X):=⟨rfl,(Yel X).symm,fun k hk=>by rw[YiN hk];exact Yd _⟩
   refine⟨Ykv X,X.P,⟨selfC,YD,by rw[Yel];omega,?_,fun q hq=>?_⟩,fun zz=>⟨by decide,by decide,?_⟩⟩
   ·have:=hX.2.2.2.2;omega
   ·obtain⟨m,hm,rfl⟩:=YQ hq
    rw[Yel]at hm
    rw[YiN hm]
    show 1<=1000000000000
    decide
   ·have pe:= @YAo X
    have po:= @YxE X hX
    have cn:= @Yvp X hX
    rw[show plnF (Ykv X) X.P ⟨X.w.per,X.w.pr,X.w.most⟩=plnX X from rfl]
    obtain⟨p,hp⟩:∃p,p=plnX X:=⟨_,rfl⟩
    rw[<-hp]at pe po cn⊢
    refine⟨fun hne=>?_,fun heq=>?_⟩
    ·rw[pe hne];exact Yi h
    obtain⟨p1,p2,p3,p4,p5⟩:=po heq
    refine⟨fun hne=>absurd (by omega) hne,fun _=>?_⟩
    refine Loop.keep [1,0,1,0,2] Nat (fun i=>[(10,.int .i64 i)]) (fun _=>[]) [] (fun i=>i<=rngB X) (fun i=>rngB X-i) ?_ ?_
    ·refine⟨0,YHK _,?_⟩
     dsimp only[go_sem,reduceIte,YHf]
     simp only[Ya]
     exact⟨by decide,by decide,rfl⟩
    rintro i hi
    dsimp only[v8,bltC,enc2,Yeg,Yeh,plnC,EnC,vsV,vsI,enc1,encU,encT,Y9,encC,YHj,go_sem,reduceIte,YHf]
    simp only[Yc,YHf,YHh,reduceCtorEq,YHg]
    refine⟨fun hlt=>?_,fun hge2=>Yi h⟩
    have hir:i<rngB X:=by omega
    have ex:=p5 i hir
    refine⟨by omega,fun hemp=>?_,fun hnem=>?_⟩
    ·refine⟨i+1,by omega,by omega,?_⟩
     rw[YHi ((i:Int)+1) (by omega)]
     simp only[Ya]
     exact⟨by decide,by decide,rfl⟩
    rw[ex]at hnem
    have hne:bstX X i≠ []:=fun e=>hnem (by rw[e];rfl)
    obtain⟨b1,b2,_⟩:=Yxb hne
    obtain⟨x,hx⟩:∃x,x=bstX X i:=⟨_,rfl⟩
    rw[<-hx]at b1 b2 hnem hne ex
    refine Loop.keep [1,0,1,0,2,1] (Nat×Bool) (fun s=>[(11,.own 2 0 s.1 4),(12,.int .i64 s.1)]) (fun s=>[(2,.own s.2 4 s.1 (fun k=>Y9 (X.P.getD (x.getD k default).toNat default)))]) [.gone] (fun s=>s.1<=x.length/\(s.2=true->s.1=0)) (fun s=>x.length-s.1) ?_ ?_
    ·refine⟨(0,true),⟨YHK _,fun _=>rfl⟩,?_⟩
     dsimp only[go_sem,reduceIte,YHf]
     simp only[Ya]
     exact⟨by decide,by decide,by decide,rfl⟩
    rintro⟨m,z2⟩ ⟨hm,hz2⟩
    replace hm:m<=x.length:=hm
    replace hz2:z2=true->m=0:=hz2
    dsimp only[v8,bltC,enc2,Yeg,Yeh,plnC,EnC,vsV,vsI,enc1,encU,encT,Y9,encC,YHj,go_sem,reduceIte,YHf]
    simp only[Yc,YHf,YHh,reduceCtorEq,YHg]
    rw[ex]
    refine⟨by omega,fun hlt2=>?_,fun hge3=>?_⟩
    ·have hml:m<x.length:=by omega
     obtain⟨v0,v1⟩:=b2 m hml
     rw[decide_eq_false (show¬x.getD m default<0 by omega),decide_eq_false (show¬(X.P.length:Int)<=x.getD m default by omega)]
     refine⟨by omega,by omega,fun _=>by omega,fun _=>by omega,fun hb=>(by cases hb),fun _=>⟨by omega,by omega,by omega,by decide,⟨by unfold Y3;omega,fun q hq=>match q,hq with|0,_=>⟨rfl,trivial,trivial,trivial,trivial,trivial⟩⟩,(m+1,false),⟨by show m+1<=_;omega,fun h0=>(by cases h0)⟩,by show _-(m+1)<_;omega,?_⟩⟩
     rw[YHi ((m:Int)+1) (by omega)]
     simp only[Ya]
     refine⟨⟨by decide,by decide,by decide,rfl⟩,by cases z2 <;> rfl,fun q hq=>?_⟩
     by_cases cq:q<m
     ·rw[if_pos cq];exact Yx [.int _ _,.int _ _,.int _ _,.int _ _] ⟨trivial,trivial,trivial,trivial,trivial⟩
     ·obtain rfl:q=m:=by omega
      rw[if_neg cq,Nat.sub_self]
      exact Yx [.int _ _,.int _ _,.int _ _,.int _ _] ⟨trivial,trivial,trivial,trivial,trivial⟩
    ·obtain rfl:m=x.length:=by omega
     have selfP:lsP 4 Y9 x.length 4 (fun k=>[SV.int IntKind.i64 (X.P.getD (x.getD k default).toNat default).w,SV.int IntKind.i64 (X.P.getD (x.getD k default).toNat default).l,SV.int IntKind.i64 (X.P.getD (x.getD k default).toNat default).t,SV.int IntKind.i64 (X.P.getD (x.getD k default).toNat default).s]) (chs X.P x):=⟨rfl,by unfold chs;rw[List.length_map],fun k hk=>by
      unfold chs
      rw[Yf0 hk]
      exact Yd _⟩
     refine Loop.keep [1,0,1,0,2,1,0] Nat (fun m=>[(13,.int .i64 m)]) (fun _=>[]) [] (fun m=>i<=m/\m<=rngB X/\m<=i+2) (fun m=>rngB X-m) ?_ ?_
     ·refine⟨i,⟨YHr _,by omega,by omega⟩,?_⟩
      dsimp only[go_sem,reduceIte,YHf]
      simp only[Ya]
      exact⟨by decide,by decide,by decide⟩
     rintro m ⟨hm1,hm2,hm3⟩
     dsimp only[v8,bltC,enc2,Yeg,Yeh,plnC,EnC,vsV,vsI,enc1,encU,encT,Y9,encC,YHj,go_sem,reduceIte,YHf]
     simp only[Yc,YHf,YHh,reduceCtorEq,YHg]
     rw[ex,YHi ((i:Int)+2) (by omega)]
     refine⟨fun hgo=>?_,fun hstop=>?_⟩
     ·simp only[YHn,decide_eq_true_eq]at hgo
      have hmr:m<rngB X:=by omega
      have hne2:bstX X i≠ []:=by rw[<-hx];exact hne
      obtain⟨c1,c2,c3⟩:=cn heq hne2 (k:=m) (by omega) hmr
      rw[<-hx]at c1 c3
      refine⟨by omega,by omega,(chnX X m).2,chs X.P x,⟨⟨rfl,rfl,fun k _=>Yd _⟩,selfP,(show 1<=1000000000000 by decide),by unfold chs;rw[List.length_map];omega⟩,by decide,by decide,?_⟩
      have hl0:¬((bstX X m).length:Int)=0:=fun e=>c2 (List.eq_nil_of_length_eq_zero (by omega))
      rw[c1,p5 m hmr,decide_eq_false hl0,decide_eq_false (show¬(x.length:Int)<((bstX X m).length:Int)by omega)]
      refine⟨fun _=>by omega,fun _=>by omega,fun _=>by omega,fun hb=>(by cases hb),fun _=>⟨m+1,by omega,by omega,?_⟩⟩
      rw[YHi ((m:Int)+1) (by omega)]
      simp only[Ya]
      exact⟨by decide,by decide,by decide,rfl⟩
     ·refine⟨i+1,by omega,by omega,?_⟩
      rw[YHi ((i:Int)+1) (by omega)]
      simp only[Ya]
      exact⟨by decide,by decide,rfl⟩
 ·exact h.1.elim
def sclE:Scl:=⟨155500,0,[(36,16)],1,4,1,4⟩
def brdE:Brd:=⟨1000000,1000000,0,1,0,[]⟩
def ftE:List Ft:=[(77750,1),(38875,1)]
theorem awe_1:askS sclE 36 52=0/\(diaS sclE 52).2=77750/\bdyF 77750 1000000 0=(⟨244259,1000000⟩,0)/\(YaQ brdE ftE).2=0/\(YaQ brdE ftE).1.length=2/\((YaQ brdE ftE).1.getD 1 default).x=194375:=by
 refine⟨by decide+kernel,by decide+kernel,?_,by decide+kernel,by decide+kernel,by decide+kernel⟩
 have e:∀p:Cut×Int,p.1.w=244259->p.1.h=1000000->p.2=0->p=(⟨244259,1000000⟩,0):=fun⟨⟨w,h⟩,e⟩ h1 h2 h3=>by cases h1;cases h2;cases h3;rfl
 exact e _ (by decide+kernel) (by decide+kernel) (by decide+kernel)
theorem awe_2:(tabL sclE 36 52).length=17/\(tabL sclE 36 52).getD 16 default=diaS sclE 52:=by
 unfold tabL
 rw[if_neg (by rw[awe_1.1];decide)]
 exact⟨rfl,rfl⟩
def rowN:Ctr:={ alias:=false,of:=fun l=>match l with
 | [.agg [w,d,c,a,s,.nil],x]=>rowC.of [.agg [w,d,c,a,s,.vs true true 0 2 (fun _=>[])],x]
 |l=>rowC.of l}
theorem YAY:rowN.ok YHk 10:=by
 intro args vs z k hs hx hc
 simp only[rowN]at hc
 split at hc
 ·rename_i w d c a s x
  exact Ytf _ vs z k hs (Yc1 hx [.agg [w,d,c,a,s,.vs true true 0 2 (fun _=>[])],x] ⟨⟨YcB _,YcB _,YcB _,YcB _,YcB _,⟨rfl,rfl⟩,trivial⟩,YcB _,trivial⟩) hc
 ·exact Ytf _ vs z k hs hx hc
def v4:VF:=⟨69,[.tmp 0],(ZR [u1 0 .mov [.cn (.bool false)]] (ZR [u1 8 (.build [(.int .i64 0),(.int .i64 0)] [(0,1),(1,1)]) [.cn (.int .i64 36),.cn (.int .i64 16)],u1 9 (.buildSlice 2 1 [(.int .i64 0),(.int .i64 0)] [(0,2)]) [.tm 8],u1 10 (.build [(.int .i64 0),(.int .i64 0),.nil,(.int .i64 0),(.int .i64 0),(.int .i64 0),(.int .i64 0)] [(0,1),(2,1),(3,1),(4,1),(5,1),(6,1)]) [.cn (.int .i64 155500),.tm 9,.cn (.int .i64 1),.cn (.int .i64 4),.cn (.int .i64 1),.cn (.int .i64 4)],u1 1 (.alloc [(.int .i64 0),(.int .i64 0),.nil,(.int .i64 0),(.int .i64 0),(.int .i64 0),(.int .i64 0)]) [],Zs 7 1 10] (ZR [Zt 12 7 1,u1 13 (.call 5) [.tm 12,.cn (.int .i64 36),.cn (.int .i64 52)],Zm 11 13,Ze 14 0 11,Ze 15 1 11,Zm 2 14,Zm 3 15] (.seq (ZR [Zm 16 3,Zq 17 .neq 16 0,Zm 18 17,Zg 19 18 false 2,u2 20 18 false .len [.tm 19],u2 21 18 false (.cmp .neq) [.tm 20,.cn (.int .i64 17)],u1 22 .or [.tm 18,.tm 21],Zm 23 22,Zg 24 23 false 2,u2 25 23 false (.idxAddr 2) [.tm 24,.cn (.int .i64 16)],Zj 26 23 false 1 25,Zh 27 23 false 1 26,u2 28 23 false (.cmp .neq) [.tm 27,.cn (.int .i64 77750)],u1 29 .or [.tm 23,.tm 28]] (ZC 29 (ZR [u1 0 .mov [.cn (.bool false)]] .ret) .skip)) (ZR [Zm 31 2,u1 32 (.idxAddr 2) [.tm 31,.cn (.int .i64 16)],Za 33 1 32,Zf 34 1 33,u1 35 (.call 9) [.tm 34,.cn (.int .i64 1000000),.cn (.int .i64 0)],Zm 30 35,Ze 36 0 30,Ze 37 1 30,Zn 4,Zs 2 4 36,Zm 5 37] (ZR [u1 39 (.build [(.int .i64 0),(.int .i64 0),(.int .i64 0),(.int .i64 0),(.int .i64 0),.nil] [(0,1),(1,1),(3,1)]) [.cn (.int .i64 1000000),.cn (.int .i64 1000000),.cn (.int .i64 1)],u1 40 (.build [(.int .i64 0),(.int .i64 0)] [(0,1),(1,1)]) [.cn (.int .i64 77750),.cn (.int .i64 1)],u1 41 (.build [(.int .i64 0),(.int .i64 0)] [(0,1),(1,1)]) [.cn (.int .i64 38875),.cn (.int .i64 1)],u1 42 (.buildSlice 2 2 [(.int .i64 0),(.int .i64 0)] [(0,2),(2,2)]) [.tm 40,.tm 41],Zd 43 10 39 42,Zm 38 43,Ze 44 0 38,Ze 45 1 38,Zm 6 44,Zm 7 45] (ZR [Zm 46 5,Zq 47 .eql 46 0,Zm 48 47,Zg 49 48 true 7,u2 50 48 true (.cmp .eql) [.tm 49,.cn (.int .i64 0)],u1 51 .and [.tm 48,.tm 50],Zm 52 51,Zj 53 52 true 0 4,Zh 54 52 true 1 53,u2 55 52 true (.cmp .eql) [.tm 54,.cn (.int .i64 244259)],u1 56 .and [.tm 52,.tm 55],Zm 57 56,Zg 58 57 true 6,u2 59 57 true .len [.tm 58],u2 60 57 true (.cmp .eql) [.tm 59,.cn (.int .i64 2)],u1 61 .and [.tm 57,.tm 60],Zm 62 61,Zg 63 62 true 6,u2 64 62 true (.idxAddr 4) [.tm 63,.cn (.int .i64 1)],Zj 65 62 true 0 64,Zh 66 62 true 1 65,u2 67 62 true (.cmp .eql) [.tm 66,.cn (.int .i64 194375)],u1 68 .and [.tm 62,.tm 67],Zm 0 68] .ret)))))))⟩
theorem v4_is:Ye YHk Tryz.f4=some v4:=by kernel_rfl
def TB9:Env:={ ct:=fun n=>match n with|5=>some tabC|9=>some bdyC|10=>some rowN|_=>none,fn:=fun _=>none,meth:=fun _ _=>none}
theorem YyC:TB9.ct 5=some tabC:=rfl
theorem YyD:TB9.ct 9=some bdyC:=rfl
theorem Yu8:TB9.ct 10=some rowN:=rfl
theorem YC8:Yn YHk TB9:=by
 refine⟨fun f c h=>?_,fun f vf h=>?_,(fun _ _ _ h=>by cases h),by kernel_rfl,(fun _ h=>by cases h),(fun _ _ h=>by cases h)⟩
 ·simp only[TB9]at h
  split at h
  ·cases h;exact⟨YFA,Tryz.f5,Tryz.func5,by kernel_rfl,by kernel_rfl⟩
  ·cases h;exact⟨YDn,Tryz.f9,Tryz.func9,by kernel_rfl,by kernel_rfl⟩
  ·cases h;exact⟨YAY,Tryz.f10,Tryz.func10,by kernel_rfl,by kernel_rfl⟩
  ·cases h
 ·cases h
theorem YDm:trueC.ok YHk 4:=by
 refine Yb Tryz.func4 v4_is YC8 900 trueC fun args k h=>?_
 simp only[trueC]at h
 split at h
 ·refine⟨[],trivial,?_⟩
  have h:k (.bool true) []:=h
  dsimp only[v4,YyC,YyD,Yu8,tabC,bdyC,rowN,rowC,lsS,encS,encT,encK,Ybh,enc2,go_sem,reduceIte,YHf]
  simp only[Yc,YHf,YHh,reduceCtorEq,YHg]
  refine⟨by decide,[(36,16)],⟨rfl,rfl,fun q hq=>?_⟩,by decide,by decide,?_⟩
  ·obtain rfl:q=0:=by have:q<1:=hq;omega
   exact Yd _
  rw[show(⟨155500,0,[(36,16)],1,4,1,4⟩:Scl)=sclE from rfl,awe_1.1,awe_2.1,show YH0 16=16 from rfl,awe_2.2,awe_1.2.1,awe_1.2.2.1]
  refine⟨fun _=>by decide,fun hb=>(by cases hb),fun _=>⟨by decide,by decide,by decide,by decide,brdE,ftE,⟨⟨⟨rfl,rfl,rfl,rfl,rfl⟩,rfl,rfl,fun q hq=>absurd hq (YIf _)⟩,⟨rfl,rfl,fun q hq=>?_⟩,(by decide)⟩,?_⟩⟩
  ·have hq:q<2:=hq
   rcases(show q=0\/q=1 by omega)with rfl|rfl
   ·exact Yd _
   ·exact Yd _
  obtain⟨_,_,_,a4,a5,a6⟩:=awe_1
  rw[a4,a5,show YH0 1=1 from rfl,a6]
  exact⟨by decide,by decide,fun _=>by decide,Yi h⟩
 ·exact h.1.elim
def v3:VF:=⟨98,[.tmp 2],(ZR [u1 1 .box [.tm 0],u1 2 .mov [.cn (.bool false)]] (.seq (ZR [Za 5 7 1,Zf 6 1 5,Zq 7 .lss 6 0,Zm 8 7,Zj 9 8 false 8 1,Zh 10 8 false 1 9,u2 11 8 false (.cmp .gtr) [.tm 10,.cn (.int .i64 139)],u1 12 .or [.tm 8,.tm 11],Zm 13 12,Zj 14 13 false 7 1,Zh 15 13 false 1 14,Zj 16 13 false 8 1,Zh 17 13 false 1 16,u2 18 13 false (.cmp .gtr) [.tm 15,.tm 17],u1 19 .or [.tm 13,.tm 18],Zm 20 19,Zj 21 20 false 8 1,Zh 22 20 false 1 21,Zj 23 20 false 7 1,Zh 24 20 false 1 23,u2 25 20 false (.ari .sub) [.tm 22,.tm 24],u2 26 20 false (.cmp .gtr) [.tm 25,.cn (.int .i64 29)],u1 27 .or [.tm 20,.tm 26],Zm 28 27,Zj 29 28 false 9 1,Zh 30 28 false 1 29,u2 31 28 false .len [.tm 30],u2 32 28 false (.cmp .eql) [.tm 31,.cn (.int .i64 0)],u1 33 .or [.tm 28,.tm 32],Zm 34 33,Zj 35 34 false 19 1,Zh 36 34 false 1 35,u2 37 34 false .len [.tm 36],u2 38 34 false (.cmp .gtr) [.tm 37,.cn (.int .i64 40)],u1 39 .or [.tm 34,.tm 38],Zm 40 39,Zj 41 40 false 13 1,Zj 42 40 false 5 41,Zh 43 40 false 1 42,u2 44 40 false .len [.tm 43],u2 45 40 false (.cmp .gtr) [.tm 44,.cn (.int .i64 8)],u1 46 .or [.tm 40,.tm 45],Zm 47 46,Zj 48 47 false 0 1,Zj 49 47 false 2 48,Zh 50 47 false 1 49,u2 51 47 false .len [.tm 50],u2 52 47 false (.cmp .gtr) [.tm 51,.cn (.int .i64 10)],u1 53 .or [.tm 47,.tm 52]] (ZC 53 (ZR [u1 54 (.call 4) [],Zm 2 54] .ret) .skip)) (ZR [Za 56 0 1,Zt 57 7 56,Za 58 7 1,Zf 59 1 58,Za 60 8 1,Zf 61 1 60,u1 62 (.call 5) [.tm 57,.tm 59,.tm 61],Zm 55 62,Ze 63 0 55,Ze 64 1 55,Zm 3 63,Zm 4 64] (.seq (ZR [Zm 65 4,Zq 66 .neq 65 0] (ZC 66 (ZR [Zm 67 3,Zl 68 67,Zq 69 .eql 68 0,Zm 70 69,u2 71 70 true (.call 4) [],u1 72 .and [.tm 70,.tm 71],Zm 2 72] .ret) .skip)) (.seq (ZR [Zm 73 3,Zl 74 73,Za 75 8 1,Zf 76 1 75,Za 77 7 1,Zf 78 1 77,Zo 79 .sub 76 78,Zp 80 79 1,Zr 81 .neq 74 80] (ZC 81 (ZR [u1 2 .mov [.cn (.bool false)]] .ret) .skip)) (ZR [Zt 82 24 1,Zm 83 3,Zd 84 6 82 83,Zm 85 84,u2 86 85 true (.load true 24) [.tm 1],Zg 87 85 true 3,u2 88 85 true (.call 7) [.tm 86,.tm 87],u1 89 .and [.tm 85,.tm 88],Zm 90 89,u2 91 90 true (.load true 24) [.tm 1],Zg 92 90 true 3,u2 93 90 true (.call 8) [.tm 91,.tm 92],u1 94 .and [.tm 90,.tm 93],Zm 95 94,u2 96 95 true (.call 4) [],u1 97 .and [.tm 95,.tm 96],Zm 2 97] .ret))))))⟩
theorem v3_is:Ye YHk Tryz.f3=some v3:=by kernel_rfl
def Yy1:List Sh:=[.int .i64,.int .i64,.int .i64,.int .i64]
def shpB:List Sh:=[.int .i64,.int .i64,.slice Yvh,.int .i64,.int .i64,.int .i64,.int .i64,.int .i64,.int .i64,.slice [.int .u32],.int .i64,.int .i64,.int .i64,.int .i64,.int .i64,.int .i64,.int .i64,.int .i64,.slice Yvh,.slice Yy1,.int .i64,.int .i64,.int .i64,.int .u8]
theorem YFF{v:SV}(h:Go.Vx.okS (.slice [.int .u32]) v):∃(z:Bool) (l:List Int),l.length<=maxLen/\leX v (.vs false z l.length 1 (fun k=>encU (l.getD k default)))/\∀k,k<l.length->0<=l.getD k default/\l.getD k default<=4294967295:=by
 obtain⟨z,n,get,rfl,hn,hg⟩:=h
 obtain⟨l,hl,hp⟩:=Ysp (P:=fun k (a:Int)=>leXL (get k) (encU a)/\0<=a/\a<=4294967295) fun k hk=>by
  obtain⟨_,_,e,⟨n1,rfl,hw⟩,e1⟩:=Yf (hg k hk)
  cases YbN e1
  refine⟨n1,by rw[e];exact Yd _,?_⟩
  simp only[Lit.wf,YHn,decide_eq_true_eq]at hw
  exact hw
 exact⟨z,l,by rw[hl];exact hn,⟨fun h=>h,rfl,hl.symm,rfl,fun k hk=>(hp k hk).1⟩,fun k hk=>(hp k (by omega)).2⟩
theorem YEx{c:List SV}(h:okSL Yy1 c):∃p:Plt,c=Y9 p:=by
 obtain⟨_,_,rfl,⟨n1,rfl,_⟩,e1⟩:=Yf h
 obtain⟨_,_,rfl,⟨n2,rfl,_⟩,e2⟩:=Yf e1
 obtain⟨_,_,rfl,⟨n3,rfl,_⟩,e3⟩:=Yf e2
 obtain⟨_,_,rfl,⟨n4,rfl,_⟩,e4⟩:=Yf e3
 cases YbN e4
 exact⟨⟨n1,n2,n3,n4⟩,rfl⟩
theorem YAp{v:SV}(h:Go.Vx.okS (.slice Yy1) v):∃(z:Bool) (l:List Plt),l.length<=maxLen/\leX v (.vs false z l.length 4 (fun k=>Y9 (l.getD k default))):=
 Yok (fun c h=>by obtain⟨p,rfl⟩:=YEx h;exact⟨p,Yd _⟩) h
theorem YDr{cs:List SV}(h:okSL shpB cs):∃X:Blt,X.ok/\leXL cs (bltC X):=by
 obtain⟨_,_,rfl,⟨n1,rfl,_⟩,e1⟩:=Yf h
 obtain⟨_,_,rfl,⟨n2,rfl,_⟩,e2⟩:=Yf e1
 obtain⟨_,_,rfl,h3,e3⟩:=Yf e2
 obtain⟨_,_,rfl,⟨n4,rfl,_⟩,e4⟩:=Yf e3
 obtain⟨_,_,rfl,⟨n5,rfl,_⟩,e5⟩:=Yf e4
 obtain⟨_,_,rfl,⟨n6,rfl,_⟩,e6⟩:=Yf e5
 obtain⟨_,_,rfl,⟨n7,rfl,_⟩,e7⟩:=Yf e6
 obtain⟨_,_,rfl,⟨n8,rfl,_⟩,e8⟩:=Yf e7
 obtain⟨_,_,rfl,⟨n9,rfl,_⟩,e9⟩:=Yf e8
 obtain⟨_,_,rfl,h10,e10⟩:=Yf e9
 obtain⟨_,_,rfl,⟨m1,rfl,_⟩,f1⟩:=Yf e10
 obtain⟨_,_,rfl,⟨m2,rfl,_⟩,f2⟩:=Yf f1
 obtain⟨_,_,rfl,⟨m3,rfl,_⟩,f3⟩:=Yf f2
 obtain⟨_,_,rfl,⟨m4,rfl,_⟩,f4⟩:=Yf f3
 obtain⟨_,_,rfl,⟨m5,rfl,_⟩,f5⟩:=Yf f4
 obtain⟨_,_,rfl,⟨m6,rfl,_⟩,f6⟩:=Yf f5
 obtain⟨_,_,rfl,⟨m7,rfl,_⟩,f7⟩:=Yf f6
 obtain⟨_,_,rfl,⟨m8,rfl,_⟩,f8⟩:=Yf f7
 obtain⟨_,_,rfl,h19,f9⟩:=Yf f8
 obtain⟨_,_,rfl,h20,f10⟩:=Yf f9
 obtain⟨_,_,rfl,⟨r1,rfl,_⟩,g1⟩:=Yf f10
 obtain⟨_,_,rfl,⟨r2,rfl,_⟩,g2⟩:=Yf g1
 obtain⟨_,_,rfl,⟨r3,rfl,_⟩,g3⟩:=Yf g2
 obtain⟨_,_,rfl,⟨q,rfl,hq⟩,g4⟩:=Yf g3
 cases YbN g4
 obtain⟨z1,bs,l1,o1⟩:=Yxo h3
 obtain⟨z2,L,l2,o2,o2'⟩:=YFF h10
 obtain⟨z3,wk,l3,o3⟩:=Yxo h19
 obtain⟨z4,P,l4,o4⟩:=YAp h20
 rw[YsA]at l1 l2 l3 l4
 simp only[Lit.wf,YHn,decide_eq_true_eq,show IntKind.min .u8=0 by decide,show IntKind.max .u8=255 by decide]at hq
 exact⟨⟨⟨n1,n2,bs,n4,n5,n6,n7⟩,n8,n9,L,⟨m1,m2,m3⟩,⟨m4,m5,m6,m7,m8,wk⟩,P,⟨r1,r2,r3⟩,q,false,z1,false,z2,false,z3,false,z4⟩,⟨l1,l2,l3,l4,o2',hq⟩,
  ⟨⟨rfl,rfl⟩,⟨rfl,rfl⟩,o1,⟨rfl,rfl⟩,⟨rfl,rfl⟩,⟨rfl,rfl⟩,⟨rfl,rfl⟩,⟨rfl,rfl⟩,⟨rfl,rfl⟩,o2,⟨rfl,rfl⟩,⟨rfl,rfl⟩,⟨rfl,rfl⟩,⟨rfl,rfl⟩,⟨rfl,rfl⟩,⟨rfl,rfl⟩,⟨rfl,rfl⟩,⟨rfl,rfl⟩,o3,o4,⟨rfl,rfl⟩,⟨rfl,rfl⟩,⟨rfl,rfl⟩,⟨rfl,rfl⟩,trivial⟩⟩
def TB10:Env:={ ct:=fun n=>match n with|4=>some trueC|5=>some tabC|6=>some bctC|7=>some browC|8=>some bchC|_=>none,fn:=fun _=>none,meth:=fun _ _=>none}
theorem Yu3:TB10.ct 4=some trueC:=rfl
theorem Yu4:TB10.ct 5=some tabC:=rfl
theorem Yu5:TB10.ct 6=some bctC:=rfl
theorem Yu6:TB10.ct 7=some browC:=rfl
theorem Yu7:TB10.ct 8=some bchC:=rfl
theorem YyB:Yn YHk TB10:=by
 refine⟨fun f c h=>?_,fun f vf h=>?_,(fun _ _ _ h=>by cases h),by kernel_rfl,(fun _ h=>by cases h),(fun _ _ h=>by cases h)⟩
 ·simp only[TB10]at h
  split at h
  ·cases h;exact⟨YDm,Tryz.f4,Tryz.func4,by kernel_rfl,by kernel_rfl⟩
  ·cases h;exact⟨YFA,Tryz.f5,Tryz.func5,by kernel_rfl,by kernel_rfl⟩
  ·cases h;exact⟨bct_c,Tryz.f6,Tryz.func6,by kernel_rfl,by kernel_rfl⟩
  ·cases h;exact⟨YDw,Tryz.f7,Tryz.func7,by kernel_rfl,by kernel_rfl⟩
  ·cases h;exact⟨bch_c,Tryz.f8,Tryz.func8,by kernel_rfl,by kernel_rfl⟩
  ·cases h
 ·cases h
theorem Yr9:(lawC [⟨true,shpB⟩]).ok YHk 3:=by
 refine Yb Tryz.func3 v3_is YyB 1500 (lawC [⟨true,shpB⟩]) fun args k h=>?_
 obtain⟨ha,hk⟩:=h
 obtain⟨_,_,rfl,h1,e1⟩:=Yjr ha
 obtain⟨cs,rfl,g1⟩:=Yme h1
 cases Yk9 e1
 obtain⟨X,hX,hle⟩:=YDr g1
 have hk':k (.bool true) []:=hk
 refine⟨[.agg (bltC X)],⟨YgR _ _ hle (by simp [bltC,bndL,bnd]),trivial⟩,?_⟩
 dsimp only[v3,bltC,Yu3,Yu4,Yu5,Yu6,Yu7,trueC,tabC,bctC,browC,bchC,encU,encT,Y9,enc2,go_sem,reduceIte,YHf]
 simp only[Yc,YHf,YHh,reduceCtorEq,YHg]
 have self:lsP 2 enc2 X.s.bs.length 2 (fun k=>[SV.int IntKind.i64 (X.s.bs.getD k default).fst,SV.int IntKind.i64 (X.s.bs.getD k default).snd]) X.s.bs:=⟨rfl,rfl,fun k _=>Yd _⟩
 refine⟨fun _=>Yi hk',fun hr=>⟨X.s.bs,⟨self,hX.1⟩,by decide,by decide,?_⟩⟩
 simp only[YHp,decide_eq_false_iff_not]at hr
 obtain⟨⟨⟨⟨⟨⟨⟨r1,r2⟩,r3⟩,r4⟩,r5⟩,r6⟩,r7⟩,r8⟩:=hr
 rw[YHi (X.hi-X.lo) (by omega)]at r4
 rw[show(⟨X.s.d,X.s.c,X.s.bs,X.s.mn,X.s.md,X.s.cn,X.s.cd⟩:Scl)=X.s from rfl]
 refine⟨fun hne=>?_,fun heq=>?_⟩
 ·have e:tabL X.s X.lo X.hi=[]:=by rw[tabL,if_pos hne]
  rw[e]
  exact Yi hk'
 ·have good:X.low.good:=⟨hX,by show 0<X.L.length;omega,heq,by show X.hi-X.lo<=29;omega,by show X.P.length<=40;omega⟩
  have hl:=Ydk good
  have hn:=(Yfo good).2.2.2.2
  replace hl:(tabL X.s X.lo X.hi).length=rngB X:=hl
  replace hn:(rngB X:Int)=X.hi-X.lo+1:=hn
  rw[hl,hn,YHi (X.hi-X.lo) (by omega),YHi (X.hi-X.lo+1) (by omega)]
  have st:lsP 2 enc2 (rngB X) 2 (fun k=>[SV.int IntKind.i64 ((tabL X.s X.lo X.hi).getD k default).1,SV.int IntKind.i64 ((tabL X.s X.lo X.hi).getD k default).2]) (tabL X.low.s X.low.lo X.low.hi):=⟨rfl,hl.symm,fun k _=>Yd _⟩
  refine⟨fun hb=>absurd rfl hb,fun _=>⟨X.low,⟨rfl,good,st⟩,X.low,⟨rfl,good,st⟩,X.low,fun _=>⟨rfl,good,st⟩,?_⟩⟩
  exact Yi hk'
end Go.Proofs.YtlfhmpkopcnheaaGreat
namespace Go.Proofs.YtlfhmpkopcnheaaGreat
open Go Go.Vx Go.RowKit
set_option maxRecDepth 100000
theorem YEs:ownKnob YHk.godebug=none:=by kernel_rfl
theorem YzS:laidOutB YHk=true:=by kernel_rfl
theorem YfL(os:Os)(started:os.Started)(H:Type)(enc:TypeId×Value->H):
 ReturnsInHanded {} Tryz.checked os 3 .any (Rows.topChestsSpec.pre6 enc YHk Tryz.f3 Rows.topChestsRow.domain false) (Rows.topChestsSpec.post enc YHk Tryz.f3 false true false false):=
 Ypa (C:=Tryz.checked) (tb:=4) YEs started (by kernel_rfl) Tryz.func3 YzS
  (ChangeSpec.witness6 (enc:=enc) (C:=Tryz.checked) false ⟨#[], #[.agg #[.int .i64 0,.int .i64 0,.slice none 0 0,.int .i64 0,.int .i64 0,.int .i64 0,.int .i64 0,.int .i64 0,.int .i64 0,.slice none 0 0,.int .i64 0,.int .i64 0,.int .i64 0,.int .i64 0,.int .i64 0,.int .i64 0,.int .i64 0,.int .i64 0,.slice none 0 0,.slice none 0 0,.int .i64 0,.int .i64 0,.int .i64 0,.int .u8 0]],[]⟩ 8 (by kernel_rfl) (by kernel_rfl) (by kernel_rfl) (by kernel_rfl))
  (by kernel_rfl) (by kernel_rfl) (by kernel_rfl) (by kernel_rfl) rfl (fun ds h=>match ds,h with| [_],_=>⟨rfl,rfl,rfl⟩) Yr9 (by kernel_rfl)
theorem topChests_holds:Rows.TopChestsSaid:=
 OpenClaim.holds_of_wide 3 Tryz.f3 rfl rfl rfl rfl rfl rfl rfl ⟨rfl,rfl,rfl,rfl,rfl⟩ rfl rfl rfl rfl rfl (by kernel_rfl) Tryz.func3 (by kernel_rfl)
  (of_decide_eq_true (by kernel_rfl)) (by unfold Func.isWrapper;first| (rw[if_pos (by decide+kernel)];kernel_rfl) | (rw[if_neg (by decide+kernel)];exact⟨rfl,rfl⟩))
  (fun os started H enc _=>YfL os started H enc)
end Go.Proofs.YtlfhmpkopcnheaaGreat
