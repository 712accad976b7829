/- The reference's logarithms of roots, walked: Floor. -/
import Derived.Test.YtlhmikjnholpnaaGreatDoorMgX53n
import Derived.Test.YtlhmikjnholpnaaGreatDoorMgX53h
import Derived.Test.YtlhmikjnholpnaaGreatDoorMgX53d
import Derived.Test.YtlhmikjnholpnaaGreatDoorMgX53f
open Array renaming replicate->Ve
open Bool renaming and->Qi,and_eq_false_iff->Wn,and_eq_true->YS,or_eq_false_iff->K5,or_eq_true->Qj
open Int renaming add_zero->Zb,mul_comm->KM,mul_le_mul_of_nonneg_right->XC,mul_neg->KN,natCast_mul->Qr,neg_neg->Jx,tdiv_eq_ediv_of_nonneg->Wo,tmod_eq_emod_of_nonneg->UX,toNat->Xs,toNat_natCast->Yj
open Go.IntWalk renaming i64_in->Yg,up_tdiv->Wq
open List renaming all_eq_true->VJ,cons_append->Ws,length_append->JO,length_map->VN,mem_append->Ky,mem_cons->Kz,mem_map->QM,mem_singleton->Jj,nil_append->VP,not_mem_nil->Z3
open Nat renaming add->Kg,add_mul->YM,add_zero->KO,beq->YJ,ble->Y7,div->Jb,div_add_mod->KP,div_le_self->XD,eq_of_beq_eq_true->Jy,eq_zero_or_pos->Jc,gcd->YI,le_of_ble_eq_true->KC,le_of_eq->Yx,le_of_lt->JZ,le_of_mul_le_mul_left->Vg,le_of_mul_le_mul_right->Ki,le_of_not_lt->XF,le_refl->Yt,le_trans->Yh,lt_irrefl->ZA,lt_of_le_of_lt->JC,lt_of_lt_of_le->Qt,lt_of_not_le->WJ,lt_or_ge->YY,mod->KS,mod_lt->Kj,mul->K2,mul_add->Ka,mul_assoc->YA,mul_comm->Yl,mul_le_mul->YX,mul_le_mul_left->Yz,mul_le_mul_right->Yp,mul_left_comm->Jd,mul_lt_mul_of_pos_right->ZB,mul_one->Y0,mul_pos->Y1,mul_pow->Yq,mul_zero->ZD,not_lt_zero->J8,one_mul->Y2,pow_add->Yo,pow_le_pow_iff_left->ZF,pow_le_pow_left->YG,pow_le_pow_right->Kp,pow_mul->Ym,pow_one->QO,pow_pos->YB,pow_succ->YH,pow_zero->Jk,reduceAdd->Ya,reduceBEq->Yk,reduceEqDiff->Yc,reduceLeDiff->Ye,zero_add->KJ,zero_le->JJ,zero_mul->JP
open Or renaming inl->KD,inr->KK
open Go.Proofs.Tryz renaming prog->Yb
set_option linter.all false
namespace Go.Proofs.YtlhmikjnholpnaaGreatDoor.Q
open Go Go.Vx
set_option maxRecDepth 100000
set_option maxHeartbeats 8000000
def v33:VF:=⟨110,[.tmp 6,.tmp 7,.tmp 8],(ZR [Zi 6 0,u1 7 .mov [.cn (.bool false)],Zi 8 0] (ZR [Zm 18 0,Zc 19 55 18,Zm 9 19] (.seq (ZR [Zm 20 9,Zq 21 .neq 20 0] (ZC 21 (ZR [Zm 22 9,Zi 6 0,u1 7 .mov [.cn (.bool false)],Zm 8 22] .ret) .skip)) (.seq (ZR [Zm 23 1,Zq 24 .lss 23 1,Zm 25 24,Zg 26 25 false 1,u2 27 25 false (.cmp .gtr) [.tm 26,.cn (.int .i64 1000000)],u1 28 .or [.tm 25,.tm 27],Zm 29 28,Zg 30 29 false 2,u2 31 29 false (.cmp .lss) [.tm 30,.cn (.int .i64 1)],u1 32 .or [.tm 29,.tm 31],Zm 33 32,Zg 34 33 false 2,u2 35 33 false (.cmp .gtr) [.tm 34,.cn (.int .i64 10000000)],u1 36 .or [.tm 33,.tm 35]] (ZC 36 (ZR [Zi 6 0,u1 7 .mov [.cn (.bool false)],Zi 8 2] .ret) .skip)) (ZR [u1 10 .mov [.cn .nil]] (.seq (ZR [Zi 11 0] (.block 0 (.loop (.seq (ZR [Zm 37 11,Zm 38 0,Zl 39 38,Zr 40 .lss 37 39] (ZC 40 .skip (.exit 0))) (.seq (.block 1 (.draw [] [Zu 43 10,Zu 44 0,Zu 45 11,ZX 46 2 44 45,Zy 47 0 46,Zv 48 1 47,Zu 49 0,Zu 50 11,ZX 51 2 49 50,Zy 52 1 51,Zv 53 1 52,Zu 54 2,w1 55 (.ari .mul) [.tm 53,.tm 54],w1 56 (.build Z2 [(0,1),(1,1)]) [.tm 48,.tm 55],w1 57 (.buildSlice 2 1 Z2 [(0,2)]) [.tm 56],w1 58 (.append 2 16 Z2) [.tm 43,.tm 57],Zu 10 58])) (.region [Zm 41 11,Zp 42 41 1,Zm 11 42])))))) (.seq (ZR [Zm 59 10,Zm 60 1,u1 61 (.call 56) [.tm 59,.cn (.int .i64 1000000000001),.tm 60],Zq 62 .geq 61 0,Zm 63 62,Zg 64 63 false 10,Zg 65 63 false 1,u2 66 63 false (.call 56) [.tm 64,.cn (.int .i64 (-1000000000000)),.tm 65],u2 67 63 false (.cmp .lss) [.tm 66,.cn (.int .i64 0)],u1 68 .or [.tm 63,.tm 67]] (ZC 68 (ZR [Zi 6 0,u1 7 .mov [.cn (.bool false)],Zi 8 7] .ret) .skip)) (ZR [Zm 70 10,u1 71 (.call 57) [.tm 70,.cn (.int .i64 60)],Zm 69 71,Ze 72 0 69,Ze 73 1 69,u1 12 (.allocArr 2 1 [.nil,.nil]) [],u1 13 (.allocArr 2 1 [.nil,.nil]) [],Zs 2 12 72,Zs 2 13 73] (ZR [Zi 14 (-1000000000000),Zi 15 1000000000001] (.seq (.block 2 (.loop (.seq (ZR [Zm 74 15,Zm 75 14,Zo 76 .sub 74 75,Zq 77 .gtr 76 1] (ZC 77 .skip (.exit 2))) (.block 3 (ZR [Zm 78 14,Zm 79 15,Zo 80 .add 78 79,u1 81 .quo [.tm 80,.cn (.int .i64 2)],Zm 16 81] (.seq (.draw [] [Zw 82 2 12,Zu 83 16,w1 84 .neg [.tm 83],Zu 85 1,w1 86 (.ari .mul) [.tm 84,.tm 85],Zw 88 2 13,Zu 89 16,Zu 90 1,w1 91 (.ari .mul) [.tm 89,.tm 90],Zz 87 59 82 86,Zz 92 59 88 91,Zz 93 58 87 92,Zu 17 93]) (.seq (ZR [Zm 94 17,Zq 95 .eql 94 0] (ZC 95 (.region [Zm 96 10,Zm 97 16,Zm 98 1,u1 99 (.call 56) [.tm 96,.tm 97,.tm 98],Zm 17 99]) .skip)) (ZR [Zm 100 17,Zq 101 .geq 100 0] (ZC 101 (.region [Zm 102 16,Zm 14 102]) (.region [Zm 103 16,Zm 15 103])))))))))) (ZR [Zm 104 14,Zm 105 10,Zm 106 14,Zm 107 1,u1 108 (.call 56) [.tm 105,.tm 106,.tm 107],Zq 109 .eql 108 0,Zm 6 104,Zm 7 109,Zi 8 0] .ret)))))))))))⟩
theorem YpO:Yn Yb Tryz.f33=some v33:=by kernel_rfl
def EE(l:List (Int×Int))(den m:Int):Prop:=dnP (atG l den m)<=upP (atG l den m)
theorem upP_app2:∀a b:List (Int×Int),upP (a++b)=upP a*upP b/\dnP (a++b)=dnP a*dnP b
 | [],b=>by simp [upP,dnP]
 |x::a,b=>by
  obtain⟨h1,h2⟩:=upP_app2 a b
  rw[Ws,upP,dnP,upP,dnP,h1,h2,YA,YA]
  exact⟨rfl,rfl⟩
theorem two_P(e:Int):upP [(2,e)]=2^e.toNat/\dnP [(2,e)]=2^(-e).toNat:=by
 unfold upP dnP upP dnP
 by_cases c:e<0
 ·rw[if_pos c,if_pos c,show e.toNat=0 by omega];exact⟨rfl,by simp⟩
 ·rw[if_neg c,if_neg c,show(-e).toNat=0 by omega];exact⟨by simp,rfl⟩
theorem EE_mono{l:List (Int×Int)}{den m m':Int}(hd:1<=den)(h:m'<=m)(he:EE l den m):EE l den m':=by
 unfold EE atG at*
 rw[(upP_app2 _ _).1,(upP_app2 _ _).2,(two_P _).1,(two_P _).2]at*
 have hm:m'*den<=m*den:=XC h (by omega)
 have e1: -m*den= -(m*den):=Int.neg_mul _ _
 have e2: -m'*den= -(m'*den):=Int.neg_mul _ _
 rw[e1]at he
 rw[e2]
 have a:=Yz (dnP l) (Kp (show 0<2 by decide) (show(- -(m'*den)).toNat<=(- -(m*den)).toNat by omega))
 have b:=Yz (upP l) (Kp (show 0<2 by decide) (show(-(m*den)).toNat<=(-(m'*den)).toNat by omega))
 omega
theorem YdK{l:List (Int×Int)}{den a b:Int}(hd:1<=den)(h1:EE l den a)(h2:¬EE l den (a+1))(h3:EE l den b)(h4:¬EE l den (b+1)):a=b:=by
 rcases Int.lt_trichotomy a b with h|h|h
 ·exact absurd (EE_mono hd (show a+1<=b by omega) h3) h2
 ·exact h
 ·exact absurd (EE_mono hd (show b+1<=a by omega) h1) h4
theorem AQ(l:List (Int×Int))(den m:Int):0<=sgn (atG l den m)↔EE l den m:=by
 unfold sgn EE
 split
 ·constructor
  ·intro _;omega
  ·intro _;decide
 ·split
  ·constructor
   ·intro h;exact absurd h (by decide)
   ·intro _;omega
  ·constructor
   ·intro _;omega
   ·intro _;decide
theorem Gv(p:Nat):lo p 2=2^p/\hi p 2=2^p:=by
 have e:lgR 2 p=(2^p,2^p):=by
  unfold lgR
  rw[if_pos (by decide),show lgK 2=1 by decide,Y2]
 exact⟨congrArg Prod.fst e,congrArg Prod.snd e⟩
theorem two_S(g:Nat->Nat)(e:Int):upS g [(2,e)]=g 2*e.toNat/\dnS g [(2,e)]=g 2*(-e).toNat:=by
 have h2:g (2:Int).toNat=g 2:=rfl
 rw[upS,upS,dnS,dnS]
 by_cases c:e<0
 ·rw[if_pos c,if_pos c,show e.toNat=0 by omega,ZD,KO,KO,h2]
  exact⟨rfl,rfl⟩
 ·rw[if_neg c,if_neg c,show(-e).toNat=0 by omega,ZD,KO,KO,h2]
  exact⟨rfl,rfl⟩
theorem U5{g:Nat->Nat}{p:Nat}(hg:g 2=2^p)(l:List (Int×Int))(den m:Int):upS g (atG l den m)=upS g l+(-m*den).toNat*2^p/\dnS g (atG l den m)=dnS g l+(m*den).toNat*2^p:=by
 have e: -m*den= -(m*den):=Int.neg_mul _ _
 unfold atG
 rw[(G0 g _ _).1,(G0 g _ _).2,(two_S g _).1,(two_S g _).2,hg,e,Jx,Yl,Yl (2^p) (m*den).toNat]
 exact⟨rfl,rfl⟩
theorem Yhx{a b:Int}(h:1<b-a):a<(a+b).tdiv 2/\(a+b).tdiv 2<b:=by
 rcases Int.le_total 0 (a+b)with h0|h0
 ·rw[Wo h0];omega
 ·have e:(a+b).tdiv 2= -((-(a+b))/2):=by
   rw[<-Wo (by omega:0<= -(a+b)),Int.neg_tdiv,Jx]
  rw[e];omega
def rflrC:Ctr:={ alias:=false,of:=fun l=>match l with
 | [.vs _ _ n sz get,.int .i64 den,.int .i64 s]=> .ex (List (Int×Int)) fun l=> .ex Int fun K=> .pre (lsP 2 Yw n sz get l/\(∀x,x∈l->JB x=false)/\n<=16/\(1<=den/\den<=1000)/\(1<=s/\s<=10000000)/\(∀x,x∈l.map (J5 s)->okU x)/\
     (∀m:Int, -1000000000000<=m->m<=1000000000001->Dec (atG (l.map (J5 s)) den m))/\(EE (l.map (J5 s)) den (-1000000000000)/\¬EE (l.map (J5 s)) den 1000000000001)/\EE (l.map (J5 s)) den K/\¬EE (l.map (J5 s)) den (K+1))
     (.fin (.tup [.int .i64 K,.bool (decide (upP (atG (l.map (J5 s)) den K)=dnP (atG (l.map (J5 s)) den K))),.int .i64 0]) [])
 |_=>noC}
def QG2:Env:=mkE [(55,chkTC),(56,expC),(57,sumsC),(58,orderC),(59,movC)] []
theorem Yd0:YD Yb QG2:=eo (by kernel_rfl) ⟨⟨Ya3,_,Tryz.func55,rfl,rfl⟩,⟨YlC,_,Tryz.func56,rfl,rfl⟩,⟨Pk,_,Tryz.func57,rfl,rfl⟩,⟨Pj,_,Tryz.func58,rfl,rfl⟩,⟨YlF,_,Tryz.func59,rfl,rfl⟩,trivial⟩ trivial
theorem rflr_ok:rflrC.ok Yb 33:=by
 refine Yy Tryz.func33 YpO Yd0 800 rflrC fun args k h=>?_
 simp only[rflrC]at h
 split at h
 ·rename_i tt z n sz get den s
  obtain⟨l,K,⟨⟨rfl,rfl,hg⟩,hl,hn,hd,hs,hA,hdec,hend,hK1,hK2⟩,h⟩:=h
  refine⟨[.vs tt z l.length 2 (fun k=>Yw (l.getD k default)),.int .i64 den,.int .i64 s],⟨⟨id,rfl,rfl,rfl,hg⟩,⟨rfl,rfl⟩,⟨rfl,rfl⟩,trivial⟩,?_⟩
  dsimp only[v33,QG2,Yk,chkTC,Yw,go_sem,reduceIte,Ya]
  simp only[Yd,Ya,Ye,reduceCtorEq,Yc]
  have hchk:QG l=0:=by
   have:l.any JB=false:=by rw[List.any_eq_false];exact fun x hx=>by rw[hl x hx];decide
   rw[QG,if_neg (by omega),if_neg (by rw[this];decide)]
  refine⟨l,⟨⟨rfl,rfl,fun k _=>YW _⟩,by omega⟩,fun hh=>absurd hchk hh,fun _=>⟨fun hh=>?_,fun _=>?_⟩⟩
  ·rw[decide_eq_false (by omega:¬den<1),decide_eq_false (by omega:¬1000000<den),decide_eq_false (by omega:¬s<1),decide_eq_false (by omega:¬10000000<s)]at hh
   cases hh
  obtain⟨A,hAe⟩:∃A,A=l.map (J5 s):=⟨_,rfl⟩
  have hAl:A.length=l.length:=by rw[hAe,VN]
  have hAk:∀k,k<l.length->A.getD k default=J5 s (l.getD k default):=fun k hk=>by rw[hAe,BV hk]
  rw[<-hAe]at h hA hdec hend hK1 hK2
  refine Loop.keep [0,0,0] Nat (fun i=>[(10,.own 0 0 i 2),(11,.int .i64 i)]) (fun i=>[(0,.own (decide (i=0)) 2 i (fun k=>Yw (A.getD k default)))]) [.gone] (fun i=>i<=l.length) (fun i=>l.length-i) ?_ ?_
  ·refine⟨0,JJ _,?_⟩
   dsimp only[go_sem,reduceIte,Ya]
   simp only[Yf]
   simp
  ·rintro i hi
   dsimp only[Yj,Yw,go_sem,reduceIte,Ya]
   simp only[Yd,Ya,Ye,reduceCtorEq,Yc]
   refine⟨fun hlt=>?_,fun hge=>?_⟩
   ·have hil:i<l.length:=by omega
    have hx:=hl _ (KZ hil)
    simp only[JB,K5,decide_eq_false_iff_not]at hx
    have hm:=Jv (x:=(l.getD i default).2) (y:=s) (X:=1000000000) (Y:=10000000) (by omega) (by omega)
    rw[Yg ((l.getD i default).2*s) (by omega),Yg ((i:Int)+1) (by omega)]
    refine⟨⟨by omega,by omega⟩,⟨by omega,by omega⟩,by decide,⟨by unfold Y8;omega,fun k hk=>GD hk⟩,i+1,by omega,by omega,?_⟩
    simp only[Yf]
    refine⟨by simp,by simp,fun q hq=>?_⟩
    by_cases hqi:q<i
    ·rw[if_pos hqi];exact⟨⟨rfl,rfl⟩,⟨rfl,rfl⟩,trivial⟩
    ·obtain rfl:q=i:=by omega
     rw[if_neg hqi,hAk _ hil,Nat.sub_self]
     exact⟨⟨rfl,rfl⟩,⟨rfl,rfl⟩,trivial⟩
   ·obtain rfl:i=l.length:=by omega
    dsimp only[QG2,Yk,expC,sumsC,Yv,Yw,Yj,go_sem,reduceIte,Ya]
    simp only[Yd,Ya,Ye,reduceCtorEq,Yc]
    have self:lsP 2 Yw l.length 2 (fun k=>[SV.int IntKind.i64 (A.getD k default).fst,SV.int IntKind.i64 (A.getD k default).snd]) A:=⟨rfl,hAl.symm,fun k _=>YW _⟩
    refine⟨A,⟨self,hA,by omega,by decide,hd,hdec _ (by decide) (by decide)⟩,A,fun _=>⟨self,hA,by omega,by decide,hd,hdec _ (by decide) (by decide)⟩,fun hh=>?_,fun _=>⟨A,60,⟨self,hA,by omega,rfl,by decide,by decide⟩,fun y1 y2 y3 y4=>⟨by decide,by decide,by decide,by decide,?_⟩⟩⟩
    ·exfalso
     rw[Qj,decide_eq_true_eq,decide_eq_true_eq]at hh
     rcases hh with hh|hh
     ·exact hend.2 ((AQ ..).1 hh)
     ·have:=(AQ A den (-1000000000000)).2 hend.1;omega
    have hn20:A.length<=20:=by omega
    have b1:=Z4 (p:=60) (g:=lo 60) (fun n h1 h2=>Gu h1 h2) hA hn20 (by decide)
    have b2:=Z4 (p:=60) (g:=Q.hi 60) (fun n h1 h2=>Gk h1 h2) hA hn20 (by decide)
    refine Loop.keep [1,8,1,0] (Int×Int) (fun s=>[(14,.int .i64 s.1),(15,.int .i64 s.2)]) (fun _=>[]) [] (fun s=>(-1000000000000<=s.1/\s.1<s.2/\s.2<=1000000000001)/\EE A den s.1/\¬EE A den s.2) (fun s=>(s.2-s.1).toNat) ?_ ?_
    ·refine⟨(-1000000000000,1000000000001),⟨by decide,hend.1,hend.2⟩,?_⟩
     dsimp only[go_sem,reduceIte,Ya]
     simp only[Yf]
     decide
    ·rintro⟨lw,hg'⟩ ⟨⟨c1,c2,c3⟩,e1,e2⟩
     dsimp only at c1 c2 c3 e1 e2
     dsimp only[QG2,Yk,expC,movC,orderC,Yv,LE,Yw,Yj,go_sem,reduceIte,Ya]
     simp only[Yd,Ya,Ye,reduceCtorEq,Yc]
     rw[Yg (hg'-lw) (by omega)]
     refine⟨fun hc=>?_,fun hc=>?_⟩
     ·obtain⟨m,hm,m1,m2⟩:∃m,IntKind.i64.wrap ((IntKind.i64.wrap (lw+hg')).tdiv 2)=m/\lw<m/\m<hg':=by
       rw[Yg (lw+hg') (by omega)]
       obtain⟨g1,g2⟩:=Yhx hc
       exact⟨(lw+hg').tdiv 2,Yg _ (by omega),g1,g2⟩
      have mb:=LA (m:=m) (den:=den) (by omega) hd
      have emn: -m*den= -(m*den):=Int.neg_mul _ _
      rw[hm,Yg (0-m) (by omega),Int.zero_sub,Yg (m*den) (by omega),Yg (-m*den) (by omega)]
      have hatm:=atG_okU hA (m:=m) (den:=den) (by omega) hd
      have hal:(atG A den m).length<=20:=by unfold atG;rw[JO,List.length_singleton];omega
      have d1:=Z4 (p:=60) (g:=lo 60) (fun n h1 h2=>Gu h1 h2) hatm hal (by decide)
      have d2:=Z4 (p:=60) (g:=Q.hi 60) (fun n h1 h2=>Gk h1 h2) hatm hal (by decide)
      obtain⟨o1,o2,o3,o4⟩:=L0 (p:=60) hatm
      have hord:Xk (atG A den m) 60=(if dnS (Q.hi 60) A+(m*den).toNat*2^60<upS (lo 60) A+(-m*den).toNat*2^60 then 1 else if upS (Q.hi 60) A+(-m*den).toNat*2^60<dnS (lo 60) A+(m*den).toNat*2^60 then -1 else 0):=by
       unfold Xk
       rw[(U5 (Gv 60).1 A den m).1,(U5 (Gv 60).1 A den m).2,(U5 (Gv 60).2 A den m).1,(U5 (Gv 60).2 A den m).2]
      rw[(U5 (Gv 60).1 A den m).1,(U5 (Gv 60).1 A den m).2]at d1
      rw[(U5 (Gv 60).2 A den m).1,(U5 (Gv 60).2 A den m).2]at d2
      obtain⟨N,hN⟩:∃N,N=(m*den).toNat*2^60:=⟨_,rfl⟩
      obtain⟨N',hN'⟩:∃N',N'=(-m*den).toNat*2^60:=⟨_,rfl⟩
      rw[<-hN,<-hN']at hord d1 d2
      refine⟨by decide,rfl,upS (lo 60) A,upS (Q.hi 60) A,⟨⟨YO (by omega),rfl⟩,⟨YO (by omega),rfl⟩,by omega,by omega,by omega⟩,fun w1 w2=>⟨rfl,dnS (lo 60) A,dnS (Q.hi 60) A,⟨⟨YO (by omega),rfl⟩,⟨YO (by omega),rfl⟩,by omega,by omega,by omega⟩,fun w3 w4=>?_⟩⟩
      rw[<-hN,<-hN']
      refine⟨upS (lo 60) A+N',upS (Q.hi 60) A+N',dnS (lo 60) A+N,dnS (Q.hi 60) A+N,⟨⟨YO (by omega),rfl⟩,⟨YO (by omega),rfl⟩,⟨YO (by omega),rfl⟩,⟨YO (by omega),rfl⟩⟩,?_⟩
      rw[<-hord]
      have up:EE A den m->(-1000000000000<=m/\m<hg'/\hg'<=1000000000001)/\EE A den m/\¬EE A den hg':=fun hh=>⟨⟨by omega,m2,c3⟩,hh,e2⟩
      have dn:¬EE A den m->(-1000000000000<=lw/\lw<m/\m<=1000000000001)/\EE A den lw/\¬EE A den m:=fun hh=>⟨⟨c1,m1,by omega⟩,e1,hh⟩
      refine⟨fun e0=>⟨A,⟨self,hA,by omega,⟨by omega,by omega⟩,hd,hdec m (by omega) (by omega)⟩,fun hs=>⟨(m,hg'),up ((AQ A den m).1 hs),by simp only;omega,?_⟩,fun hs=>⟨(lw,m),dn (fun hh=>hs ((AQ A den m).2 hh)),by simp only;omega,?_⟩⟩,fun en=>⟨fun hs=>⟨(m,hg'),up ?_,by simp only;omega,?_⟩,fun hs=>⟨(lw,m),dn ?_,by simp only;omega,?_⟩⟩⟩
      ·simp only[Yf];simp
      ·simp only[Yf];simp
      ·exact JZ (o1 (by omega))
      ·simp only[Yf];simp
      ·have:=o2 (by omega)
       unfold EE
       omega
      ·simp only[Yf];simp
     ·have ehg:hg'=lw+1:=by omega
      rw[ehg]at e2
      have eK:lw=K:=YdK hd.1 e1 e2 hK1 hK2
      subst eK
      refine⟨A,⟨self,hA,by omega,⟨by omega,by omega⟩,hd,hdec lw (by omega) (by omega)⟩,?_⟩
      have hz:decide (sgn (atG A den lw)=0)=decide (upP (atG A den lw)=dnP (atG A den lw)):=by
       rw[decide_eq_decide]
       unfold sgn
       split
       ·constructor
        ·intro hh;exact absurd hh (by decide)
        ·intro _;omega
       ·split
        ·constructor
         ·intro hh;exact absurd hh (by decide)
         ·intro _;omega
        ·constructor
         ·intro _;omega
         ·intro _;rfl
      rw[hz]
      exact WM (show k _ []from h)
 ·exact h.1.elim
end Go.Proofs.YtlhmikjnholpnaaGreatDoor.Q
namespace Go.Proofs.YtlhmikjnholpnaaGreatDoor
open Go Go.Vx
set_option maxRecDepth 100000
set_option maxHeartbeats 8000000
def YcA:VF:={ ntmps:=60,res:=[.cell 2 true 7,.tmp 3,.tmp 4],body:=
 (ZR [u1 1 .box [.tm 0],
 u1 2 (.alloc Z7) [],
 Zi 3 0,
 Zi 4 0]
 (ZR [Zt 15 7 1,
 Zc 16 71 15,
 Zm 14 16,
 Ze 17 0 14,
 Ze 18 1 14,
 Ze 19 2 14,
 Zm 5 17,
 Zm 6 18,
 Zm 7 19]
 (.seq (ZR [Zm 20 7,
 Zq 21 .neq 20 0]
 (ZC 21 (ZR [u1 22 (.build Z7 []) [],
 Zm 23 7,
 Zs 7 2 22,
 Zi 3 0,
 Zm 4 23]
 .ret)
  .skip))
 (ZR [Zm 25 5,
 Zm 26 6,
 u1 27 (.call 33) [.tm 25,.tm 26,.cn (.int .i64 1)],
 Zm 24 27,
 Ze 28 0 24,
 Ze 29 1 24,
 Ze 30 2 24,
 Zm 8 28,
 Zm 9 29,
 Zm 10 30]
 (ZR [u1 11 (.allocArr 6 1 [(.int .i64 0),(.int .i64 0),(.int .i64 0),(.int .i64 0),(.int .i64 0),(.int .i64 0)]) []]
 (.seq (ZR [Zi 12 0]
 (.block 0 (.loop (.seq (ZR [Zm 31 12,
 Zq 32 .lss 31 6]
 (ZC 32 .skip
  (.exit 0)))
 (.seq (.block 1 (.region [Zm 35 12,
 Zm 36 12,
 Za 37 0 1,
 u1 38 (.idxArr 6 1) [.tm 37,.tm 36],
 Zf 39 1 38,
 u1 40 (.idxArr 6 1) [.tm 11,.tm 35],
 Zs 1 40 39]))
 (.region [Zm 33 12,
 Zp 34 33 1,
 Zm 12 34]))))))
 (ZR [u1 41 (.idxArr 6 1) [.tm 11,.cn (.int .i64 0)],
 Zf 42 1 41,
 Zm 43 8,
 Zm 44 6,
 Zo 45 .mul 43 44,
 Zo 46 .sub 42 45,
 u1 47 (.idxArr 6 1) [.tm 11,.cn (.int .i64 0)],
 Zs 1 47 46]
 (ZR [Zt 49 6 11,
 Zm 50 6,
 Zd 51 105 49 50,
 Zm 48 51,
 Ze 52 0 48,
 Ze 53 1 48,
 u1 13 (.alloc Z7) [],
 Zs 7 13 52,
 Zm 7 53]
 (.seq (ZR [Zm 54 7,
 Zq 55 .neq 54 0]
 (ZC 55 (ZR [Zt 56 7 13,
 Zm 57 7,
 Zs 7 2 56,
 Zi 3 0,
 Zm 4 57]
 .ret)
  .skip))
 (ZR [Zt 58 7 13,
 Zm 59 8,
 Zs 7 2 58,
 Zm 3 59,
 Zi 4 0]
 .ret))))))))))}
theorem YoM:Yn Yb Tryz.f100=some YcA:=by kernel_rfl
def v63:VF:=⟨14,[.cell 4 true 7],(ZR [u1 4 (.alloc Z7) []] (ZR [Zm 8 0,Zm 9 1,Zd 10 68 8 9,Zm 7 10,Ze 11 0 7,Ze 12 1 7,u1 5 (.alloc Z7) [],Zs 7 5 11,Zm 6 12] (ZR [Zt 13 7 5,Zs 7 4 13] .ret)))⟩
theorem Yqh:Yn Yb Tryz.f63=some v63:=by kernel_rfl
def v64:VF:=⟨14,[.cell 4 true 7],(ZR [u1 2 .box [.tm 0],u1 3 .box [.tm 1],u1 4 (.alloc Z7) []] (ZR [Zt 8 7 2,Zt 9 7 3,Zd 10 70 8 9,Zm 7 10,Ze 11 0 7,Ze 12 1 7,u1 5 (.alloc Z7) [],Zs 7 5 11,Zm 6 12] (ZR [Zt 13 7 5,Zs 7 4 13] .ret)))⟩
theorem Yqi:Yn Yb Tryz.f64=some v64:=by kernel_rfl
def v65:VF:=⟨14,[.cell 4 true 7],(ZR [u1 2 .box [.tm 0],u1 3 .box [.tm 1],u1 4 (.alloc Z7) []] (ZR [Zt 8 7 2,Zt 9 7 3,Zd 10 67 8 9,Zm 7 10,Ze 11 0 7,Ze 12 1 7,u1 5 (.alloc Z7) [],Zs 7 5 11,Zm 6 12] (ZR [Zt 13 7 5,Zs 7 4 13] .ret)))⟩
theorem Yqj:Yn Yb Tryz.f65=some v65:=by kernel_rfl
def v66:VF:=⟨13,[.cell 2 true 7],(ZR [u1 1 .box [.tm 0],u1 2 (.alloc Z7) []] (ZR [Zt 7 7 1,Zc 8 100 7,Zm 6 8,Ze 9 0 6,Ze 10 1 6,Ze 11 2 6,u1 3 (.alloc Z7) [],Zs 7 3 9,Zm 4 10,Zm 5 11] (ZR [Zt 12 7 3,Zs 7 2 12] .ret)))⟩
theorem Yqk:Yn Yb Tryz.f66=some v66:=by kernel_rfl
def v99:VF:=⟨7,[.cell 2 true 7],(ZR [u1 1 .box [.tm 0],u1 2 (.alloc Z7) []] (.seq (ZR [Za 3 1 1,Zf 4 1 3] (ZC 4 (ZR [u1 5 (.call 63) [.cn (.int .i64 81),.cn (.int .i64 80)],Zs 7 2 5] .ret) .skip)) (ZR [u1 6 (.call 63) [.cn (.int .i64 531441),.cn (.int .i64 524288)],Zs 7 2 6] .ret)))⟩
theorem YqT:Yn Yb Tryz.f99=some v99:=by kernel_rfl
structure NW (r:Rt):Prop where
 ok:Y4 r=0
 dec:∀m:Int, -1000000000000<=m->m<=1000000000001->Dec (atG (Yu r) r.n m)
 ends:Q.EE (Yu r) r.n (-1000000000000)/\¬Q.EE (Yu r) r.n 1000000000001
 k1:Q.EE (Yu r) r.n (JE (Yu r) r.n 1).1
 k2:¬Q.EE (Yu r) r.n ((JE (Yu r) r.n 1).1+1)
def rfoldC:Ctr:={ alias:=false,of:=fun l=>match l with
 | [.agg [.int .i64 a,.int .i64 b,.int .i64 c,.int .i64 d,.int .i64 e,.int .i64 f,.int .i64 n]]=> .pre (NW ⟨a,b,c,d,e,f,n⟩) (.fin (.tup [.agg (Yr (JF ⟨a,b,c,d,e,f,n⟩).1),.int .i64 (JF ⟨a,b,c,d,e,f,n⟩).2.1,.int .i64 (JF ⟨a,b,c,d,e,f,n⟩).2.2]) [])
 |_=>noC}
def UF0:Env:=mkE [(71,rtrmC),(33,Q.rflrC),(105,madeC)] []
theorem YeK:YD Yb UF0:=eo (by kernel_rfl) ⟨⟨YbC,_,Tryz.func71,rfl,rfl⟩,⟨Q.rflr_ok,_,Tryz.func33,rfl,rfl⟩,⟨Ybt,_,Tryz.func105,rfl,rfl⟩,trivial⟩ trivial
theorem YbF(l:List (Int×Int)):l.map (J5 1)=l:=by
 have:J5 1=id:=by funext x;unfold J5;simp
 rw[this,List.map_id]
theorem FK{r:Rt}(h:Y4 r=0):∀x,x∈Yu r->JB x=false/\okU x:=by
 obtain⟨_,h1,h2,h3,h4,h5,h6,_⟩:=VW h
 have key:∀p n:Int,2<=p/\p<=13->K3 n=false->∀x,x∈tm1 p n->JB x=false/\okU x:=fun p n hp hn x hx=>by
  have hb:=QZ hn
  unfold tm1 at hx
  split at hx
  ·cases hx
  ·rw[Jj]at hx
   subst hx
   simp only[JB,okU,K5,decide_eq_false_iff_not]
   omega
 intro x hx
 simp only[Yu,Ky]at hx
 rcases hx with hx|hx|hx|hx|hx|hx
 ·exact key _ _ (by decide) h1 x hx
 ·exact key _ _ (by decide) h2 x hx
 ·exact key _ _ (by decide) h3 x hx
 ·exact key _ _ (by decide) h4 x hx
 ·exact key _ _ (by decide) h5 x hx
 ·exact key _ _ (by decide) h6 x hx
theorem Ah{a b d q:Nat}(hq:q<6):leL a b (X6 d (YP 1 (YF (q*1) [SV.int IntKind.i64 2,SV.int IntKind.i64 3,SV.int IntKind.i64 5,SV.int IntKind.i64 7,SV.int IntKind.i64 11,SV.int IntKind.i64 13]))) (X6 d (YP 1 (YF (q*1) [SV.int IntKind.i64 2,SV.int IntKind.i64 3,SV.int IntKind.i64 5,SV.int IntKind.i64 7,SV.int IntKind.i64 11,SV.int IntKind.i64 13]))):=by
 rcases six hq with rfl|rfl|rfl|rfl|rfl|rfl <;> exact⟨⟨rfl,rfl⟩,trivial⟩
theorem Ynd:rfoldC.ok Yb 100:=by
 refine Yy Tryz.func100 YoM YeK 500 rfoldC fun args k h=>?_
 simp only[rfoldC]at h
 split at h
 ·rename_i a b c d e f n
  refine⟨[.agg [.int .i64 a,.int .i64 b,.int .i64 c,.int .i64 d,.int .i64 e,.int .i64 f,.int .i64 n]],by simp [leL,le],?_⟩
  obtain⟨r,hr⟩:∃r:Rt,r=⟨a,b,c,d,e,f,n⟩:=⟨_,rfl⟩
  rw[<-hr]at h
  rw[show a=r.a by rw[hr],show b=r.b by rw[hr],show c=r.c by rw[hr],show d=r.d by rw[hr],show e=r.e by rw[hr],show f=r.f by rw[hr],show n=r.n by rw[hr]]
  clear hr
  obtain⟨hF,h⟩:=h
  have h:k (.tup [.agg (Yr (JF r).1),.int .i64 (JF r).2.1,.int .i64 (JF r).2.2]) []:=h
  have hc:=hF.ok
  rw[JF,if_neg (by rw[hc];decide)]at h
  have hk:=TW (Yu r) r.n 1
  have hn:=XX hc
  have ha:=Wj hc (i:=0) (by decide)
  simp only[Rt.num]at ha
  have hlen:=Uj r
  have hm:=Jv (x:=(JE (Yu r) r.n 1).1) (y:=r.n) (X:=1000000000000) (Y:=1000) hk (by omega)
  dsimp only[YcA,UF0,Yk,rtrmC,Ag,Q.rflrC,madeC,Yr,Yw,Wk,go_sem,reduceIte,Ya]
  simp only[Yd,Ya,Ye,reduceCtorEq,Yc]
  obtain⟨K,hK⟩:∃K,K=(JE (Yu r) r.n 1).1:=⟨_,rfl⟩
  have hF1:=hF.k1
  have hF2:=hF.k2
  rw[<-hK]at h hk hm hF1 hF2
  refine⟨hc,fun y=>⟨by decide,by decide,by decide,fun hh=>absurd trivial hh,Yu r,K,⟨⟨rfl,rfl,fun q _=>YW _⟩,fun x hx=>(FK hc x hx).1,by omega,hn,by decide,?_⟩,by decide,by decide,by decide,?_⟩⟩
  ·rw[YbF]
   exact⟨fun x hx=>(FK hc x hx).2,hF.dec,hF.ends,hF1,hF2⟩
  refine Loop.keep [1,0,3,1,2] Nat (fun i=>[(12,.int .i64 i)]) (fun i=>[(5,.own false 1 6 (fun k=>[.int .i64 (Wg r.num i k)]))]) [] (fun i=>i<=6) (fun i=>6-i) ?_ ?_
  ·refine⟨0,by omega,?_⟩
   dsimp only[go_sem,reduceIte,Ya]
   simp only[Yf]
   refine⟨by decide,fun q hq=>Ah hq,fun q hq=>?_⟩
   rw[NV hq]
   exact⟨⟨rfl,rfl⟩,trivial⟩
  ·rintro i hi
   dsimp only[UF0,Yk,madeC,Yj,go_sem,reduceIte,Ya]
   simp only[Yd,Ya,Ye,reduceCtorEq,Yc]
   refine⟨fun hlt=>?_,fun hge=>?_⟩
   ·have hi6:i<6:=by omega
    have d1:=Uz r hi6
    simp only[UA r hi6,Yj,go_sem,reduceIte,Ya]
    simp only[Yd,Ya,Ye,reduceCtorEq,Yc]
    rw[Yg ((i:Int)+1) (by omega)]
    refine⟨⟨by omega,by omega⟩,d1,⟨by omega,by omega⟩,hi6,i+1,by omega,by omega,?_⟩
    simp only[Yf]
    refine⟨by simp,fun q hq=>Ah hq,fun q hq=>?_⟩
    rw[<-M6]
    split
    ·exact⟨⟨rfl,rfl⟩,trivial⟩
    ·exact⟨⟨rfl,rfl⟩,trivial⟩
   ·obtain rfl:i=6:=by omega
    simp only[Int.toNat_zero,if_true,Nat.one_ne_zero,Yc,if_false,M7,M8,M9,Na,Nb,Nc,Rt.num]
    rw[Yg (K*r.n) (by omega),Yg (r.a-K*r.n) (by omega)]
    dsimp only[UF0,Yk,madeC,Yr,Ws,VP,go_sem,reduceIte,Ya]
    simp only[Yd,Ya,Ye,reduceCtorEq,Yc]
    have hmz:∀x:Rt,¬(Jf x).2=0->(Jf x).1=KW:=fun x hx=>by
     unfold Jf at hx⊢
     split
     ·rename_i hh;rw[if_pos hh]at hx;exact absurd rfl hx
     ·rfl
    refine⟨by decide,by decide,by decide,by decide,⟨by omega,by omega,fun i hi=>?_⟩,by decide,by decide,fun he=>?_,fun he=>?_⟩
    ·have:=Wj hc hi
     rcases six hi with rfl|rfl|rfl|rfl|rfl|rfl <;> (simp only[Rt.num]at this⊢;omega)
    ·have he:¬(Jf (W7 r K)).2=0:=he
     rw[if_pos he]at h
     have e1:=hmz _ he
     show Jz rfoldC.alias k (SV.tup [SV.agg (Yr (Jf (W7 r K)).1),SV.int IntKind.i64 0,SV.int IntKind.i64 (Jf (W7 r K)).2]) _
     rw[e1]
     exact F0 (r:=KW) h
    ·have he:(Jf (W7 r K)).2=0:=he
     rw[if_neg (fun hh=>hh he)]at h
     exact F0 (r:=(Jf (W7 r K)).1) h
 ·exact h.1.elim
def rfolC:Ctr:={ alias:=false,of:=fun l=>match l with
 | [.agg [.int .i64 a,.int .i64 b,.int .i64 c,.int .i64 d,.int .i64 e,.int .i64 f,.int .i64 n]]=> .pre (NW ⟨a,b,c,d,e,f,n⟩) (.fin (.agg (Yr (JF ⟨a,b,c,d,e,f,n⟩).1)) [])
 |_=>noC}
def rratC:Ctr:={ alias:=false,of:=fun l=>match l with
 | [.int .i64 a,.int .i64 b]=> .pre ((ofL a b 6).1=1/\(ofL a b 6).2.1=1/\YI a.toNat b.toNat=1/\ZJ a b=false) (.fin (.agg (Yr (K1 a b).1)) [])
 |_=>noC}
def GN:Ctr:=Jp 1
def GO:Ctr:=Jp (-1)
def UF1:Env:=mkE [(68,rofC),(70,GN),(67,GO),(100,rfoldC)] []
theorem N5:YD Yb UF1:=eo (by kernel_rfl) ⟨⟨Ybv,_,Tryz.func68,rfl,rfl⟩,⟨Ya5,_,Tryz.func70,rfl,rfl⟩,⟨Ya4,_,Tryz.func67,rfl,rfl⟩,⟨Ynd,_,Tryz.func100,rfl,rfl⟩,trivial⟩ trivial
theorem Pv:rratC.ok Yb 63:=by
 refine Yy Tryz.func63 Yqh N5 300 rratC fun args k h=>?_
 simp only[rratC]at h
 split at h
 ·rename_i a b
  obtain⟨hp,h⟩:=h
  refine⟨[.int .i64 a,.int .i64 b],by simp [leL,le],?_⟩
  dsimp only[v63,UF1,Yk,rofC,GN,GO,Jp,rfoldC,Yr,go_sem,reduceIte,Ya]
  simp only[Yd,Ya,Ye,reduceCtorEq,Yc]
  exact⟨hp,by decide,by decide,VU (r:=(K1 a b).1) h⟩
 ·exact h.1.elim
theorem Ync:rfolC.ok Yb 66:=by
 refine Yy Tryz.func66 Yqk N5 300 rfolC fun args k h=>?_
 simp only[rfolC]at h
 split at h
 ·rename_i a b c d e f n
  obtain⟨hp,h⟩:=h
  refine⟨[.agg [.int .i64 a,.int .i64 b,.int .i64 c,.int .i64 d,.int .i64 e,.int .i64 f,.int .i64 n]],by simp [leL,le],?_⟩
  dsimp only[v66,UF1,Yk,rofC,GN,GO,Jp,rfoldC,Yr,go_sem,reduceIte,Ya]
  simp only[Yd,Ya,Ye,reduceCtorEq,Yc]
  exact⟨hp,by decide,by decide,by decide,VU (r:=(JF ⟨a,b,c,d,e,f,n⟩).1) h⟩
 ·exact h.1.elim
theorem Ynv:(m2C 1).ok Yb 64:=by
 refine Yy Tryz.func64 Yqi N5 300 (m2C 1) fun args k h=>?_
 simp only[m2C]at h
 split at h
 ·rename_i a b c d e f n a' b' c' d' e' f' n'
  refine⟨[.agg [.int .i64 a,.int .i64 b,.int .i64 c,.int .i64 d,.int .i64 e,.int .i64 f,.int .i64 n],.agg [.int .i64 a',.int .i64 b',.int .i64 c',.int .i64 d',.int .i64 e',.int .i64 f',.int .i64 n']],by simp [leL,le],?_⟩
  dsimp only[v64,UF1,Yk,rofC,GN,GO,Jp,rfoldC,Yr,go_sem,reduceIte,Ya]
  simp only[Yd,Ya,Ye,reduceCtorEq,Yc]
  exact⟨by decide,by decide,VU (r:=(KQ ⟨a,b,c,d,e,f,n⟩ ⟨a',b',c',d',e',f',n'⟩ 1).1) h⟩
 ·exact h.1.elim
theorem Ybw:(m2C (-1)).ok Yb 65:=by
 refine Yy Tryz.func65 Yqj N5 300 (m2C (-1)) fun args k h=>?_
 simp only[m2C]at h
 split at h
 ·rename_i a b c d e f n a' b' c' d' e' f' n'
  refine⟨[.agg [.int .i64 a,.int .i64 b,.int .i64 c,.int .i64 d,.int .i64 e,.int .i64 f,.int .i64 n],.agg [.int .i64 a',.int .i64 b',.int .i64 c',.int .i64 d',.int .i64 e',.int .i64 f',.int .i64 n']],by simp [leL,le],?_⟩
  dsimp only[v65,UF1,Yk,rofC,GN,GO,Jp,rfoldC,Yr,go_sem,reduceIte,Ya]
  simp only[Yd,Ya,Ye,reduceCtorEq,Yc]
  exact⟨by decide,by decide,VU (r:=(KQ ⟨a,b,c,d,e,f,n⟩ ⟨a',b',c',d',e',f',n'⟩ (-1)).1) h⟩
 ·exact h.1.elim
theorem Ih(k n a b c:Nat):((((k*n).gcd (k*a)).gcd (k*b)).gcd (k*c))=k*(((n.gcd a).gcd b).gcd c):=by
 rw[Nat.gcd_mul_left,Nat.gcd_mul_left,Nat.gcd_mul_left]
theorem Pp{L:Int}{r:Rt}{a b c:Int}(h:Rep L r a b c):(((r.n.toNat.gcd r.a.natAbs).gcd r.b.natAbs).gcd r.c.natAbs)=1:=by
 obtain⟨hn,_,_,_,_,_,_,hg⟩:=VW h.ok
 have e:J3 r=(((r.n.toNat.gcd r.a.natAbs).gcd r.b.natAbs).gcd r.c.natAbs):=by
  rw[J3,h.hd,h.he,h.hf];simp
 have hp:=H7 hn.1 6
 rw[UF]at hp
 rw[<-e];omega
theorem Ybn{L:Int}(hL:1<=L){r r':Rt}{a b c:Int}(h:Rep L r a b c)(h':Rep L r' a b c):r.n.toNat∣r'.n.toNat:=by
 have hn:=h.n_rng
 have hn':=h'.n_rng
 have key:∀{x x' y:Int},x*L=y*r.n->x'*L=y*r'.n->r.n.toNat∣r'.n.toNat*x.natAbs:=fun {x x' y} e1 e2=>by
  have e3:x*r'.n=x'*r.n:=by
   have:(x*r'.n)*L=(x'*r.n)*L:=by
    have a1:(x*r'.n)*L=(x*L)*r'.n:=by grind
    have a2:(x'*r.n)*L=(x'*L)*r.n:=by grind
    rw[a1,a2,e1,e2];grind
   exact Int.eq_of_mul_eq_mul_right (by omega) this
  have e4:x.natAbs*r'.n.natAbs=x'.natAbs*r.n.natAbs:=by rw[<-Int.natAbs_mul,e3,Int.natAbs_mul]
  have e5:r.n.natAbs=r.n.toNat:=by omega
  have e6:r'.n.natAbs=r'.n.toNat:=by omega
  rw[e5,e6]at e4
  rw[Yl,e4]
  exact Nat.dvd_mul_left ..
 have g:=Ih r'.n.toNat r.n.toNat r.a.natAbs r.b.natAbs r.c.natAbs
 rw[Pp h,Y0]at g
 rw[<-g]
 exact Nat.dvd_gcd (Nat.dvd_gcd (Nat.dvd_gcd (Nat.dvd_mul_left ..) (key h.ha h'.ha)) (key h.hb h'.hb)) (key h.hc h'.hc)
theorem Ybo{L:Int}(hL:1<=L){r r':Rt}{a b c:Int}(h:Rep L r a b c)(h':Rep L r' a b c):r=r':=by
 have hn:=h.n_rng
 have hn':=h'.n_rng
 have e:r.n.toNat=r'.n.toNat:=Nat.dvd_antisymm (Ybn hL h h') (Ybn hL h' h)
 have en:r.n=r'.n:=by omega
 have ea:r.a=r'.a:=Int.eq_of_mul_eq_mul_right (show L≠0 by omega) (by rw[h.ha,h'.ha,en])
 have eb:r.b=r'.b:=Int.eq_of_mul_eq_mul_right (show L≠0 by omega) (by rw[h.hb,h'.hb,en])
 have ec:r.c=r'.c:=Int.eq_of_mul_eq_mul_right (show L≠0 by omega) (by rw[h.hc,h'.hc,en])
 have hd:=h.hd
 have hd':=h'.hd
 have he:=h.he
 have he':=h'.he
 have hf:=h.hf
 have hf':=h'.hf
 cases r
 cases r'
 simp only at*
 subst hd hd' he he' hf hf' en ea eb ec
 rfl
theorem RK{E:Nat}(hE:600000<=E){x y z:Int}(hx:x<=100000)(hy:y<=100000)(hz:z<=100000):UP x y z<=2^E:=by
 have h3:3^y.toNat<=2^(2*y.toNat):=by
  rw[Ym];exact YG (by decide) _
 have h5:5^z.toNat<=2^(3*z.toNat):=by
  rw[Ym];exact YG (by decide) _
 unfold UP
 refine Yh (YX (YX (Yt _) h3) h5) ?_
 rw[<-Yo,<-Yo]
 exact Kp (by decide) (by omega)
theorem Ym9{L n m:Nat}{xa xb xc X t p1 p2 p3:Int}(ha:xa*L=(L*X-m*p1)*n)(hb:xb*L=(L*t-m*p2)*n)(hc:xc*L=(-(m*p3))*n):
 LB.Rat4 (UP xa xb xc^L) (UP (-xa) (-xb) (-xc)^L) ((UP X t 0^L*UP (-p1) (-p2) (-p3)^m)^n) ((UP (-X) (-t) 0^L*UP p1 p2 p3^m)^n):=by
 have a:(L:Int)*xa=n*(L*X-m*p1):=by rw[KM,ha,KM]
 have b:(L:Int)*xb=n*(L*t-m*p2):=by rw[KM,hb,KM]
 have c:(L:Int)*xc=n*(-(m*p3)):=by rw[KM,hc,KM]
 have e1:UP xa xb xc^L=UP (L*X-m*p1) (L*t-m*p2) (-(m*p3))^n:=by rw[<-QD,<-QD,a,b,c]
 have e2:UP (-xa) (-xb) (-xc)^L=UP (-(L*X-m*p1)) (-(L*t-m*p2)) (- -(m*p3))^n:=by
  have n1:(L:Int)* -xa=n* -(L*X-m*p1):=by rw[KN,a,KN]
  have n2:(L:Int)* -xb=n* -(L*t-m*p2):=by rw[KN,b,KN]
  have n3:(L:Int)* -xc=n* - -(m*p3):=by rw[KN,c,KN (n:Int) (-(m*p3))]
  rw[<-QD,<-QD,n1,n2,n3]
 rw[e1,e2]
 exact(LB.rat_comma rfl rfl rfl).pow n
theorem TN{X t:Int}(ht: -11<=t/\t<=11){K:Nat}(hK:K<=4)(h:UP X t 0<=UP (-X) (-t) 0*K):UP X t 0<=1048576:=by
 have h3:∀n:Nat,n<=11->3^n<=177147:=fun n hn=>by
  have h:3^n<=3^11:=Kp (by decide) hn
  have e:(3:Nat)^11=177147:=rfl
  omega
 by_cases hX:0<=X
 ·have e:UP (-X) (-t) 0=3^(-t).toNat:=by
   unfold UP
   rw[show(-X).toNat=0 by omega]
   simp
  rw[e]at h
  have h4:=h3 (-t).toNat (by omega)
  have h5:=YX h4 hK
  omega
 ·have e:UP X t 0=3^t.toNat:=by
   unfold UP
   rw[show X.toNat=0 by omega]
   simp
  rw[e]
  have h4:=h3 t.toNat (by omega)
  omega
theorem YmS{U D x y:Nat}(h:LB.Rat4 U D x y):LB.Rat4 D U y x:=by
 unfold LB.Rat4 at*
 exact h.symm
theorem OK{L n m u v c1 c2 U D:Nat}(hL:1<=L)(hn:1<=n)(hm:m<=22*L)(hc1:0<c1)(hc2:0<c2)(g:c1^44<=2*c2^44)(hR:LB.Rat4 (U^L) (D^L) ((u^L*c2^m)^n) ((v^L*c1^m)^n))(hD:0<D)(h:U<=D*2^n):u<=v*4:=by
 have h1:=YG h L
 rw[Yq,<-Ym]at h1
 have h2:=AA hR (YB hD) h1
 have h3:(u^L*c2^m)^n<=(v^L*c1^m*2^L)^n:=by
  rw[Yq _ (2^L),<-Ym,Yl L n];exact h2
 have h4:=(ZF (show n≠0 by omega)).1 h3
 have h5:=L8 (m:=m) (L:=L) (e:=1) (f:=1) g hm (by decide)
 rw[Y2,Y2]at h5
 have h6:=Yz (v^L*2^L) h5
 have h7:u^L*c2^m<=(v*4)^L*c2^m:=by
  refine Yh h4 (Yh (Yx ?_) (Yh h6 (Yx ?_)))
  ·ac_rfl
  ·rw[Yq v 4,show(4:Nat)=2*2 from rfl,Yq 2 2]
   ac_rfl
 exact(ZF (show L≠0 by omega)).1 (Ki h7 (YB hc2))
theorem Yha{L m:Nat}{r:Rt}{X t p1 p2 p3:Int}(C:Com p1 p2 p3)(hL:1<=L/\L<=120)(hm:m<=22*L)(ht: -11<=t/\t<=11)(hr:Rep L r (L*X-m*p1) (L*t-m*p2) (-(m*p3))){k:Int}(hk: -1000000000000<=k/\k<=1000000000001):Dec (atG (Yu r) r.n k):=by
 have hn:=hr.n_rng
 obtain⟨n,hnn⟩:∃n:Nat,r.n=n:=⟨r.n.toNat,by omega⟩
 have hok:∀x,x∈atG (Yu r) r.n k->okU x:=Q.atG_okU (fun x hx=>(FK hr.ok x hx).2) (by omega) hn
 obtain⟨tu,td⟩:=NN hr
 have eP:upP (atG (Yu r) r.n k)=UP r.a r.b r.c*UP (-k*r.n) 0 0/\dnP (atG (Yu r) r.n k)=UP (-r.a) (-r.b) (-r.c)*UP (-(-k*r.n)) 0 0:=by
  unfold atG
  rw[(UT _ _).1,(UT _ _).2,tu,td]
  exact⟨rfl,rfl⟩
 have hadd:=G3 r.a r.b r.c (-k*r.n) 0 0
 rw[Zb,Zb,Int.neg_zero,<-eP.1,<-eP.2]at hadd
 have hS:upS wQ (atG (Yu r) r.n k)+dnS wQ (atG (Yu r) r.n k)<=200000:=by
  unfold atG
  rw[(JN wQ _ _).1,(JN wQ _ _).2]
  have:=P0 (w:=wQ) Cg (Yx Rn) (Yx Ro) hr
  have e0:upS wQ [(2, -k*r.n)]+dnS wQ [(2, -k*r.n)]=0:=by
   unfold upS dnS upS dnS
   have:wQ (2:Int).toNat=0:=rfl
   simp only[this,JP,ite_self]
  omega
 obtain⟨p1',p2'⟩:=N0 _ hok
 obtain⟨U,hU⟩:∃U,U=upP (atG (Yu r) r.n k):=⟨_,rfl⟩
 obtain⟨D,hD⟩:∃D,D=dnP (atG (Yu r) r.n k):=⟨_,rfl⟩
 rw[<-hU,<-hD]at hadd
 rw[<-hU]at p1'
 rw[<-hD]at p2'
 have hbig:200000<n*LB.ePt 300:=by
  have h:LB.ePt 20<=LB.ePt 300:=LB.ePt_le (by decide)
  have h20:LB.ePt 20=1048576:=rfl
  have:=Nat.le_mul_of_pos_left (LB.ePt 300) (show 0<n by omega)
  omega
 by_cases c1:U<=D*2^n
 ·by_cases c2:D<=U*2^n
  ·refine Mh (n:=n) rfl hok ?_ (by omega)
   rw[<-hU,<-hD]
   have hRr:=Ym9 (L:=L) (n:=n) (m:=m) (xa:=r.a+ -k*r.n) (xb:=r.b) (xc:=r.c) (X:=X-k) (t:=t) (p1:=p1) (p2:=p2) (p3:=p3) (by have:=hr.ha;rw[hnn]at this⊢;grind) (by have:=hr.hb;rw[hnn]at this;exact this) (by have:=hr.hc;rw[hnn]at this;exact this)
   have hR0:LB.Rat4 U D (UP (r.a+ -k*r.n) r.b r.c) (UP (-(r.a+ -k*r.n)) (-r.b) (-r.c)):=by
    unfold LB.Rat4
    rw[Yl U,Yl D]
    exact hadd.symm
   have hR:=(hR0.pow L).trans (YB (KE ..)) hRr
   have q1:=KE p1 p2 p3
   have q2:=KE (-p1) (-p2) (-p3)
   have k1:=OK hL.1 (by omega) hm q1 q2 C.g1 hR p2' c1
   have k2:=OK hL.1 (by omega) hm q2 q1 C.g2 (YmS hR) p1' c2
   have f1:=TN ht (Yt 4) k1
   have f2:=TN (X:= -(X-k)) (t:= -t) (by omega) (Yt 4) (by rw[Jx,Jx];exact k2)
   have hV:1048576<=LB.pV:=KC (by decide+kernel)
   exact LB.sep_tab C.tab q1 q2 hL (show m<=44*L by omega) ⟨KE ..,by omega⟩ ⟨KE ..,by omega⟩ hR
  ·exact HV (m:=n) hok (KD (by rw[<-hU,<-hD];omega)) (by omega)
 ·exact HV (m:=n) hok (KK (by rw[<-hU,<-hD];omega)) (by omega)
theorem Yhb{L m:Nat}{r:Rt}{X t p1 p2 p3:Int}(C:Com p1 p2 p3)(hL:1<=L/\L<=120)(hm:m<=22*L)(ht: -11<=t/\t<=11)(hr:Rep L r (L*X-m*p1) (L*t-m*p2) (-(m*p3))):NW r:=by
 have hn:=hr.n_rng
 have hdec:=fun k h1 h2=>Yha C hL hm ht hr (k:=k) ⟨h1,h2⟩
 obtain⟨tu,td⟩:=NN hr
 have eP:∀k:Int,upP (atG (Yu r) r.n k)=UP r.a r.b r.c*UP (-k*r.n) 0 0/\dnP (atG (Yu r) r.n k)=UP (-r.a) (-r.b) (-r.c)*UP (-(-k*r.n)) 0 0:=fun k=>by
  unfold atG
  rw[(UT _ _).1,(UT _ _).2,tu,td]
  exact⟨rfl,rfl⟩
 obtain⟨_,b1,b2,b3,_⟩:=VW hr.ok
 have b1:=QZ b1
 have b2:=QZ b2
 have b3:=QZ b3
 obtain⟨E,hE⟩:∃E:Nat,E=600000:=⟨_,rfl⟩
 have u1:=RK (E:=E) (by omega) (x:=r.a) (y:=r.b) (z:=r.c) (by omega) (by omega) (by omega)
 have u2:=RK (E:=E) (by omega) (x:= -r.a) (y:= -r.b) (z:= -r.c) (by omega) (by omega) (by omega)
 have p1':=KE r.a r.b r.c
 have p2':=KE (-r.a) (-r.b) (-r.c)
 have lo:Q.EE (Yu r) r.n (-1000000000000):=by
  unfold Q.EE
  rw[(eP _).1,(eP _).2]
  obtain⟨N,hN⟩:∃N:Nat, - -1000000000000*r.n=N:=⟨(- -1000000000000*r.n).toNat,by omega⟩
  rw[hN,(U0 N).1,(U0 N).2,Y0]
  have h1:2^E<=2^N:=Kp (by decide) (by omega)
  exact Yh u2 (Yh h1 (Nat.le_mul_of_pos_left _ p1'))
 have hi:¬Q.EE (Yu r) r.n 1000000000001:=by
  unfold Q.EE
  rw[(eP _).1,(eP _).2]
  obtain⟨N,hN⟩:∃N:Nat, -1000000000001*r.n= -(N:Int):=⟨(1000000000001*r.n).toNat,by omega⟩
  rw[hN,(U0 N).2,Jx,(U0 N).1,Y0]
  have h1:2^E<2^N:=(Nat.pow_lt_pow_iff_right (by decide)).2 (by omega)
  have h2:=Nat.le_mul_of_pos_left (2^N) p2'
  exact fun hh=>absurd (Qt h1 h2) (Nat.not_lt.2 (Yh hh u1))
 have hlen:∀k,(atG (Yu r) r.n k).length<=20:=fun k=>by
  have:=Uj r
  unfold atG
  rw[JO]
  simp
  omega
 have hG:∀k:Int, -1000000000000<=k->k<=1000000000001->(isG (Yu r) r.n k=true↔Q.EE (Yu r) r.n k):=fun k h1 h2=>by
  unfold isG Q.EE
  rw[decide_eq_true_eq]
  exact PI (Q.atG_okU (fun x hx=>(FK hr.ok x hx).2) (by omega) hn) (hlen k) (hdec k h1 h2)
 have t1:isG (Yu r) r.n 1000000000001=false:=by
  cases hh:isG (Yu r) r.n 1000000000001 with
  |false=>rfl
  |true=>exact absurd ((hG _ (by decide) (by decide)).1 hh) hi
 have t2:isG (Yu r) r.n (-1000000000000)=true:=(hG _ (by decide) (by decide)).2 lo
 have e1:(JE (Yu r) r.n 1).1=KY 64 (isG (Yu r) r.n) (-1000000000000) 1000000000001:=by
  unfold JE
  have hb:G8 r.n 1=false:=by
   simp only[G8,K5,decide_eq_false_iff_not];omega
  rw[if_neg (by rw[Yco hr.ok];decide),if_neg (by rw[hb];decide),YbF]
  unfold Gh
  rw[if_neg (by rw[t1,t2];decide)]
 obtain⟨s1,s2⟩:=Dh (t:=isG (Yu r) r.n) 64 (-1000000000000) 1000000000001 (by decide) (by decide)
 have s3:=Dg (t:=isG (Yu r) r.n) 64 (-1000000000000) 1000000000001 (by decide)
 rw[<-e1]at s1 s2 s3
 refine⟨hr.ok,hdec,⟨lo,hi⟩,?_,?_⟩
 ·rcases s1 with h|h
  ·rw[h];exact lo
  ·exact(hG _ (by omega) (by omega)).1 h
 ·rcases s2 with h|h
  ·rw[h];exact hi
  ·intro hh
   rw[(hG _ (by omega) (by omega)).2 hh]at h
   cases h
theorem Ym6{T:Tm}(h:Ke T=0){r:Rt}{X t w:Int}(hr:Rep (Lm T) r (Lm T*X-cA T*w) (Lm T*t-cB T*w) (-(cC T*w)))(hw: -(22*Lm T)<=w/\w<=22*Lm T):∃(L m:Nat) (p1 p2 p3:Int),Lm T=L/\(1<=L/\L<=120)/\m<=22*L/\Com p1 p2 p3/\Rep L r (L*X-m*p1) (L*t-m*p2) (-(m*p3)):=by
 have hL:=Qk h
 have hC:=SY T
 obtain⟨L,hLe⟩:∃L:Nat,Lm T=L:=⟨(Lm T).toNat,by omega⟩
 rw[hLe]at hr hL hw
 rcases Int.le_total 0 w with h0|h0
 ·obtain⟨m,rfl⟩:∃m:Nat,w=m:=⟨w.toNat,by omega⟩
  refine⟨L,m,cA T,cB T,cC T,hLe,by omega,by omega,hC,?_⟩
  rw[KM (m:Int),KM (m:Int),KM (m:Int)];exact hr
 ·obtain⟨m,hm⟩:∃m:Nat,w= -m:=⟨(-w).toNat,by omega⟩
  subst hm
  have e:∀z:Int,z* -(m:Int)=m* -z:=fun z=>by rw[KN,KN,KM]
  rw[e,e,e]at hr
  exact⟨L,m, -cA T, -cB T, -cC T,hLe,by omega,by omega,hC.neg,hr⟩
theorem YaF{T:Tm}(h:Ke T=0){j:Nat}(hj:j<12):NW (Jq T j).2:=by
 obtain⟨s1,s2⟩:=YnI h hj
 obtain⟨a1,a2,a3⟩:=PA T j
 have hr:=(Ak h j (by omega)).cast a1 a2 a3
 obtain⟨L,m,p1,p2,p3,_,hL,hm,hC,hr⟩:=Ym6 h hr s2
 exact Yhb hC hL hm s1 hr
def qL(T:Tm)(j:Nat):Nat->Rt
 |0=>(K1 128 1).1
 |d+1=>(KQ (qL T j d) (ZN T (j+d)) (-1)).1
theorem YaY{T:Tm}(h:Ke T=0){j:Nat}(hj:T.wolf<j):∀d,j+d<=12->Rep (Lm T) (qL T j d) (7*Lm T-(gA T (j+d)-gA T j)) (-(gB T (j+d)-gB T j)) (-(gC T (j+d)-gC T j))
 |0,_=>by
  rw[qL,OY]
  refine⟨by decide+kernel,?_,?_,?_,rfl,rfl,rfl⟩
  ·show 7*Lm T=(7*Lm T-(gA T (j+0)-gA T j))*1;rw[KO];omega
  ·show 0*Lm T=(-(gB T (j+0)-gB T j))*1;rw[KO];omega
  ·show 0*Lm T=(-(gC T (j+0)-gC T j))*1;rw[KO];omega
 |d+1,hd=>by
  have ih:=YaY h hj d (by omega)
  have hL:=Qk h
  have hb:=U7 h
  have bd:=Bu h j (d+1) (by omega)
  have m1:=WE (show 0<=39*Lm T by omega) (show d+1<=12 by omega)
  have m2:=WE hb.1 (show d+1<=12 by omega)
  have m3:=WE hb.2.2.1 (show d+1<=12 by omega)
  have w1:T.wolf<((j+d+1:Nat):Int):=by omega
  have w2:T.wolf<((j+d:Nat):Int):=by omega
  have f:=TR h (show j+d<12 by omega)
  have ea:sA T (j+d+1)-sA T (j+d)=gA T (j+d+1)-gA T (j+d):=by unfold sA;rw[if_pos w1,if_pos w2];omega
  have eb:sB T (j+d+1)-sB T (j+d)=gB T (j+d+1)-gB T (j+d):=by unfold sB;rw[if_pos w1,if_pos w2];omega
  have ec:sC T (j+d+1)-sC T (j+d)=gC T (j+d+1)-gC T (j+d):=by unfold sC;rw[if_pos w1,if_pos w2];omega
  rw[ea,eb,ec]at f
  rw[qL]
  rw[show j+(d+1)=j+d+1 by omega]at bd⊢
  have e1:7*Lm T-(gA T (j+d)-gA T j)+ -1*(gA T (j+d+1)-gA T (j+d))=7*Lm T-(gA T (j+d+1)-gA T j):=by omega
  have e2: -(gB T (j+d)-gB T j)+ -1*(gB T (j+d+1)-gB T (j+d))= -(gB T (j+d+1)-gB T j):=by omega
  have e3: -(gC T (j+d)-gC T j)+ -1*(gC T (j+d+1)-gC T (j+d))= -(gC T (j+d+1)-gC T j):=by omega
  have:=(Hj (s:= -1) (by omega) ih f (by rw[e1];unfold sm;omega) (by rw[e2];unfold sm;omega) (by rw[e3];unfold sm;omega)).2
  exact this.cast e1 e2 e3
theorem Yle{T:Tm}(h:Ke T=0){j:Nat}(hj:T.wolf<j)(hj2:j<12):qL T j (12-j)=(Jq T j).2:=by
 have hL:=Qk h
 have a:=YaY h hj (12-j) (by omega)
 rw[show j+(12-j)=12 by omega]at a
 refine Ybo hL.1 a ((Ak h j (by omega)).cast ?_ ?_ ?_)
 ·unfold sA;rw[if_pos hj];omega
 ·unfold sB;rw[if_pos hj];omega
 ·unfold sC;rw[if_pos hj];omega
set_option maxHeartbeats 4000000
def chk5A:Ctr:={ alias:=false,of:=fun l=>match l with
 | [.agg cs]=> .ex Tm fun T=> .pre (cs=YZ T/\T.nm.size<=9223372036854775807) (.fin (.int .i64 (Ke T)) [])
 |_=>noC}
theorem On{T:Tm}{i:Nat}(hi:i<12)(h:¬UG (T.p i)=1):WY T 12=false:=List.all_eq_false.2 ⟨i,List.mem_range.2 hi,by simpa using h⟩
theorem Yju{T:Tm}(h:∀i,i<12->UG (T.p i)=1):WY T 12=true:=VJ.2 fun i hi=>decide_eq_true (h i (List.mem_range.1 hi))
def TT3:Env:=mkE [(61,tgcdC),(60,nameC)] []
theorem YeH:YD Yb TT3:=eo (by kernel_rfl) ⟨⟨Yho,_,Tryz.func61,rfl,rfl⟩,⟨Ynl,_,Tryz.func60,rfl,rfl⟩,trivial⟩ trivial
theorem C6:chk5A.ok Yb 34:=by
 refine Yy Tryz.func34 YpP YeH 300 chk5A fun args k h=>?_
 simp only[chk5A]at h
 split at h
 ·rename_i cs
  obtain⟨T,⟨rfl,hnm⟩,h⟩:=h
  refine⟨[.agg (YZ T)],⟨YN _ (KU T _),trivial⟩,?_⟩
  have h:k (.int .i64 (Ke T)) []:=h
  dsimp only[v34,YZ,XJ,TT3,Yk,tgcdC,nameC,go_sem,reduceIte,Ya]
  simp only[Yd,Ya,Ye,reduceCtorEq,Yc]
  refine⟨rfl,fun hb=>?_,fun hb=>?_⟩
  ·rw[Ke,if_pos (by simpa using hb)]at h;exact Kb h
  have hw:0<=T.wolf/\T.wolf<=11:=by simp only[K5,decide_eq_false_iff_not]at hb;omega
  rw[Ke,if_neg (by omega)]at h
  refine Loop.keep [1] Nat (fun i=>[(3,.int .i64 i)]) (fun _=>[]) [] (fun i=>i<=12/\∀j,j<i->XU (T.p j)=false) (fun i=>12-i) ?_ ?_
  ·refine⟨0,⟨by omega,fun j hj=>by omega⟩,?_⟩
   dsimp only[go_sem,reduceIte,Ya]
   simp only[Yf]
   exact⟨by decide,rfl⟩
  ·rintro i ⟨hi,hall⟩
   replace hi:i<=12:=hi
   dsimp only[TT3,Yk,tgcdC,nameC,Yj,go_sem,reduceIte,Ya]
   simp only[Yd,Ya,Ye,reduceCtorEq,Yc]
   refine⟨fun hlt=>?_,fun hge=>?_⟩
   ·have hi12:i<12:=by omega
    have e:=Ev T hi12
    have el:=Ew T hi12
    simp only[YZ,XJ]at e el
    rw[e]
    dsimp only[TT3,Yk,tgcdC,nameC,Yj,go_sem,reduceIte,Ya]
    simp only[Yd,Ya,Ye,reduceCtorEq,Yc]
    simp only[Sj (T.p i)]
    refine⟨⟨by omega,by omega⟩,el,fun hb=>?_,fun hb=>⟨i+1,⟨by omega,fun j hj=>?_⟩,by omega,?_⟩⟩
    ·rw[if_pos (Df hi12 hb)]at h;exact Kb h
    ·rcases YY j i with h1|h1
     ·exact hall j h1
     ·obtain rfl:j=i:=by omega
      exact hb
    ·rw[Yg ((i:Int)+1) (by omega)]
     simp only[Yf]
     exact⟨by decide,rfl⟩
   ·obtain rfl:i=12:=by omega
    have hbad:∀j,j<12->XU (T.p j)=false:=hall
    rw[if_neg (by rw[Sg hbad];decide)]at h
    obtain⟨w,hwe⟩:∃w:Nat,T.wolf=(w:Int):=⟨T.wolf.toNat,by omega⟩
    have hw12:w<12:=by omega
    have e:=Ev T hw12
    have el:=Ew T hw12
    simp only[YZ,XJ,hwe]at e el
    rw[hwe,Yj]at h
    simp only[KO,hwe]
    rw[e]
    dsimp only[TT3,Yk,tgcdC,nameC,Yj,go_sem,reduceIte,Ya]
    simp only[Yd,Ya,Ye,reduceCtorEq,Yc]
    refine⟨hnm,fun _=>⟨by omega,by omega⟩,fun _=>el,fun hc=>?_,fun hc=>?_⟩
    ·have hx:XM T.nm=false\/WY T 12=false\/(T.p w).1≠0:=by
      cases hnf:XM T.nm
      ·exact KD rfl
      ·refine KK ?_
       by_cases h0:(T.p w).1=0
       ·refine KD (On hw12 fun hg=>?_)
        unfold UG at hg
        rw[h0]at hg
        have h2:=HN (hbad w hw12)
        simp at hg
        rw[hnf,h0,show(T.p w).2=1 by omega]at hc
        exact absurd hc (by decide)
       ·exact KK h0
     rw[if_pos hx]at h;exact Kb h
    have hnw:XM T.nm=true/\(T.p w).1=0:=by
     simp only[K5,Bool.not_eq_false',YS,decide_eq_true_eq]at hc
     exact⟨hc.1,hc.2.1⟩
    rw[hnw.1,hnw.2]at h
    refine Loop.keep [1] Nat (fun i=>[(5,.int .i64 (YT T i:Nat)),(6,.int .i64 i)]) (fun _=>[]) [] (fun i=>i<=12/\∀j,j<i->UG (T.p j)=1) (fun i=>12-i) ?_ ?_
    ·refine⟨0,⟨by omega,fun j hj=>by omega⟩,?_⟩
     dsimp only[go_sem,reduceIte,Ya]
     simp only[Yf]
     exact⟨by decide,rfl,rfl⟩
    ·rintro i ⟨hi,hgcd⟩
     replace hi:i<=12:=hi
     dsimp only[TT3,Yk,tgcdC,nameC,Yj,go_sem,reduceIte,Ya]
     simp only[Yd,Ya,Ye,reduceCtorEq,Yc]
     refine⟨fun hlt=>?_,fun hge=>?_⟩
     ·have hi12:i<12:=by omega
      have e:=Ev T hi12
      have el:=Ew T hi12
      simp only[YZ,XJ,hwe]at e el
      rw[e]
      dsimp only[TT3,Yk,tgcdC,nameC,Yj,go_sem,reduceIte,Ya]
      simp only[Yd,Ya,Ye,reduceCtorEq,Yc]
      have hb:=hbad i hi12
      obtain⟨⟨x1,x2⟩,x3,x4⟩:=HN hb
      have hsn:(T.p i).2=((T.p i).2.toNat:Int):=by omega
      obtain⟨r1,r2⟩:=HJ (T:=T) (i:=i) fun j hj=>hbad j (by omega)
      refine⟨⟨by omega,by omega⟩,el,(T.p i).1.natAbs,(T.p i).2.toNat,⟨M0 _ (by omega),hsn,by omega,by omega⟩,?_⟩
      by_cases hg1:(T.p i).1.natAbs.gcd (T.p i).2.toNat=1
      ·rw[hg1]
       have hgcd':∀j,j<i+1->UG (T.p j)=1:=fun j hj=>by
        rcases YY j i with h1|h1
        ·exact hgcd j h1
        ·obtain rfl:j=i:=by omega
         exact hg1
       refine⟨fun hc=>absurd rfl hc,fun _=>⟨fun hle=>⟨YT T i,(T.p i).2.toNat,⟨rfl,hsn,by omega,by omega⟩,?_,i+1,⟨by omega,hgcd'⟩,by omega,?_⟩,fun hgt=>⟨i+1,⟨by omega,hgcd'⟩,by omega,?_⟩⟩⟩
       ·have:=Nat.gcd_pos_of_pos_left (T.p i).2.toNat (by omega:0<YT T i)
        omega
       ·have r3:=HJ (T:=T) (i:=i+1) fun j hj=>hbad j (by omega)
        have ha:YT T (i+1)=YT T i/YI (YT T i) (T.p i).2.toNat*(T.p i).2.toNat:=by rw[YT,if_pos (by omega)]
        have e1:((YT T i:Nat):Int).tdiv ((YI (YT T i) (T.p i).2.toNat:Nat):Int)=((YT T i/YI (YT T i) (T.p i).2.toNat:Nat):Int):=Wq rfl rfl
        have hd:=XD (YT T i) (YI (YT T i) (T.p i).2.toNat)
        have e2:IntKind.i64.wrap ((YT T i/YI (YT T i) (T.p i).2.toNat:Nat):Int)=((YT T i/YI (YT T i) (T.p i).2.toNat:Nat):Int):=by
         generalize YT T i/YI (YT T i) (T.p i).2.toNat=q at hd
         exact Yg _ (by omega)
        have e3:((YT T i/YI (YT T i) (T.p i).2.toNat:Nat):Int)*(T.p i).2=(YT T (i+1):Nat):=by rw[ha,Qr,<-hsn]
        rw[e1,e2,e3,Yg (YT T (i+1):Int) (by omega),Yg ((i:Int)+1) (by omega)]
        simp only[Yf]
        exact⟨by decide,rfl⟩
       ·have ha:YT T (i+1)=YT T i:=by rw[YT,if_neg (by omega)]
        rw[ha,Yg ((i:Int)+1) (by omega)]
        simp only[Yf]
        exact⟨by decide,rfl⟩
      ·have hl:=On hi12 hg1
       rw[hl,if_pos (KK (KD rfl))]at h
       refine⟨fun hc=>Kb h,fun hc=>absurd ?_ hg1⟩
       omega
     ·obtain rfl:i=12:=by omega
      rw[Yju hgcd,if_neg (by simp)]at h
      refine⟨fun hc=>?_,fun hc=>?_⟩
      ·rw[if_pos (by omega)]at h;exact Kb h
      ·rw[if_neg (by omega)]at h;exact Kb h
 ·exact h.1.elim
def v62:VF:=⟨59,[.tmp 2,.tmp 3],(ZR [u1 1 .box [.tm 0],u1 2 .mov [.cn .nil],Zi 3 0] (ZR [Zt 10 27 1,Zc 11 34 10,Zm 4 11] (.seq (ZR [Zm 12 4,Zq 13 .neq 12 0] (ZC 13 (ZR [Zm 14 4,u1 2 .mov [.cn .nil],Zm 3 14] .ret) .skip)) (ZR [u1 15 (.make 7 56 Z7) [.cn (.int .i64 12),.cn (.int .i64 12)],Zm 5 15] (ZR [u1 16 (.call 63) [.cn (.int .i64 128),.cn (.int .i64 1)],u1 6 (.alloc Z7) [],Zs 7 6 16] (.seq (ZR [Zi 7 0] (.block 0 (.loop (.seq (ZR [Zm 17 7,Zq 18 .lss 17 12] (ZC 18 .skip (.exit 0))) (.seq (.block 1 (.seq (ZR [Zm 21 7,Za 22 2 1,Zf 23 1 22,Zr 24 .eql 21 23] (ZC 24 (.exit 1) .skip)) (.seq (.draw [(8,.box Z7)] [Zw 26 27 1,Zu 28 7,Zy 29 3 1,w1 30 (.idxArr 12 2) [.tm 29,.tm 28],Zy 31 0 30,Zv 32 1 31,Zu 33 7,Zy 34 3 1,w1 35 (.idxArr 12 2) [.tm 34,.tm 33],Zy 36 1 35,Zv 37 1 36,w1 27 (.call 99) [.tm 26],w1 38 (.call 69) [.tm 27,.tm 32,.tm 37],Zu 25 38,ZE 39 0 25,ZE 40 1 25,ZS 7 8 39,Zu 9 40]) (.seq (.draw [] [Zu 41 5,Zu 42 7,Zw 44 7 8,w1 43 (.call 63) [.cn (.int .i64 3),.cn (.int .i64 2)],Zz 45 65 43 44,ZX 46 7 41 42,ZS 7 46 45]) (.draw [] [Zw 47 7 6,Zu 48 5,Zu 49 7,ZX 50 7 48 49,Zw 51 7 50,Zz 52 65 47 51,ZS 7 6 52]))))) (.region [Zm 19 7,Zp 20 19 1,Zm 7 20])))))) (ZR [Zm 53 5,Za 54 2 1,Zf 55 1 54,Zt 56 7 6,Zx 57 7 53 55,Zs 7 57 56] (ZR [Zm 58 5,Zm 2 58,Zi 3 0] .ret))))))))⟩
theorem Yqg:Yn Yb Tryz.f62=some v62:=by kernel_rfl
theorem Ykw:(ofL 81 80 6).1=1/\(ofL 81 80 6).2.1=1/\YI (81:Int).toNat (80:Int).toNat=1/\ZJ 81 80=false:=by decide+kernel
theorem Ykv:(ofL 531441 524288 6).1=1/\(ofL 531441 524288 6).2.1=1/\YI (531441:Int).toNat (524288:Int).toNat=1/\ZJ 531441 524288=false:=by decide+kernel
theorem Yku:(ofL 3 2 6).1=1/\(ofL 3 2 6).2.1=1/\YI (3:Int).toNat (2:Int).toNat=1/\ZJ 3 2=false:=by decide+kernel
theorem OW:(ofL 128 1 6).1=1/\(ofL 128 1 6).2.1=1/\YI (128:Int).toNat (1:Int).toNat=1/\ZJ 128 1=false:=by decide+kernel
theorem Yks:(ofL 1 1 6).1=1/\(ofL 1 1 6).2.1=1/\YI (1:Int).toNat (1:Int).toNat=1/\ZJ 1 1=false:=by decide+kernel
theorem Ykt:(ofL 2 1 6).1=1/\(ofL 2 1 6).2.1=1/\YI (2:Int).toNat (1:Int).toNat=1/\ZJ 2 1=false:=by decide+kernel
theorem A2(T:Tm):YP 1 (YF 1 (YZ T))=[.bool T.syn]:=rfl
theorem GW(T:Tm):YP 1 (YF 2 (YZ T))=[.int .i64 T.wolf]:=rfl
theorem BT(T:Tm):YK (YF 1 (YZ T))=26:=rfl
theorem Gt(T:Tm):YK (YF 2 (YZ T))=25:=rfl
theorem YgI(T:Tm){i:Nat}(h:i<12):YP 1 (YF (3+Kw (i:Int) 2+1) (YZ T))=[.int .i64 (T.p i).2]:=by
 rcases Uk h with rfl|rfl|rfl|rfl|rfl|rfl|rfl|rfl|rfl|rfl|rfl|rfl <;> rfl
theorem YgJ(T:Tm){i:Nat}(h:i<12):1<=YK (YF (3+Kw (i:Int) 2+1) (YZ T)):=by
 rcases Uk h with rfl|rfl|rfl|rfl|rfl|rfl|rfl|rfl|rfl|rfl|rfl|rfl <;> exact KC rfl
def comC:Ctr:={ alias:=false,of:=fun l=>match l with
 | [.agg cs]=> .ex Tm fun T=> .pre (cs=YZ T) (.fin (.agg (Yr (Wa T))) [])
 |_=>noC}
def UG0:Env:=mkE [(63,rratC)] []
theorem YeL:YD Yb UG0:=eo (by kernel_rfl) ⟨⟨Pv,_,Tryz.func63,rfl,rfl⟩,trivial⟩ trivial
theorem YmU:comC.ok Yb 99:=by
 refine Yy Tryz.func99 YqT YeL 300 comC fun args k h=>?_
 simp only[comC]at h
 split at h
 ·rename_i cs
  obtain⟨T,rfl,h⟩:=h
  refine⟨[.agg (YZ T)],⟨YN _ (KU T _),trivial⟩,?_⟩
  have h:k (.agg (Yr (Wa T))) []:=h
  dsimp only[v99,UG0,Yk,rratC,Yr,A2,BT,QA,J4,go_sem,reduceIte,Ya]
  simp only[Yd,Ya,Ye,reduceCtorEq,Yc]
  refine⟨QT T,fun hs=>⟨Ykw,?_⟩,fun hs=>⟨Ykv,?_⟩⟩
  ·rw[Wa,if_pos hs]at h
   exact VU (r:=(K1 81 80).1) h
  ·rw[Wa,if_neg (by rw[hs];decide)]at h
   exact VU (r:=(K1 531441 524288).1) h
 ·exact h.1.elim
def rfifC:Ctr:={ alias:=false,of:=fun l=>match l with
 | [.agg cs]=> .ex Tm fun T=> .pre (cs=YZ T/\T.nm.size<=9223372036854775807/\Ke T=0) (.fin (.tup [.vs true false 12 7 (fun k=>Yr (ZN T k)),.int .i64 0]) [])
 |_=>noC}
def Uf:Ctr:=m2C (-1)
def UG1:Env:=mkE [(34,chk5A),(63,rratC),(99,comC),(69,powRC),(65,Uf)] []
theorem YeM:YD Yb UG1:=eo (by kernel_rfl) ⟨⟨C6,_,Tryz.func34,rfl,rfl⟩,⟨Pv,_,Tryz.func63,rfl,rfl⟩,⟨YmU,_,Tryz.func99,rfl,rfl⟩,⟨Ya6,_,Tryz.func69,rfl,rfl⟩,⟨Ybw,_,Tryz.func65,rfl,rfl⟩,trivial⟩ trivial
theorem Ynb:rfifC.ok Yb 62:=by
 refine Yy Tryz.func62 Yqg YeM 500 rfifC fun args k h=>?_
 simp only[rfifC]at h
 split at h
 ·rename_i cs
  obtain⟨T,⟨rfl,hnm,hT⟩,h⟩:=h
  refine⟨[.agg (YZ T)],⟨YN _ (KU T _),trivial⟩,?_⟩
  obtain⟨hw,hp⟩:=Eb hT
  dsimp only[v62,UG1,Yk,chk5A,rratC,comC,powRC,Uf,m2C,A2,GW,BT,Gt,QA,J4,Wk,Yr,go_sem,reduceIte,Ya]
  simp only[Yd,Ya,Ye,reduceCtorEq,Yc]
  refine⟨QT T,T,⟨rfl,hnm⟩,fun hh=>absurd hT hh,fun _=>⟨⟨by decide,by decide,by decide,by unfold Y8;decide⟩,OW,?_⟩⟩
  refine Loop.keep [1,3,0] Nat (fun i=>[(7,.int .i64 i)]) (fun i=>[(1,.own false 7 12 (fun k=>Yr (QI T i k))),(2,.box (Yr (K6 T i)))]) [] (fun i=>i<=12) (fun i=>12-i) ?_ ?_
  ·refine⟨0,by omega,?_⟩
   dsimp only[Yr,go_sem,reduceIte,Ya]
   simp only[Yf]
   refine⟨by decide,YN _ (KU T _),⟨rfl,fun k hk=>?_⟩,?_⟩
   ·rw[EB];exact⟨rfl,rfl,rfl,rfl,rfl,rfl,rfl⟩
   ·exact⟨rfl,rfl,rfl,rfl,rfl,rfl,rfl⟩
  ·rintro i hi
   by_cases hi12:i<12
   ·have e1:=TD T hi12
    have e2:=YgI T hi12
    have l1:=TE T hi12
    have l2:=YgJ T hi12
    simp only[KO,e1,e2,UG1,Yk,chk5A,rratC,comC,powRC,Uf,m2C,A2,GW,BT,Gt,QA,J4,Wk,Yr,Yj,go_sem,reduceIte,Ya]
    simp only[Yd,Ya,Ye,reduceCtorEq,Yc]
    refine⟨fun hlt=>⟨fun heq=>?_,fun hne=>?_⟩,fun hge=>absurd (show(i:Int)<12 by omega) hge⟩
    ·refine⟨i+1,by omega,by omega,?_⟩
     have hR:K6 T (i+1)=K6 T i:=by rw[K6,if_pos heq]
     rw[hR,Yg ((i:Int)+1) (by omega)]
     simp only[Yf]
     refine⟨by simp,YN _ (KU T _),fun k hk=>?_⟩
     rw[EA heq]
     exact⟨rfl,rfl,rfl,rfl,rfl,rfl,rfl⟩
    ·refine⟨⟨by omega,by omega⟩,l1,⟨by omega,by omega⟩,l2,T,rfl,?_⟩
     have hF:(KQ (K1 3 2).1 (Xm (Wa T) (T.p i).1 (T.p i).2).1 (-1)).1=WR T i:=rfl
     simp only[if_true,Wk,hF]
     refine⟨by decide,by decide,Yku,⟨by omega,by show(i:Int)<12;omega⟩,hi12,⟨by omega,by show(i:Int)<12;omega⟩,hi12,i+1,by omega,by omega,?_⟩
     have hR:K6 T (i+1)=(KQ (K6 T i) (WR T i) (-1)).1:=by rw[K6,if_neg hne]
     rw[hR,Yg ((i:Int)+1) (by omega)]
     simp only[Yf]
     refine⟨by simp,YN _ (KU T _),fun k hk=>?_⟩
     split
     ·rename_i hki
      subst hki
      rw[Ez hne]
      exact ZT _
     ·rename_i hki
      rw[Bl hki]
      exact ZT _
   ·obtain rfl:i=12:=by omega
    dsimp only[UG1,Yk,chk5A,rratC,comC,powRC,Uf,m2C,A2,GW,BT,Gt,QA,J4,Wk,Yr,Yj,go_sem,reduceIte,Ya]
    simp only[Yd,Ya,Ye,reduceCtorEq,Yc]
    refine⟨fun hh=>absurd hh (by decide),fun _=>?_⟩
    refine⟨⟨by omega,by show T.wolf<12;omega⟩,by omega,?_⟩
    simp only[EC]
    refine Kv (show k _ []from h) ?_ (fun _=>by simp [Y3,Y5,Yr])
    dsimp only[JT,Yr,go_sem,reduceIte,Ya]
    simp only[Yf]
    rfl
 ·exact h.1.elim
def v35:VF:=⟨60,[.tmp 2,.tmp 3],(ZR [u1 1 .box [.tm 0],u1 2 .mov [.cn .nil],Zi 3 0] (ZR [Zt 12 27 1,Zc 13 62 12,Zm 11 13,Ze 14 0 11,Ze 15 1 11,Zm 4 14,Zm 5 15] (.seq (ZR [Zm 16 5,Zq 17 .neq 16 0] (ZC 17 (ZR [Zm 18 5,u1 2 .mov [.cn .nil],Zm 3 18] .ret) .skip)) (ZR [u1 19 (.make 7 56 Z7) [.cn (.int .i64 12),.cn (.int .i64 12)],Zm 6 19] (.seq (ZR [Zi 7 0] (.block 0 (.loop (.seq (ZR [Zm 20 7,Zq 21 .lss 20 12] (ZC 21 .skip (.exit 0))) (.seq (.block 1 (ZR [u1 24 (.call 63) [.cn (.int .i64 1),.cn (.int .i64 1)],u1 8 (.alloc Z7) [],Zs 7 8 24] (.seq (ZR [Zm 25 7,Za 26 2 1,Zf 27 1 26,Zr 28 .leq 25 27] (ZC 28 (ZR [Zi 9 0] (.block 2 (.loop (.seq (ZR [Zm 29 9,Zm 30 7,Zr 31 .lss 29 30] (ZC 31 .skip (.exit 2))) (.seq (.block 3 (.draw [] [Zw 34 7 8,Zu 35 4,Zu 36 9,ZX 37 7 35 36,Zw 38 7 37,Zz 39 64 34 38,ZS 7 8 39])) (.region [Zm 32 9,Zp 33 32 1,Zm 9 33])))))) (ZR [u1 40 (.call 63) [.cn (.int .i64 128),.cn (.int .i64 1)],Zs 7 8 40] (ZR [Zm 41 7,Zm 10 41] (.block 4 (.loop (.seq (ZR [Zm 42 10,Zq 43 .lss 42 12] (ZC 43 .skip (.exit 4))) (.seq (.block 5 (.draw [] [Zw 46 7 8,Zu 47 4,Zu 48 10,ZX 49 7 47 48,Zw 50 7 49,Zz 51 65 46 50,ZS 7 8 51])) (.region [Zm 44 10,Zp 45 44 1,Zm 10 45]))))))))) (.region [Zm 52 6,Zm 53 7,u1 54 (.ari .mul) [.cn (.int .i64 7),.tm 53],u1 55 .rem [.tm 54,.cn (.int .i64 12)],Zt 56 7 8,Zc 57 66 56,Zx 58 7 52 55,Zs 7 58 57])))) (.region [Zm 22 7,Zp 23 22 1,Zm 7 23])))))) (ZR [Zm 59 6,Zm 2 59,Zi 3 0] .ret))))))⟩
theorem YpQ:Yn Yb Tryz.f35=some v35:=by kernel_rfl
def rnotC:Ctr:={ alias:=false,of:=fun l=>match l with
 | [.agg cs]=> .ex Tm fun T=> .pre (cs=YZ T/\T.nm.size<=9223372036854775807/\Ke T=0) (.fin (.tup [.vs true false 12 7 (fun k=>Yr (YR T k)),.int .i64 0]) [])
 |_=>noC}
def FA:Ctr:=m2C 1
def UH1:Env:=mkE [(62,rfifC),(63,rratC),(64,FA),(65,Uf),(66,rfolC)] []
theorem YeN:YD Yb UH1:=eo (by kernel_rfl) ⟨⟨Ynb,_,Tryz.func62,rfl,rfl⟩,⟨Pv,_,Tryz.func63,rfl,rfl⟩,⟨Ynv,_,Tryz.func64,rfl,rfl⟩,⟨Ybw,_,Tryz.func65,rfl,rfl⟩,⟨Ync,_,Tryz.func66,rfl,rfl⟩,trivial⟩ trivial
theorem Ynn:rnotC.ok Yb 35:=by
 refine Yy Tryz.func35 YpQ YeN 600 rnotC fun args k h=>?_
 simp only[rnotC]at h
 split at h
 ·rename_i cs
  obtain⟨T,⟨rfl,hnm,hT⟩,h⟩:=h
  refine⟨[.agg (YZ T)],⟨YN _ (KU T _),trivial⟩,?_⟩
  obtain⟨hw,hp⟩:=Eb hT
  dsimp only[v35,UH1,Yk,rfifC,rratC,FA,Uf,m2C,rfolC,GW,Gt,QA,J4,Wk,Yr,go_sem,reduceIte,Ya]
  simp only[Yd,Ya,Ye,reduceCtorEq,Yc]
  refine⟨QT T,T,⟨rfl,hnm,hT⟩,by decide,by decide,fun hh=>absurd trivial hh,?_⟩
  refine⟨⟨by decide,by decide,by decide,by unfold Y8;decide⟩,?_⟩
  refine Loop.keep [1,2,1] Nat (fun j=>[(7,.int .i64 j)]) (fun j=>[(1,.own false 7 12 (fun k=>Yr ((Jq T j).1 k)))]) [] (fun j=>j<=12) (fun j=>12-j) ?_ ?_
  ·refine⟨0,by omega,?_⟩
   dsimp only[Yr,go_sem,reduceIte,Ya]
   simp only[Yf]
   exact⟨by decide,YN _ (KU T _),rfl,fun k hk=>⟨rfl,rfl,rfl,rfl,rfl,rfl,rfl⟩⟩
  ·rintro j hj
   by_cases hj12:j<12
   ·dsimp only[UH1,Yk,rfifC,rratC,FA,Uf,m2C,rfolC,GW,Gt,QA,J4,Wk,Yr,Yj,go_sem,reduceIte,Ya]
    simp only[Yd,Ya,Ye,reduceCtorEq,Yc]
    refine⟨fun _=>⟨Yks,fun hle=>?_,fun hgt=>⟨OW,?_⟩⟩,fun hh=>absurd (show(j:Int)<12 by omega) hh⟩
    ·refine Loop.keep [1,2,1,0,0] Nat (fun i=>[(9,.int .i64 i)]) (fun i=>[(2,.box (Yr (Jq T i).2))]) [] (fun i=>i<=j) (fun i=>j-i) ?_ ?_
     ·refine⟨0,by omega,?_⟩
      dsimp only[Yr,go_sem,reduceIte,Ya]
      simp only[Yf]
      exact⟨by simp,YN _ (KU T _),rfl,rfl,rfl,rfl,rfl,rfl,rfl⟩
     ·rintro i hi
      dsimp only[UH1,Yk,rfifC,rratC,FA,Uf,m2C,rfolC,GW,Gt,QA,J4,Wk,Yr,Yj,go_sem,reduceIte,Ya]
      simp only[Yd,Ya,Ye,reduceCtorEq,Yc]
      refine⟨fun hlt=>?_,fun hge=>?_⟩
      ·refine⟨⟨by omega,by show(i:Int)<12;omega⟩,i+1,by omega,by omega,?_⟩
       have hS:(Jq T (i+1)).2=(KQ (Jq T i).2 (ZN T i) 1).1:=rfl
       rw[hS,Yg ((i:Int)+1) (by omega)]
       simp only[Yf]
       exact⟨by simp,YN _ (KU T _)⟩
      ·obtain rfl:i=j:=by omega
       refine⟨by decide,YaF hT hj12,?_⟩
       have e7:(IntKind.i64.wrap (7*(i:Int))).tmod 12=((7*i%12:Nat):Int):=by
        rw[Yg _ (by omega),UX (by omega)];omega
       simp only[e7,Yj]
       refine⟨⟨by omega,by show((7*i%12:Nat):Int)<12;omega⟩,by omega,i+1,by omega,by omega,?_⟩
       have hS:(Jq T (i+1)).1=UQ (Jq T i).1 (7*i%12) (JF (Jq T i).2).1:=rfl
       rw[hS,Yg ((i:Int)+1) (by omega)]
       simp only[Yf]
       refine⟨by simp,YN _ (KU T _),fun k hk=>?_⟩
       unfold UQ
       split
       ·exact ZT _
       ·exact ZT _
    ·refine Loop.keep [1,2,1,0,0] Nat (fun d=>[(10,.int .i64 ((j+d:Nat):Int))]) (fun d=>[(2,.box (Yr (qL T j d)))]) [] (fun d=>j+d<=12) (fun d=>12-d) ?_ ?_
     ·refine⟨0,by omega,?_⟩
      dsimp only[Yr,qL,go_sem,reduceIte,Ya]
      simp only[Yf]
      exact⟨by simp,YN _ (KU T _)⟩
     ·rintro d hd
      dsimp only[UH1,Yk,rfifC,rratC,FA,Uf,m2C,rfolC,GW,Gt,QA,J4,Wk,Yr,Yj,go_sem,reduceIte,Ya]
      simp only[Yd,Ya,Ye,reduceCtorEq,Yc]
      refine⟨fun hlt=>?_,fun hge=>?_⟩
      ·refine⟨⟨by omega,by show((j+d:Nat):Int)<12;omega⟩,d+1,by omega,by omega,?_⟩
       have hS:qL T j (d+1)=(KQ (qL T j d) (ZN T (j+d)) (-1)).1:=rfl
       rw[hS,Yg (((j+d:Nat):Int)+1) (by omega)]
       simp only[Yf]
       exact⟨⟨by decide,by decide,by decide,by omega⟩,YN _ (KU T _)⟩
      ·obtain rfl:d=12-j:=by omega
       rw[Yle hT (by omega) hj12]
       obtain⟨i,hji⟩:∃i,i=j:=⟨j,rfl⟩
       subst hji
       refine⟨by decide,YaF hT hj12,?_⟩
       have e7:(IntKind.i64.wrap (7*(i:Int))).tmod 12=((7*i%12:Nat):Int):=by
        rw[Yg _ (by omega),UX (by omega)];omega
       simp only[e7,Yj]
       refine⟨⟨by omega,by show((7*i%12:Nat):Int)<12;omega⟩,by omega,i+1,by omega,by omega,?_⟩
       have hS:(Jq T (i+1)).1=UQ (Jq T i).1 (7*i%12) (JF (Jq T i).2).1:=rfl
       rw[hS,Yg ((i:Int)+1) (by omega)]
       simp only[Yf]
       refine⟨by simp,YN _ (KU T _),fun k hk=>?_⟩
       unfold UQ
       split
       ·exact ZT _
       ·exact ZT _
   ·obtain rfl:j=12:=by omega
    dsimp only[UH1,Yk,rfifC,rratC,FA,Uf,m2C,rfolC,GW,Gt,QA,J4,Wk,Yr,Yj,go_sem,reduceIte,Ya]
    simp only[Yd,Ya,Ye,reduceCtorEq,Yc]
    refine⟨fun hh=>absurd hh (by decide),fun _=>?_⟩
    refine Kv (show k _ []from h) ?_ (fun _=>by simp [Y3,Y5,Yr])
    dsimp only[JT,Yr,YR,go_sem,reduceIte,Ya]
    simp only[Yf]
    rfl
 ·exact h.1.elim
end Go.Proofs.YtlhmikjnholpnaaGreatDoor
namespace Go.Vx
open Go
open Go.RowKit in
theorem S2{P:Program}{E:Env}{f:FuncId}{fn:Func}{vf:VF}(hf:P.funcs[f]? =some fn)(hvf:Yn P fn=some vf)(hE:YD P E)(n:Nat)(c:Ctr)
 (h:∀(args:List SV) (k:SV->List HO->Prop),CSat (c.of args) k->∃args',leL 0 0 args args'/\run E (fun r hp=> ∃r' hp',le (Yi hp) (Yi hp') r r'/\leH (Yi hp) (Yi hp') hp hp'/\k r' hp'/\Y3 r'/\Xf hp') vf.res n [.code vf.body] { fr:=X1 vf.ntmps args',saved:=[],hp:=[]}):c.ok P f:=by
 intro args vs z k hsat hx hc
 obtain⟨args',hle,hrun⟩:=h args k hc
 have hk0:ZG z.toWorld [] z.bd z.toWorld [] (z.wI z.I (Xw z)).bd:=⟨rfl,fun _ _ h=>h,fun b hf cs T fz ho=>⟨ho,V4,hf.2,z.ex b hf.2⟩⟩
 have hx2:RepL z.toWorld [] (z.wI z.I (Xw z)).bd args' vs:=V8 Dx _ _ hle (XRepL.keepG hk0 hx).rep
 obtain⟨body,hbody,hcode,hres,hnt⟩:=FO hvf
 refine F9 (n:=0) (Fa (b:=vf.body) hf hbody ?_)
 refine Py (w0:=z) (fn0:=fn) (R0:=fun e w'=> ∃r hs v bs,∃J,∃hJ:Ext z J,k r hs/\e= .returned v/\Rep w' bs (z.wI J hJ).bd r v/\Hp w' bs (z.wI J hJ).bd hs/\BelowI z.bd z.toWorld w'/\(c.alias=false->Y3 r/\Xf hs)) hE hsat.2 hres (by
  rintro r hp v w' bs D hD ⟨r',hp',l1,l3,hk,hfr⟩ hr hH hb
  have hrel:Rel (⟨z.wI D hD,[]⟩:Cx) [] ⟨[r],[],hp⟩ [v] [] w':=⟨bs,.cons _ _ _ _ hr .nil,.nil,hH,⟨hb.os,hb.tape,hb.output,hb.size,fun j hj hn=>hb.block j hj ((hD.old j hj).symm.trans hn)⟩,⟨fun _ h=>(by cases h),.nil,[],rfl,by simp,fun _ h=>(by simp at h)⟩⟩
  obtain⟨bs',g1,_,g3,_,_⟩:=I5 (s:=⟨[r],[],hp⟩) (s':=⟨[r'],[],hp'⟩) ⟨⟨l1,trivial⟩,trivial,l3⟩ hrel
  obtain⟨u,us,e,g5,_⟩:=g1.cons_inv
  cases e
  exact⟨r',hp',v,bs',D,hD,hk,rfl,g5,g3,hb,fun _=>hfr⟩) n _ _ hrun [] [] none _
  {tmps:=vs.toArray++Ve (fn.ntmps-vs.toArray.size) undef,defers:=[]} z.toWorld (.code body vf.body [] [] [] none _ hcode .nil) (D:=z.I) (hD:=Xw z) ?_
 refine⟨[],?_,.nil,hp0 (hJ:=Xw z) hsat.1,BelowI.refl _ _,⟨fun _ h=>(by cases h),.nil,[[]],rfl,by simp,fun _ h=>(by simp at h)⟩⟩
 have:=Hr (n:=fn.ntmps) hx2
 rw[hnt]
 simpa using this
end Go.Vx
namespace Go.Proofs.YtlhmikjnholpnaaGreatDoor
open Go Go.Vx
set_option maxRecDepth 100000
set_option maxHeartbeats 8000000
def v29:VF:=⟨5,[.tmp 2],(ZR [Zi 2 0] (ZR [Zm 3 0,u1 4 (.ari .add) [.cn (.int .i64 273150),.tm 3],Zm 2 4] .ret))⟩
theorem YpK:Yn Yb Tryz.f29=some v29:=by kernel_rfl
def v36:VF:=⟨84,[.tmp 6,.tmp 7],(ZR [u1 3 .box [.tm 0],u1 6 .mov [.cn .nil],Zi 7 0] (.seq (.draw [(8,.box Z7)] [Zu 17 1,Zu 18 2,w1 19 .rem [.tm 18,.cn (.int .i64 12)],ZX 20 7 17 19,Zw 21 7 20,Zu 22 1,w1 23 (.idxAddr 7) [.tm 22,.cn (.int .i64 9)],Zw 24 7 23,Zz 25 67 21 24,Zu 16 25,ZE 26 0 16,ZE 27 1 16,ZS 7 8 26,Zu 9 27]) (ZR [u1 29 (.call 68) [.cn (.int .i64 2),.cn (.int .i64 1)],Zm 28 29,Ze 30 0 28,Ze 31 1 28,u1 10 (.alloc Z7) [],Zs 7 10 30,Zm 11 31] (ZR [Zt 33 7 10,Zm 34 2,u1 35 .quo [.tm 34,.cn (.int .i64 12)],u1 36 (.ari .sub) [.tm 35,.cn (.int .i64 5)],u1 37 (.call 69) [.tm 33,.tm 36,.cn (.int .i64 1)],Zm 32 37,Ze 38 0 32,Ze 39 1 32,Zs 7 10 38] (ZR [Zt 41 7 8,Zt 42 7 10,Zd 43 70 41 42,Zm 40 43,Ze 44 0 40,Ze 45 1 40,Zs 7 8 44] (ZR [Zt 47 7 8,Zc 48 71 47,Zm 46 48,Ze 49 0 46,Ze 50 1 46,Ze 51 2 46,Zm 12 49,Zm 13 50,Zm 14 51] (.seq (ZR [Zi 15 0] (.block 0 (.loop (.seq (ZR [Zm 52 15,Zm 53 12,Zl 54 53,Zr 55 .lss 52 54] (ZC 55 .skip (.exit 0))) (.seq (.block 1 (.region [Zm 58 12,Zm 59 15,Zm 60 12,Zm 61 15,Zx 62 2 60 61,Za 63 1 62,Zf 64 1 63,u1 65 (.ari .mul) [.cn (.int .i64 2),.tm 64],Zx 66 2 58 59,Za 67 1 66,Zs 1 67 65])) (.region [Zm 56 15,Zp 57 56 1,Zm 15 57])))))) (.seq (.draw [] [Zu 68 12,Zy 69 2 3,Zv 70 1 69,Zu 72 13,Zy 74 1 3,Zv 75 1 74,Zu 77 13,w1 78 .neg [.tm 77],Zu 82 13,w1 83 (.ari .mul) [.cn (.int .i64 2),.tm 82],w1 71 (.call 29) [.tm 70],w1 73 (.build Z2 [(0,1),(1,1)]) [.tm 71,.tm 72],w1 76 (.call 29) [.tm 75],w1 79 (.build Z2 [(0,1),(1,1)]) [.tm 76,.tm 78],w1 80 (.buildSlice 2 2 Z2 [(0,2),(2,2)]) [.tm 73,.tm 79],⟨u1 81 (.append 2 16 Z2) [.tm 68,.tm 80],[.tm 13,.tm 82,.tm 82,.tm 83]⟩,Zu 6 81,Zu 7 83]) .ret))))))))⟩
theorem YpR:Yn Yb Tryz.f36=some v36:=by kernel_rfl
def v13:VF:=⟨21,[.tmp 6,.tmp 7],(ZR [u1 3 .box [.tm 0],u1 4 .box [.tm 1],u1 6 .mov [.cn .nil],Zi 7 0] (ZR [Zt 11 27 4,Zc 12 35 11,Zm 10 12,Ze 13 0 10,Ze 14 1 10,Zm 8 13,Zm 9 14] (ZR [Zt 15 3 3,Zm 16 8,Zm 17 2,u1 18 (.call 36) [.tm 15,.tm 16,.tm 17],Ze 19 0 18,Ze 20 1 18,Zm 6 19,Zm 7 20] .ret)))⟩
theorem Ypk:Yn Yb Tryz.f13=some v13:=by kernel_rfl
def kelC:Ctr:={ alias:=false,of:=fun l=>match l with
 | [.int .i64 t]=> .pre (KG t=true) (.fin (.int .i64 (273150+t)) [])
 |_=> .pre False (.fin (.int .i64 0) [])}
def UI0:Env:=mkE [] []
theorem YeO:YD Yb UI0:=eo (by kernel_rfl) trivial trivial
theorem E9:kelC.ok Yb 29:=by
 refine Yy Tryz.func29 YpK YeO 100 kelC fun args k h=>?_
 simp only[kelC]at h
 split at h
 ·rename_i t
  obtain⟨ht,h⟩:=h
  have ht:=QL ht
  refine⟨[.int .i64 t],by simp [leL,le],?_⟩
  dsimp only[v29,go_sem,reduceIte,Ya]
  simp only[Yd,Ya,Ye,reduceCtorEq,Yc]
  rw[Yg (273150+t) (by omega)]
  exact Kb h
 ·exact h.1.elim
def LM(o:Int):Rt:=(Xm (K1 2 1).1 o 1).1
def Ks(L:Nat->Rt)(note:Int):Rt:=(KQ (JW L note) (LM (note/12-5)) 1).1
def Kt(r:Rt)(t t0:Int):List (Int×Int):=(Yu r).map Wb++[(273150+t,r.n),(273150+t0, -r.n)]
def j3:List SV:=[.junk,.junk,.junk]
def j7:List SV:=[.junk,.junk,.junk,.junk,.junk,.junk,.junk]
def rofnC:Ctr:={ alias:=false,of:=fun l=>match l with
 | [.agg [.int .i64 _,.int .i64 t0,.int .i64 t],.vs _ _ n sz get,.int .i64 note]=> .ex (Nat->Rt) fun L=> .pre ((n=12/\sz=7/\∀k,k<12->QK (get k) (Yr (L k)))/\(0<=note/\note<=139)/\KG t0=true/\KG t=true/\Y4 (Ks L note)=0)
     (.fin (.tup [.own 5 0 (Kt (Ks L note) t t0).length 2,.int .i64 (2*(Ks L note).n)]) [.box j3,.box j7,.box j7,.box j7,.own false 1 6 (fun _=>[.junk]),.own false 2 (Kt (Ks L note) t t0).length (fun k=>Yw ((Kt (Ks L note) t t0).getD k default))])
 |_=>noC}
def UI1:Env:=mkE [(67,GO),(70,GN),(68,rofC),(69,powRC),(71,rtrmC),(29,kelC)] []
theorem YeP:YD Yb UI1:=eo (by kernel_rfl) ⟨⟨Ya4,_,Tryz.func67,rfl,rfl⟩,⟨Ya5,_,Tryz.func70,rfl,rfl⟩,⟨Ybv,_,Tryz.func68,rfl,rfl⟩,⟨Ya6,_,Tryz.func69,rfl,rfl⟩,⟨YbC,_,Tryz.func71,rfl,rfl⟩,⟨E9,_,Tryz.func29,rfl,rfl⟩,trivial⟩ trivial
theorem two2{a b c d:Int}{k:Nat}(hk:k<2):YK (YP 2 (YF (k*2) [SV.int .i64 a,SV.int .i64 b,SV.int .i64 c,SV.int .i64 d]))=2/\Jg (YP 2 (YF (k*2) [SV.int .i64 a,SV.int .i64 b,SV.int .i64 c,SV.int .i64 d])):=by
 rcases(show k=0\/k=1 by omega)with rfl|rfl <;> exact⟨rfl,trivial,trivial,trivial⟩
theorem Yno:rofnC.ok Yb 36:=by
 refine S2 Tryz.func36 YpR YeP 600 rofnC fun args k h=>?_
 simp only[rofnC]at h
 split at h
 ·rename_i a t0 t tv zv n sz get note
  obtain⟨L,⟨⟨rfl,rfl,hg⟩,hn,h0,h1,hc⟩,h⟩:=h
  refine⟨[.agg [.int .i64 a,.int .i64 t0,.int .i64 t],.vs tv zv 12 7 (fun k=>Yr (L k)),.int .i64 note],?_,?_⟩
  ·simp only[BL,BM,I6,BN,and_true,true_and]
   exact⟨id,rfl,rfl,rfl,hg⟩
  dsimp only[v36,Wk,UI1,Yk,GO,GN,Jp,rofC,powRC,rtrmC,Ag,kelC,Yr,go_sem,reduceIte,Ya]
  simp only[Yd,Ya,Ye,reduceCtorEq,Yc]
  obtain⟨m,rfl⟩:∃m:Nat,note=(m:Int):=⟨note.toNat,by omega⟩
  have em:(m:Int).tmod 12=((m%12:Nat):Int):=by rw[UX (by omega)];omega
  simp only[em,Yj]
  have e2:IntKind.i64.wrap (IntKind.i64.wrap ((m:Int).tdiv 12)-5)=(m:Int)/12-5:=by
   rw[Wo (by omega),Yg ((m:Int)/12) (by omega),Yg _ (by omega)]
  rw[e2]
  obtain⟨r,hr⟩:∃r,r=Ks L m:=⟨_,rfl⟩
  have hr':(KQ (KQ (L (m%12)) (L (Xs 9)) (-1)).1 (Xm (K1 2 1).1 ((m:Int)/12-5) 1).1 1).1=r:=by rw[hr,Ks,JW,show((m:Int)%12).toNat=m%12 by omega];rfl
  simp only[hr']
  rw[<-hr]at h hc
  clear hr hr' e2 em
  refine⟨by decide,⟨by omega,by omega⟩,by decide,by decide,by decide,Ykt,by decide,by decide,by decide,by decide,by decide,by decide,by decide,hc,fun z=>⟨by decide,by decide,by decide,?_⟩⟩
  have hlen:=Uj r
  have hd:=XX hc
  refine Loop.keep [3,8,0] Nat (fun i=>[(15,.int .i64 i)]) (fun i=>[(5,.own z 2 (Yu r).length (fun k=>Yw (XW (Yu r) i k)))]) [] (fun i=>i<=(Yu r).length) (fun i=>(Yu r).length-i) ?_ ?_
  ·refine⟨0,JJ _,?_⟩
   dsimp only[Yw,go_sem,reduceIte,Ya]
   simp only[Yf]
   refine⟨by decide,fun q hq=>Ah hq,fun k hk=>?_⟩
   rw[XW,if_neg (J8 _)]
   exact⟨rfl,rfl⟩
  ·rintro i hi
   dsimp only[Wk,UI1,Yk,GO,GN,Jp,rofC,powRC,rtrmC,Ag,kelC,Yr,Yw,Yj,go_sem,reduceIte,Ya]
   simp only[Yd,Ya,Ye,reduceCtorEq,Yc]
   refine⟨fun hlt=>?_,fun hge=>?_⟩
   ·have hil:i<(Yu r).length:=by omega
    have hx:=A4 hc _ (KZ hil)
    have ei:XW (Yu r) i i=(Yu r).getD i default:=if_neg (ZA _)
    rw[ei,Yg (2*((Yu r).getD i default).2) (by omega),Yg ((i:Int)+1) (by omega)]
    refine⟨⟨by omega,by omega⟩,hil,⟨by omega,by omega⟩,hil,i+1,by omega,by omega,?_⟩
    simp only[Yf]
    refine⟨⟨by omega,by omega,by omega⟩,fun q hq=>Ah hq,fun k hk=>?_⟩
    by_cases hki:k=i
    ·subst hki
     rw[if_pos rfl,XW,if_pos (by omega)]
     exact⟨⟨rfl,rfl⟩,⟨rfl,KM _ _⟩,trivial⟩
    ·rw[if_neg hki]
     have:XW (Yu r) (i+1) k=XW (Yu r) i k:=by
      unfold XW
      by_cases h1:k<i
      ·rw[if_pos h1,if_pos (by omega)]
      ·rw[if_neg h1,if_neg (by omega)]
     rw[this]
     exact⟨⟨rfl,rfl⟩,⟨rfl,rfl⟩,trivial⟩
   ·obtain rfl:i=(Yu r).length:=by omega
    have e1:IntKind.i64.wrap (2*r.n)=2*r.n:=Yg _ (by omega)
    have e4:IntKind.i64.wrap (0-r.n)= -r.n:=by rw[Yg _ (by omega)];omega
    rw[e1,e4]
    refine⟨h1,h0,by decide,⟨by unfold Y8;omega,fun k hk=>two2 hk⟩,?_⟩
    have hL2:(Kt r t t0).length=(Yu r).length+2:=by simp [Kt]
    refine⟨_,_,?_,?_,h,⟨trivial,trivial,trivial⟩,?_⟩
    ·rw[hL2]
     exact⟨⟨rfl,rfl,rfl,rfl,show 5<6 by decide⟩,⟨rfl,rfl⟩,trivial⟩
    ·refine⟨⟨trivial,trivial,trivial,trivial⟩,⟨trivial,trivial,trivial,trivial,trivial,trivial,trivial,trivial⟩,⟨trivial,trivial,trivial,trivial,trivial,trivial,trivial,trivial⟩,⟨trivial,trivial,trivial,trivial,trivial,trivial,trivial,trivial⟩,⟨rfl,rfl,rfl,fun q hq=>?_⟩,⟨by simp,rfl,hL2.symm,fun q hq=>?_⟩,trivial⟩
     ·rcases six hq with rfl|rfl|rfl|rfl|rfl|rfl <;> exact⟨trivial,trivial⟩
     ·unfold Kt
      by_cases h2:q<(Yu r).length
      ·simp only[if_pos h2,XW]
       rw[Bv (by simpa using h2),BV h2]
       exact⟨⟨rfl,rfl⟩,⟨rfl,rfl⟩,trivial⟩
      ·simp only[if_neg h2]
       rw[Bw (by simp;omega),VN]
       rcases(show q-(Yu r).length=0\/q-(Yu r).length=1 by omega)with e|e <;> (rw[e];exact⟨⟨rfl,rfl⟩,⟨rfl,rfl⟩,trivial⟩)
    ·simp [Xf,Y5,Y3,j3,j7,Yw]
 ·exact h.1.elim
theorem OV{o:Int}(h: -5<=o/\o<=6):LM o=⟨o,0,0,0,0,0,1⟩/\Y4 ⟨o,0,0,0,0,0,1⟩=0:=by
 rcases(show o= -5\/o= -4\/o= -3\/o= -2\/o= -1\/o=0\/o=1\/o=2\/o=3\/o=4\/o=5\/o=6 by omega)with e|e|e|e|e|e|e|e|e|e|e|e <;> (subst e;decide+kernel)
theorem Ykr{o L:Int}(h: -5<=o/\o<=6):Rep L (LM o) (o*L) 0 0:=by
 rw[(OV h).1]
 exact⟨(OV h).2,by simp,by simp,by simp,rfl,rfl,rfl⟩
def shO(r:Rt)(o:Int):Rt:=⟨r.a+o*r.n,r.b,r.c,0,0,0,r.n⟩
theorem LK{T:Tm}(h:Ke T=0){note:Int}(hn:0<=note/\note<=139):∃a b c:Int,Rep (Lm T) (JW (YR T) note) a b c/\Rep (Lm T) (Ks (YR T) note) (a+(note/12-5)*Lm T) b c/\sm (a+(note/12-5)*Lm T):=by
 obtain⟨x,t,w,hr,ht,hw,h1,h2⟩:=OR h hn.1
 have hL:=Qk h
 have hwx: -2640<=w/\w<=2640:=by omega
 have hbc:(cA T= -4/\cB T=4/\cC T= -1)\/(cA T= -19/\cB T=12/\cC T=0):=by unfold cA cB cC;split <;> simp
 have q1:=Gp h1
 have q2:=Gp h2
 obtain⟨o,ho⟩:∃o,note/12-5=o:=⟨_,rfl⟩
 have ho2: -5<=o/\o<=6:=by omega
 have hp:=Jv (x:=Lm T) (y:=o) (X:=120) (Y:=6) (by omega) (by omega)
 have hp2:=Jv (x:=Lm T) (y:=t) (X:=120) (Y:=11) (by omega) (by omega)
 have sa:sm (Lm T*x-cA T*w+1*(o*Lm T)):=by unfold sm;rw[KM o];rcases hbc with⟨e1,e2,e3⟩ | ⟨e1,e2,e3⟩ <;> (rw[e1,e2,e3]at q1 q2;rw[e1];omega)
 have hj:=(Hj (s:=1) (by omega) hr (Ykr (L:=Lm T) ho2) sa (by unfold sm;rcases hbc with⟨e1,e2,e3⟩ | ⟨e1,e2,e3⟩ <;> (rw[e1,e2,e3]at q1 q2;rw[e2];omega)) (by unfold sm;rcases hbc with⟨e1,e2,e3⟩ | ⟨e1,e2,e3⟩ <;> (rw[e1,e2,e3]at q1 q2;rw[e3];omega))).2
 rw[Int.one_mul]at sa
 refine⟨_,_,_,hr,?_,by rw[ho];exact sa⟩
 unfold Ks
 rw[ho]
 exact hj.cast (by omega) (by omega) (by omega)
theorem Ym7{L:Int}{r:Rt}{a b c:Int}(h:Rep L r a b c):r.n.toNat∣L.natAbs:=by
 have hn:=h.n_rng
 have key:∀{x y:Int},x*L=y*r.n->r.n.toNat∣L.natAbs*x.natAbs:=fun {x y} e=>by
  have e2:x.natAbs*L.natAbs=y.natAbs*r.n.natAbs:=by rw[<-Int.natAbs_mul,e,Int.natAbs_mul]
  have e3:r.n.natAbs=r.n.toNat:=by omega
  rw[e3]at e2
  rw[Yl,e2]
  exact Nat.dvd_mul_left ..
 have g:=Ih L.natAbs r.n.toNat r.a.natAbs r.b.natAbs r.c.natAbs
 rw[Pp h,Y0]at g
 rw[<-g]
 exact Nat.dvd_gcd (Nat.dvd_gcd (Nat.dvd_gcd (Nat.dvd_mul_left ..) (key h.ha)) (key h.hb)) (key h.hc)
theorem Yhp{n a o:Int}:n.natAbs.gcd (a+o*n).natAbs=n.natAbs.gcd a.natAbs:=by
 have h:Int.gcd n (a+o*n)=Int.gcd n a:=Int.gcd_add_mul_right_right ..
 exact h
theorem B5{T:Tm}(h:Ke T=0){note:Int}(hn:0<=note/\note<=139):Ks (YR T) note=shO (JW (YR T) note) (note/12-5)/\Y4 (Ks (YR T) note)=0:=by
 obtain⟨a,b,c,h1,h2,hsm⟩:=LK h hn
 refine⟨?_,h2.ok⟩
 have hL:=Qk h
 obtain⟨r,hr⟩:∃r,r=JW (YR T) note:=⟨_,rfl⟩
 rw[<-hr]at h1⊢
 have n1:=h1.n_rng
 obtain⟨o,ho⟩:∃o,note/12-5=o:=⟨_,rfl⟩
 rw[ho]at h2 hsm⊢
 refine Ybo hL.1 h2 ?_
 have e1:(r.a+o*r.n)*Lm T=(a+o*Lm T)*r.n:=by
  rw[Int.add_mul,h1.ha,Int.add_mul,Int.mul_right_comm]
 have hd:=Nat.le_of_dvd (by omega) (Ym7 h1)
 have sb:sm (r.a+o*r.n):=BO n1.1 (by omega) e1 hsm
 obtain⟨_,b1,b2,b3,_,_,_,_⟩:=VW h1.ok
 have bad:∀{y:Int},sm y->K3 y=false:=fun h=>by
  simp only[K3,K5,decide_eq_false_iff_not];unfold sm at h;omega
 have g:=Pp h1
 refine⟨?_,e1,h1.hb,h1.hc,rfl,rfl,rfl⟩
 unfold shO
 rw[Y4,if_neg (by simp only;omega),if_neg,if_neg]
 ·simp only[J3,Int.natAbs_zero,Nat.gcd_zero_right]
  have e2:=Yhp (n:=r.n) (a:=r.a) (o:=o)
  rw[show r.n.natAbs=r.n.toNat by omega]at e2
  rw[e2,g];decide
 ·simp only[bad sb,b2,b3]
  decide
theorem YmY{L:Int}{r:Rt}{a b c t t0:Int}(hr:Rep L r a b c):
 upP (Kt r t t0)=UP r.a r.b r.c^2*(273150+t).toNat^r.n.toNat/\dnP (Kt r t t0)=UP (-r.a) (-r.b) (-r.c)^2*(273150+t0).toNat^r.n.toNat:=by
 obtain⟨tu,td⟩:=NN hr
 have hn:=hr.n_rng
 unfold Kt
 rw[(Xp _ _).1,(Xp _ _).2,(Mg _).1,(Mg _).2,tu,td]
 have h1:¬(r.n<0):=by omega
 have h2: -r.n<0:=by omega
 simp only[upP,dnP,if_neg h1,if_pos h2,Jx,Y0,Y2,and_self]
theorem Pn{T:Tm}(hT:Ke T=0){t t0 note:Int}(hn:0<=note/\note<=139){r:Rt}{n:Nat}(hr:JW (YR T) note=r)(h:NR r n)(ht:KG t=true)(ht0:KG t0=true):
 Y4 (Ks (YR T) note)=0/\(Ks (YR T) note).n=n/\LB.Rat4 (upP (Kt (Ks (YR T) note) t t0)) (dnP (Kt (Ks (YR T) note) t t0)) (upP (Kn r n (note/12-5) t t0)) (dnP (Kn r n (note/12-5) t t0))/\
  0<upP (Kt (Ks (YR T) note) t t0)/\0<dnP (Kt (Ks (YR T) note) t t0):=by
 obtain⟨e,hc⟩:=B5 hT hn
 obtain⟨a,b,c,h1,h2,_⟩:=LK hT hn
 have hnn:=h.hn
 obtain⟨p1,p2⟩:=Fe (o:=note/12-5) h ht ht0
 obtain⟨q1,q2⟩:=YmY (t:=t) (t0:=t0) h2
 have t1:=Xn ht
 have t2:=Xn ht0
 have en:(Ks (YR T) note).n=n:=by rw[e,hr];exact hnn
 refine⟨hc,en,?_,?_,?_⟩
 ·rw[p1,p2,q1,q2,en,e,hr,Yj]
  unfold LB.Rat4 shO
  simp only
  have ad:=G3 r.a r.b r.c ((note/12-5)*r.n) 0 0
  rw[Zb,Zb,Int.neg_zero,hnn]at ad
  have m2:∀z:Int,2*(n:Int)*z=(2:Nat)*(z*n):=fun z=>by
   rw[Int.mul_assoc,KM (n:Int)];rfl
  have u2:=QD 2 ((note/12-5)*n) 0 0
  have d2:=QD 2 (-((note/12-5)*n)) 0 0
  rw[Int.mul_zero]at u2 d2
  rw[hnn,m2,u2,<-KN,d2]
  have ad2:=congrArg (·^2) ad
  simp only[Yq]at ad2
  have ad3:=congrArg (·*((273150+t).toNat^n*(273150+t0).toNat^n)) ad2
  generalize(273150+t).toNat^n=W at*
  generalize(273150+t0).toNat^n=W0 at*
  refine Eq.trans ?_ (ad3.trans ?_) <;> ac_rfl
 ·rw[q1];exact Y1 (YB (KE ..)) (YB (by omega))
 ·rw[q2];exact Y1 (YB (KE ..)) (YB (by omega))
theorem Az{U1 D1 U2 D2 A K:Nat}(h:LB.Rat4 U1 D1 U2 D2)(p1:0<D1)(p2:0<D2):(D1*K<=U1*A↔D2*K<=U2*A)/\(U1*A=D1*K↔U2*A=D2*K):=by
 unfold LB.Rat4 at h
 have e1:D2*(D1*K)=D1*(D2*K):=Jd ..
 have e2:D2*(U1*A)=D1*(U2*A):=by
  rw[<-YA,Yl D2,h,YA]
 constructor
 ·rw[<-Nat.mul_le_mul_left_iff p2,e1,e2,Nat.mul_le_mul_left_iff p1]
 ·constructor
  ·intro hh
   exact Nat.eq_of_mul_eq_mul_left p1 (by rw[<-e2,<-e1,hh])
  ·intro hh
   exact Nat.eq_of_mul_eq_mul_left p2 (by rw[e2,e1,hh])
theorem Ykq{x y a:Nat}(hx:x<=323150)(hy:253150<=y)(ha:100000<=a):2^9*32^8*x^4*1^8<y^4*a^8:=by
 have h1:=YG hx 4
 have h2:=YG hy 4
 have h3:=YG ha 8
 exact JC (Yp _ (Yz _ h1)) (Qt (show 2^9*32^8*323150^4*1^8<253150^4*100000^8 by decide+kernel) (YX h2 h3))
theorem YgO{a t0 t note:Int}{T:Tm}{r:Rt}{n:Nat}(hS:J0 a t0 t=0)(hT:Ke T=0)(hn:0<=note/\note<=139)(hr:JW (YR T) note=r)(h:NR r n):
 ∃k ex,X0 (YR T) t0 t note a=Ui k ex/\1<=k/\k<160000000/\
  k^(2*n)*dnP (Kt (Ks (YR T) note) t t0++[(a,2*(n:Int))])<=upP (Kt (Ks (YR T) note) t t0++[(a,2*(n:Int))])/\
  upP (Kt (Ks (YR T) note) t t0++[(a,2*(n:Int))])<(k+1)^(2*n)*dnP (Kt (Ks (YR T) note) t t0++[(a,2*(n:Int))])/\
  (ex=true↔upP (Kt (Ks (YR T) note) t t0++[(a,2*(n:Int))])=k^(2*n)*dnP (Kt (Ks (YR T) note) t t0++[(a,2*(n:Int))])):=by
 obtain⟨ha,h0,h1⟩:=WO hS
 have hrn:=h.rng
 obtain⟨_,_,s3,s4,s5⟩:=Pn hT hn hr h h1 h0
 obtain⟨k,ex,f1,f2,f3,f4,f5⟩:=Yhg hS hT hn hr h
 obtain⟨p1,p2⟩:=Fe (o:=note/12-5) h h1 h0
 have t1:=Xn h1
 have t2:=Xn h0
 have posU:=KE r.a r.b r.c
 have posV:=KE (-r.a) (-r.b) (-r.c)
 have posE:=KE (2*(n:Int)*(note/12-5)) 0 0
 have posF:=KE (-(2*(n:Int)*(note/12-5))) 0 0
 have hY:0<dnP (Kn r n (note/12-5) t t0):=by
  rw[p2]
  exact Y1 (YB posV) (Y1 posF (YB (by omega)))
 have hlo:dnP (Kn r n (note/12-5) t t0)*1^(2*n)<upP (Kn r n (note/12-5) t t0)*a.toNat^(2*n):=by
  rw[p1,p2]
  exact Nx hrn.1 posU posE h.d (YeR (by omega)) (Ykq t2.2 t1.1 (by omega))
 have hk1:1<=k:=by
  rcases Jc k with e|e
  ·subst e
   rw[KJ]at f4
   exact absurd (Nat.lt_trans hlo f4) (ZA _)
  ·exact e
 have hn0:¬2*(n:Int)<0:=by omega
 have eU:upP (Kt (Ks (YR T) note) t t0++[(a,2*(n:Int))])=upP (Kt (Ks (YR T) note) t t0)*a.toNat^(2*n):=by
  rw[(Xp _ _).1,upP,upP,if_neg hn0,Y0,show(2*(n:Int)).toNat=2*n by omega]
 have eD:dnP (Kt (Ks (YR T) note) t t0++[(a,2*(n:Int))])=dnP (Kt (Ks (YR T) note) t t0):=by
  rw[(Xp _ _).2,dnP,dnP,if_neg hn0,Y0]
  try rw[Y0]
 rw[eU,eD]
 refine⟨k,ex,f1,hk1,f2,?_,?_,?_⟩
 ·rw[Yl (k^_)]
  exact(Az s3 s5 hY).1.2 f3
 ·rw[Yl ((k+1)^_)]
  exact WJ fun hh=>absurd ((Az s3 s5 hY).1.1 hh) (Nat.not_le.2 f4)
 ·rw[f5,Yl (k^_)]
  constructor
  ·rintro⟨_,e⟩
   exact(Az s3 s5 hY).2.2 e
  ·intro e
   exact⟨hk1,(Az s3 s5 hY).2.1 e⟩
theorem PowR.le_of{l:List (Int×Int)}{s den B r v:Nat}{ex:Bool}(h:PowR l s den B r ex)(hd:1<=den)(hY:0<dnP l)(hv:v<2^30)(hx:upP l*s^den<=dnP l*v^den):r<=v:=by
 rcases Jc r with h0|h0
 ·omega
 ·have h1:=h.near h0
  have h1':(dnP l*r^den)^QJ<=(upP l*s^den)^QJ*2^(den*(0*QJ+2^55)):=by rw[JP,KJ];exact h1
  have h2:=LG (t:=2^40) (show 1<=QJ by rw[Us];decide) (by rw[Us];decide) (by decide) h1'
  have h3:dnP l*(r*2^40)^den<=dnP l*(v*(2^0*(2^40+1)))^den:=by
   refine Yh h2 ?_
   rw[Yq v,<-YA]
   exact Yp _ hx
  have h4:=Vg h3 hY
  have h5:=(ZF (show den≠0 by omega)).1 h4
  omega
theorem PowR.exact{l:List (Int×Int)}{s den B r v:Nat}{ex:Bool}(h:PowR l s den B r ex)(hd:1<=den)(hY:0<dnP l)(hv1:1<=v)(hv:v<2^29)(hx:upP l*s^den=dnP l*v^den):r=v/\ex=true:=by
 have h1:=h.le_of hd hY (by omega) (Yx hx)
 have h2:=h.tru v hv1 hv (Yx hx.symm)
 have e:r=v:=by omega
 subst e
 exact⟨rfl,h.ex_iff.2 ⟨hv1,hx⟩⟩
theorem Ox(g:Nat->Nat)(e:Int)(a b:List (Int×Int)):upS g (a++(2,e)::b)=upS g a+(g 2*e.toNat+upS g b)/\dnS g (a++(2,e)::b)=dnS g a+(g 2*(-e).toNat+dnS g b):=by
 rw[(JN g _ _).1,(JN g _ _).2,upS,dnS]
 by_cases c:e<0
 ·simp only[if_pos c]
  rw[show e.toNat=0 by omega,ZD]
  exact⟨rfl,rfl⟩
 ·simp only[if_neg c]
  rw[show(-e).toNat=0 by omega,ZD]
  exact⟨rfl,rfl⟩
def WZ(x y:Nat)(m:Int):List (Int×Int):=[((x:Int),600000),((y:Int), -600000),(2, -m)]
theorem Oo{x y:Nat}{m:Int}(hx:1<=x/\x<=1000000)(hy:1<=y/\y<=1000000)(hm: -1000000000000<=m/\m<=1000000000001):0<=Qf (WZ x y m)↔loN y*600000+W2*m.toNat<=hiN x*600000+W2*(-m).toNat:=by
 have hok:∀z,z∈WZ x y m->okU z:=by
  intro z hz
  simp only[WZ,Kz,Z3,or_false]at hz
  unfold okU
  rcases hz with rfl|rfl|rfl <;> simp only <;> omega
 rw[AR hok (by simp [WZ])]
 have e:=Ox loN (-m) [((x:Int),600000),((y:Int), -600000)] []
 have e':=Ox hiN (-m) [((x:Int),600000),((y:Int), -600000)] []
 have e1:WZ x y m=[((x:Int),600000),((y:Int), -600000)]++(2, -m):: []:=rfl
 rw[e1,e.2,e'.1,lo_2.1,lo_2.2,Jx]
 have c1:¬((600000:Int)<0):=by decide
 have c2:(-600000:Int)<0:=by decide
 have n1:(600000:Int).toNat=600000:=rfl
 have n2:(-(-600000):Int).toNat=600000:=rfl
 simp only[upS,dnS,if_neg c1,if_pos c2,Yj,n1,n2,KO,KJ]
theorem Ygz{t0 t:Int}(h0:KG t0=true)(h1:KG t=true):0<=Qf (WZ (273150+t).toNat (273150+t0).toNat (XZ t0 t))/\¬0<=Qf (WZ (273150+t).toNat (273150+t0).toNat (XZ t0 t+1))/\ -1000000000000<=XZ t0 t/\XZ t0 t<=1000000000000:=by
 have r1:=Xn h1
 have r0:=Xn h0
 have b1:=QL h1
 have b0:=QL h0
 have e1:(((273150+t).toNat:Nat):Int)=273150+t:=by omega
 have e0:(((273150+t0).toNat:Nat):Int)=273150+t0:=by omega
 obtain⟨f,hf⟩:∃f,f=isG ([(273150+t,1),(273150+t0, -1)].map (J5 600000)) 1:=⟨_,rfl⟩
 have hfm:∀m:Int,f m=decide (0<=Qf (WZ (273150+t).toNat (273150+t0).toNat m)):=fun m=>by
  have e2: -m*1= -m:=by omega
  rw[hf,isG,atG,WZ,e1,e0,e2]
  rfl
 have le64:∀n:Nat,1<=n->n<1000000->loN n<=hiN n/\hiN n<=64*W2:=fun n k1 k2=>Yjm k1 (by omega)
 have q1:=le64 _ (show 1<=(273150+t).toNat by omega) (by omega)
 have q0:=le64 _ (show 1<=(273150+t0).toNat by omega) (by omega)
 have hW:0<W2:=YdL
 have htop:f 1000000000001=false:=by
  rw[hfm,decide_eq_false_iff_not,Oo (by omega) (by omega) (by decide)]
  have n1:(1000000000001:Int).toNat=1000000000001:=rfl
  have n2:(-1000000000001:Int).toNat=0:=rfl
  rw[n1,n2]
  omega
 have hbot:f (-1000000000000)=true:=by
  rw[hfm,decide_eq_true_eq,Oo (by omega) (by omega) (by decide)]
  have n1:(-1000000000000:Int).toNat=0:=rfl
  have n2:(-(-1000000000000):Int).toNat=1000000000000:=rfl
  rw[n1,n2]
  omega
 have hok:QG [(273150+t,1),(273150+t0, -1)]=0:=by
  refine Ec (fun x hx=>?_) (by simp)
  simp only[Kz,Z3,or_false]at hx
  unfold okU
  rcases hx with rfl|rfl <;> simp only <;> omega
 have hfl:XZ t0 t=KY 64 f (-1000000000000) 1000000000001:=by
  unfold XZ JE
  rw[if_neg (by rw[hok];decide),if_neg (by decide)]
  unfold Gh
  rw[<-hf,if_neg (by rw[htop,hbot];decide)]
 obtain⟨s1,s2⟩:=Dh (t:=f) 64 (-1000000000000) 1000000000001 (by decide) (by decide)
 have hr:=Dg (t:=f) 64 (-1000000000000) 1000000000001 (by decide)
 rw[<-hfl]at s1 s2 hr
 have hk:f (XZ t0 t)=true:=by
  rcases s1 with e|e
  ·rw[e];exact hbot
  ·exact e
 have hk1:f (XZ t0 t+1)=false:=by
  rcases s2 with e|e
  ·rw[e];exact htop
  ·exact e
 rw[hfm,decide_eq_true_eq]at hk
 rw[hfm,decide_eq_false_iff_not]at hk1
 exact⟨hk,hk1,hr.1,by omega⟩
theorem Yn4{t:Int}(h:KG t=true):∃k ex,UR t=(Ui k ex,0)/\PowR [(273150+t,1),(273150, -1)] 331300000 2 370000000 k ex:=by
 have r1:=Xn h
 have b1:=QL h
 have okl:∀x,x∈ [(273150+t,(1:Int)),(273150, -1)]->okU x/\x.1<=1000000/\ -1000000<=x.2/\x.2<=1000000:=by
  intro x hx
  simp only[Kz,Z3,or_false]at hx
  unfold okU
  rcases hx with rfl|rfl <;> simp only <;> omega
 have e:upP [(273150+t,1),(273150, -1)]=(273150+t).toNat/\dnP [(273150+t,1),(273150, -1)]=273150:=by
  simp [upP,dnP]
 have w1:=FQ (n:=(273150+t).toNat) (KD (by omega))
 have w2:=FQ (n:=273150) (KD (by decide))
 have w3:=FQ (n:=331300000) (KD (by decide))
 have hw:GV [(273150+t,1),(273150, -1)] 331300000 2:=by
  have e3:upS wP [(273150+t,1),(273150, -1)]+dnS wP [(273150+t,1),(273150, -1)]=wP (273150+t).toNat+wP 273150:=by
   simp [upS,dnS]
  unfold GV
  rw[e3]
  omega
 obtain⟨k,hk,hp⟩:=Yas (s:=331300000) (den:=2) (B:=370000000) (Ec okl (by simp)) (fun x hx=>(okl x hx).1) (by decide) (by decide) hw (by rw[e.2];decide) (by
  rw[e.1,e.2]
  have:=Yp (331300000^2) r1.2
  omega) (by decide)
 refine⟨k,_,?_,hp⟩
 unfold UR
 rw[if_pos h]
 exact Prod.ext (YaI hk (Nat.lt_of_succ_lt hp.lt)) rfl
theorem PowR.hi{l:List (Int×Int)}{s den B k h:Nat}{ex:Bool}(p:PowR l s den B k ex)(h1:ex=true->h=k)(h2:ex=false->h=k+1):upP l*s^den<=dnP l*h^den:=by
 cases hx:ex
 ·rw[h2 hx];exact JZ p.up
 ·rw[h1 hx];exact Yx (p.ex_iff.1 hx).2
theorem Pc{P:Nat->Prop}{t:Nat->Bool}:∀(f a b:Nat),b-a<=2^f->(∀m,a<m->m<b->P m)->VS P t f a b
 |0,a,b,h,_=>by rw[Jk]at h;exact(by omega:b<=a+1)
 |f+1,a,b,h,hp=>by
  rw[YH]at h
  by_cases c:b<=a+1
  ·exact KD c
  ·refine KK ⟨hp _ (by omega) (by omega),?_⟩
   split
   ·exact Pc f _ _ (by omega) fun m h1 h2=>hp m (by omega) h2
   ·exact Pc f _ _ (by omega) fun m h1 h2=>hp m h1 (by omega)
structure RPw (l:List (Int×Int)) (s den:Int) (k:Nat) (ex:Bool):Prop where
 top:Dec (atF (l++[(s,den)]) den 1000000000001)/\Q.tstR (l++[(s,den)]) den 1000000000001=false
 pth:VS (fun k=>Dec (atF (l++[(s,den)]) den k)) (Q.tstR (l++[(s,den)]) den) 41 0 1000000000001
 val:Q.powR (l++[(s,den)]) den=k
 flag:(decide (0<Q.powR (l++[(s,den)]) den)&&decide (upP (atF (l++[(s,den)]) den (Q.powR (l++[(s,den)]) den))=dnP (atF (l++[(s,den)]) den (Q.powR (l++[(s,den)]) den))))=ex
 lt:k<1000000000000
theorem Ybz{l:List (Int×Int)}{s den k:Nat}{ex:Bool}(hd:1<=den)(hDec:∀k:Nat,1<=k->k<=1000000000001->Dec (atF (l++[((s:Int),(den:Int))]) den k))(hk:k<1000000000000)
 (h1:dnP l*k^den<=upP l*s^den)(h2:upP l*s^den<dnP l*(k+1)^den)(he:ex=true↔1<=k/\upP l*s^den=dnP l*k^den):RPw l s den k ex:=by
 have ht:∀m:Nat,Q.tstR (l++[((s:Int),(den:Int))]) den m=decide (dnP l*m^den<=upP l*s^den):=fun m=>by
  unfold Q.tstR;rw[(JQ hd).1,(JQ hd).2]
 have hlo:∀m,m<=k->Q.tstR (l++[((s:Int),(den:Int))]) den m=true:=fun m hm=>by
  rw[ht]
  exact decide_eq_true (Yh (Yz _ (YG hm den)) h1)
 have hhi:∀m,k<m->Q.tstR (l++[((s:Int),(den:Int))]) den m=false:=fun m hm=>by
  rw[ht]
  exact decide_eq_false fun hh=>by
   have:=Yz (dnP l) (YG (show k+1<=m from hm) den)
   omega
 have hp:VS (fun k:Nat=>Dec (atF (l++[((s:Int),(den:Int))]) den k)) (Q.tstR (l++[((s:Int),(den:Int))]) den) 41 0 1000000000001:=Pc 41 0 1000000000001 (by decide) fun m a b=>hDec m a (by omega)
 have hv:Q.powR (l++[((s:Int),(den:Int))]) den=k:=by
  obtain⟨b1,b2,b3,b4⟩:=Di 41 0 1000000000001 (by decide) hp
  unfold Q.powR
  generalize Xa (Q.tstR (l++[((s:Int),(den:Int))]) den) 41 0 1000000000001=R at*
  have c1:R<=k:=by
   rcases b1 with b1| ⟨_,b1⟩
   ·omega
   ·refine XF fun hh=>?_
    rw[hhi R hh]at b1;cases b1
  have c2:k<=R:=by
   rcases b2 with b2|b2
   ·omega
   ·refine XF fun hh=>?_
    rw[hlo (R+1) hh]at b2;cases b2
  omega
 refine⟨⟨hDec 1000000000001 (by decide) (by decide),hhi _ (by omega)⟩,hp,hv,?_,hk⟩
 rw[hv,(JQ hd).1,(JQ hd).2]
 by_cases c:ex=true
 ·obtain⟨c1,c2⟩:=he.1 c
  rw[decide_eq_true (show 0<k from c1),decide_eq_true c2,c];rfl
 ·have c':ex=false:=by simpa using c
  rw[c',Wn]
  by_cases d:0<k
  ·exact KK (decide_eq_false fun hh=>c (he.2 ⟨d,hh⟩))
  ·exact KD (decide_eq_false d)
theorem YnM{G n U D U' D':Nat}(h:LB.Rat4 U' D' U D)(p1:0<U)(p2:0<D)(p3:0<U')(p4:0<D')(hs:LB.Sep G n U D):LB.Sep G n U' D':=by
 unfold LB.Rat4 at h
 have key:∀{U D U' D':Nat},U'*D=D'*U->0<D->0<D'->(U<D->U*(G+1)^n<=D*G^n)->U'<D'->U'*(G+1)^n<=D'*G^n:=fun {U D U' D'} h p2 p4 hs hlt=>by
  have hl:U<D:=WJ fun hh=>by
   have a:=Yz D' hh
   have b:=ZB hlt p2
   omega
  have g:=Yz D' (hs hl)
  refine Ki (c:=D) ?_ p2
  refine Yh (Yx ?_) (Yh g (Yx ?_))
  ·rw[<-YA,<-h];ac_rfl
  ·ac_rfl
 exact⟨key h p2 p4 hs.1,key h.symm p1 p3 hs.2⟩
theorem YmZ{w:Nat->Nat}(w2:w 2=0)(w3:w 3<=1)(w5:w 5<=1){L:Int}{r:Rt}{a b c t t0:Int}{n:Nat}(h:Rep L r a b c)(hn:r.n=n):upS w (Kt r t t0)+dnS w (Kt r t t0)<=400000+(w (273150+t).toNat*n+w (273150+t0).toNat*n):=by
 have tw:=P0 w2 w3 w5 h
 unfold Kt
 rw[(JN w _ _).1,(JN w _ _).2,(Hd w _).1,(Hd w _).2,hn]
 have h1:¬((n:Int)<0):=by omega
 have e:upS w [(273150+t,(n:Int)),(273150+t0, -(n:Int))]+dnS w [(273150+t,(n:Int)),(273150+t0, -(n:Int))]<=w (273150+t).toNat*n+w (273150+t0).toNat*n:=by
  simp only[upS,dnS,if_neg h1,Yj,Jx]
  split
  ·omega
  ·rename_i h2
   have:n=0:=by omega
   subst this
   simp
 omega
theorem Ym0{a t0 t note:Int}{T:Tm}{r:Rt}{n:Nat}(hS:J0 a t0 t=0)(hT:Ke T=0)(hn:0<=note/\note<=139)(hr:JW (YR T) note=r)(h:NR r n){k:Nat}(hk:1<=k/\k<=1000000000001):
 Dec (atF (Kt (Ks (YR T) note) t t0++[((a.toNat:Int),((2*n:Nat):Int))]) ((2*n:Nat):Int) k):=by
 obtain⟨ha,h0,h1⟩:=WO hS
 have ho: -5<=note/12-5/\note/12-5<=6:=by omega
 obtain⟨s1,s2,s3,s4,s5⟩:=Pn hT hn hr h h1 h0
 obtain⟨l1,l2⟩:=BU h h1 h0 ho
 obtain⟨p1,p2⟩:=Fe (o:=note/12-5) h h1 h0
 have hrn:=h.rng
 have t1:=Xn h1
 have t2:=Xn h0
 have posV:=KE (-r.a) (-r.b) (-r.c)
 have posF:=KE (-(2*(n:Int)*(note/12-5))) 0 0
 have hY:0<dnP (Kn r n (note/12-5) t t0):=by
  rw[p2]
  exact Y1 (YB posV) (Y1 posF (YB (by omega)))
 have hX:0<upP (Kn r n (note/12-5) t t0):=by
  rw[p1]
  exact Y1 (YB (KE ..)) (Y1 (KE ..) (YB (by omega)))
 have hB:upP (Kn r n (note/12-5) t t0)*a.toNat^(2*n)<dnP (Kn r n (note/12-5) t t0)*160000000^(2*n):=by
  rw[p1,p2]
  exact Nx hrn.1 posV posF h.u (N6 ho.2) (B7 t1.2 t2.1 (by omega))
 have hd:1<=2*n/\2*n<=1000000:=by omega
 obtain⟨x,y,z,_,hrepO,_⟩:=LK hT hn
 have hokR:∀x,x∈Kt (Ks (YR T) note) t t0->okU x:=by
  intro x hx
  have ht:=QL h1
  have ht0:=QL h0
  unfold Kt at hx
  rw[Ky,QM]at hx
  rcases hx with⟨y,hy,rfl⟩ |hx
  ·have:=(FK s1 y hy).1
   simp only[JB,K5,decide_eq_false_iff_not]at this
   unfold okU Wb;simp only;omega
  ·simp only[Kz,Z3,or_false]at hx
   unfold okU
   rcases hx with rfl|rfl <;> simp only <;> omega
 have hok:=U6 (s:=a.toNat) (den:=2*n) (k:=k) hokR (by omega) hd hk
 have hsum:upS wQ (atF (Kt (Ks (YR T) note) t t0++[((a.toNat:Int),((2*n:Nat):Int))]) ((2*n:Nat):Int) k)+dnS wQ (atF (Kt (Ks (YR T) note) t t0++[((a.toNat:Int),((2*n:Nat):Int))]) ((2*n:Nat):Int) k)<=400000+268435456*n+wQ k*(2*n):=by
  rw[(Z6 wQ hd.1).1,(Z6 wQ hd.1).2]
  have s:=YmZ (w:=wQ) (t:=t) (t0:=t0) Cg (Yx Rn) (Yx Ro) hrepO s2
  have m1:=Yp n (Wm (n:=(273150+t).toNat) (by omega))
  have m2:=Yp n (Wm (n:=(273150+t0).toNat) (by omega))
  have m3:=Yp (2*n) (Wm (n:=a.toNat) (by omega))
  omega
 have hA:0<a.toNat^(2*n):=YB (by omega)
 have hK:0<k^(2*n):=YB hk.1
 have hrat:LB.Rat4 (upP (Kt (Ks (YR T) note) t t0)*a.toNat^(2*n)) (dnP (Kt (Ks (YR T) note) t t0)*k^(2*n)) (upP (Kn r n (note/12-5) t t0)*a.toNat^(2*n)) (dnP (Kn r n (note/12-5) t t0)*k^(2*n)):=s3.mul (LB.Rat4.refl _ _)
 obtain⟨L,m,X,tt,q1,q2,q3,hL,hm,htt,hC,hrep,hu⟩:=Ybl hT hn.1
 rw[hr]at hrep
 by_cases c:dnP (Kn r n (note/12-5) t t0)*k^(2*n)<=upP (Kn r n (note/12-5) t t0)*a.toNat^(2*n)*2^n
 ·have hk2:=OL hrn.1 hY c hB
  have m4:=Yp (2*n) (Wm hk2)
  refine Mh (n:=n) rfl hok ?_ (by omega)
  rw[(JQ hd.1).1,(JQ hd.1).2]
  refine YnM hrat (Y1 hX hA) (Y1 hY hK) (Y1 s4 hA) (Y1 s5 hK) ?_
  exact T5 hC hL hm htt hrep h.hn hrn.1 hu ho.2 (W:=(273150+t).toNat) (by omega) (W0:=(273150+t0).toNat) (by omega) (A:=a.toNat) (by omega) hk.1 (by rw[p1]) (by rw[p2]) c
 ·refine HV (m:=n) hok (KD ?_) ?_
  ·rw[(JQ hd.1).1,(JQ hd.1).2]
   refine JZ (WJ fun hh=>c ?_)
   exact AA (Eq.symm hrat:LB.Rat4 _ _ _ _) (Y1 s4 hA) hh
  ·have m4:=Yp (2*n) (Rp k)
   have e:LB.ePt 300=4*wQb:=by
    have h2:LB.ePt 2=4:=rfl
    have h:=LB.ePt_add 2 (300-2)
    rw[h2,show 2+(300-2)=300 from rfl]at h
    unfold wQb
    exact h.symm
   have hb:536870912<=wQb:=by
    have h:LB.ePt 29<=LB.ePt (300-2):=LB.ePt_le (by decide)
    exact h
   rw[e]
   generalize wQb=Q at*
   have k1:=Yz n hb
   have k2:n*(4*Q)=4*(n*Q):=Jd ..
   have k3:Q*(2*n)=2*(n*Q):=by rw[Yl,YA]
   omega
theorem Ynf{a t0 t note:Int}{T:Tm}(hS:J0 a t0 t=0)(hT:Ke T=0)(hn:0<=note/\note<=139):
 ∃k ex,X0 (YR T) t0 t note a=Ui k ex/\RPw (Kt (Ks (YR T) note) t t0) a (2*(Ks (YR T) note).n) k ex:=by
 obtain⟨ha,h0,h1⟩:=WO hS
 obtain⟨r,n,hr,h⟩:=Ykp hT hn.1
 obtain⟨s1,s2,s3,s4,s5⟩:=Pn hT hn hr h h1 h0
 obtain⟨k,ex,f1,f2,f3,f4,f5,f6⟩:=YgO hS hT hn hr h
 have hrn:=h.rng
 refine⟨k,ex,f1,?_⟩
 have ea:a=((a.toNat:Nat):Int):=by omega
 have en:2*(Ks (YR T) note).n=((2*n:Nat):Int):=by rw[s2];omega
 have hn0:¬2*(n:Int)<0:=by omega
 have eU:upP (Kt (Ks (YR T) note) t t0++[(a,2*(n:Int))])=upP (Kt (Ks (YR T) note) t t0)*a.toNat^(2*n):=by
  rw[(Xp _ _).1,upP,upP,if_neg hn0,Y0,show(2*(n:Int)).toNat=2*n by omega]
 have eD:dnP (Kt (Ks (YR T) note) t t0++[(a,2*(n:Int))])=dnP (Kt (Ks (YR T) note) t t0):=by
  rw[(Xp _ _).2,dnP,dnP,if_neg hn0,Y0]
  try rw[Y0]
 rw[eU,eD]at f4 f5 f6
 rw[en]
 have g:=Ybz (l:=Kt (Ks (YR T) note) t t0) (s:=a.toNat) (den:=2*n) (k:=k) (ex:=ex) (by omega) (fun k k1 k2=>Ym0 hS hT hn hr h ⟨k1,k2⟩) (by omega) (by rw[Yl];exact f4) (by rw[Yl (dnP _)];exact f5) (by
  rw[f6,Yl (dnP _)]
  exact⟨fun hh=>⟨f2,hh⟩,fun hh=>hh.2⟩)
 rwa [<-ea]at g
def QQ(t:Int):List (Int×Int):=[(273150+t,1),(273150, -1)]
theorem Ot{t:Int}:upP (QQ t)=(273150+t).toNat/\dnP (QQ t)=273150:=by simp [QQ,upP,dnP]
theorem YnL{G U D:Nat}(hU:U<=G)(hD:D<=G\/D<=G):LB.Sep G 1 U D:=by
 unfold LB.Sep
 simp only[QO]
 constructor
 ·intro h
  have:=Yp G (show U+1<=D from h)
  rw[YM,Y2]at this
  rw[Ka,Y0];omega
 ·intro h
  have:=Yp G (show D+1<=U from h)
  rw[YM,Y2]at this
  rw[Ka,Y0];omega
theorem Yb7{t:Int}(h:KG t=true){k:Nat}(hk:1<=k/\k<=1000000000001):Dec (atF (QQ t++[(((331300000:Nat):Int),((2:Nat):Int))]) ((2:Nat):Int) k):=by
 have r1:=Xn h
 have b1:=QL h
 have okl:∀x,x∈QQ t->okU x:=by
  intro x hx
  simp only[QQ,Kz,Z3,or_false]at hx
  unfold okU
  rcases hx with rfl|rfl <;> simp only <;> omega
 have hd:(1:Nat)<=2/\(2:Nat)<=1000000:=by decide
 have hok:=U6 (s:=331300000) (den:=2) (k:=k) okl (by decide) hd hk
 have hsum:upS wQ (atF (QQ t++[(((331300000:Nat):Int),((2:Nat):Int))]) ((2:Nat):Int) k)+dnS wQ (atF (QQ t++[(((331300000:Nat):Int),((2:Nat):Int))]) ((2:Nat):Int) k)<=268435456+wQ k*2:=by
  rw[(Z6 wQ hd.1).1,(Z6 wQ hd.1).2]
  have e3:upS wQ (QQ t)+dnS wQ (QQ t)=wQ (273150+t).toNat+wQ 273150:=by simp [QQ,upS,dnS]
  have m1:=Wm (n:=(273150+t).toNat) (by omega)
  have m2:=Wm (n:=273150) (by decide)
  have m3:=Wm (n:=331300000) (by decide)
  omega
 obtain⟨e1,e2⟩:=Ot (t:=t)
 have h2:=Yp (331300000^2) r1.2
 by_cases c:k<536870912
 ·have m4:=Wm c
  refine Mh (n:=1) rfl hok ?_ (by omega)
  rw[(JQ hd.1).1,(JQ hd.1).2,e1,e2]
  have hG:LB.ePt 100<=LB.pG:=LB.ePt_le (by decide)
  have eG:LB.ePt 100=1267650600228229401496703205376:=rfl
  have h3:=YG (JZ c) 2
  exact YnL (by omega) (KD (by omega))
 ·have m4:=Rp k
  have e:LB.ePt 300=4*wQb:=by
   have h2:LB.ePt 2=4:=rfl
   have h:=LB.ePt_add 2 (300-2)
   rw[h2,show 2+(300-2)=300 from rfl]at h
   unfold wQb
   exact h.symm
  have hb:536870912<=wQb:=by
   have h:LB.ePt 29<=LB.ePt (300-2):=LB.ePt_le (by decide)
   exact h
  refine HV (m:=1) hok (KD ?_) ?_
  ·rw[(JQ hd.1).1,(JQ hd.1).2,e1,e2]
   have h3:=Yz 273150 (YG (XF c) 2)
   omega
  ·rw[e];omega
theorem Yn3{t:Int}(h:KG t=true):∃k ex,UR t=(Ui k ex,0)/\RPw (QQ t) 331300000 2 k ex:=by
 obtain⟨k,ex,h1,h2⟩:=Yn4 h
 have r1:=Xn h
 have b1:=QL h
 obtain⟨e1,e2⟩:=Ot (t:=t)
 have okl:∀x,x∈QQ t->okU x:=by
  intro x hx
  simp only[QQ,Kz,Z3,or_false]at hx
  unfold okU
  rcases hx with rfl|rfl <;> simp only <;> omega
 refine⟨k,ex,h1,?_⟩
 have hlt:=h2.lt
 have hle:dnP (QQ t)*k^2<=upP (QQ t)*331300000^2:=by
  rcases Jc k with e|e
  ·subst e
   rw[Nat.zero_pow (by omega),ZD]
   exact JJ _
  ·exact IM okl (by simp [QQ]) (by decide) (by decide) ⟨e,by omega⟩ (Yb7 h ⟨e,by omega⟩) ((h2.seg k e (by omega)).2 (Yt _))
 exact Ybz (l:=QQ t) (s:=331300000) (den:=2) (by decide) (fun k k1 k2=>Yb7 h ⟨k1,k2⟩) (by omega) hle h2.up h2.ex_iff
end Go.Proofs.YtlhmikjnholpnaaGreatDoor
set_option maxRecDepth 100000
namespace Go.Proofs.YtlhmikjnholpnaaGreatDoor.LB
def gPw(N s t:Nat)(f:Nat):Nat->(Nat->Nat->Bool)->Bool:=
 Nat.rec (fun _ _=>false) (fun _ ih r k=>Bool.casesOn (YJ r 0) (ih (Jb r 2) (fun x y=>(fun x2 y2=>Bool.casesOn (YJ (KS r 2) 1) (k x2 y2) (k (WP N x2 s) (WQ N y2 t))) (WP N x x) (WQ N y y))) (k (ePt N) (ePt N))) f
theorem EJ{N s t:Nat}:∀(f r:Nat)(k:Nat->Nat->Bool),gPw N s t f r k=true->∃x y,x*ePt N^r<=s^r*ePt N/\t^r*ePt N<=y*ePt N^r/\k x y=true
 |0,_,_,h=>by cases h
 |f+1,r,k,h=>by
  have h:Bool.casesOn (motive:=fun _=>Bool) (YJ r 0) (gPw N s t f (Jb r 2) (fun x y=>(fun x2 y2=>Bool.casesOn (YJ (KS r 2) 1) (k x2 y2) (k (WP N x2 s) (WQ N y2 t))) (WP N x x) (WQ N y y))) (k (ePt N) (ePt N))=true:=h
  have hK:=ePt_pos N
  cases hb:YJ r 0 with
  |true=>
   rw[hb]at h
   have hr:r=0:=Jy hb
   rw[hr]
   exact⟨_,_,by rw[Jk,Jk,Y0,Y2];exact Yt _,by rw[Jk,Jk,Y0,Y2];exact Yt _,h⟩
  |false=>
   rw[hb]at h
   obtain⟨x,y,h1,h2,h3⟩:=EJ f _ _ h
   have h1:x*ePt N^(r/2)<=s^(r/2)*ePt N:=h1
   have h2:t^(r/2)*ePt N<=y*ePt N^(r/2):=h2
   have h3:Bool.casesOn (motive:=fun _=>Bool) (YJ (KS r 2) 1) (k (WP N x x) (WQ N y y)) (k (WP N (WP N x x) s) (WQ N (WQ N y y) t))=true:=h3
   have s1:s*ePt N^1<=s^1*ePt N:=by rw[QO,QO];exact Yt _
   have t1:t^1*ePt N<=t*ePt N^1:=by rw[QO,QO];exact Yt _
   have d1:=Yai hK h1 h1
   have u1:=YaJ hK h2 h2
   rw[<-DN]at d1
   rw[<-Bf]at u1
   cases hm:YJ (KS r 2) 1 with
   |false=>
    rw[hm]at h3
    have hr:r/2+r/2=r:=by
     have:r%2≠1:=fun e=>by
      have e:KS r 2=1:=e
      rw[e]at hm;cases hm
     omega
    rw[hr]at d1 u1
    exact⟨_,_,d1,u1,h3⟩
   |true=>
    rw[hm]at h3
    have hr:r/2+r/2+1=r:=by
     have:r%2=1:=Jy hm
     omega
    have d2:=Yai hK d1 s1
    have u2:=YaJ hK u1 t1
    rw[<-DN,hr]at d2
    rw[<-Bf,hr]at u2
    exact⟨_,_,d2,u2,h3⟩
def dA:Nat:=ePt 128
def dT:Nat:=ePt 108
def dM:Nat:=ePt 80
def dE:Nat:=ePt 44
def dV:Nat:=ePt 19
def dG:Nat:=ePt 80
def dS:Nat:=340282760030770908418486088156262607820
def dU:Nat:=340282760030770908418486088156264704972
theorem d1:dV*dE<dM:=by
 have e:ePt 19*ePt 44<ePt 80:=by rw[ePt_add];exact Tt (by decide)
 unfold dV dE dM
 exact e
theorem d2:dV*dA+dV*dE*(dG+1)<=dM*dG:=by
 have e1:ePt 19*ePt 128=ePt 147:=ePt_add _ _
 have e2:ePt 80*ePt 80=ePt 160:=ePt_add _ _
 have e3:ePt 19*ePt 44*ePt 81=ePt 144:=by rw[ePt_add,ePt_add]
 have e4:ePt 144<=ePt 147:=ePt_le (by decide)
 have e5:ePt 148=2*ePt 147:=by rw[<-Mv,ePt_add]
 have e8:ePt 148<=ePt 160:=ePt_le (by decide)
 have e6:ePt 81=2*ePt 80:=by rw[<-Mv,ePt_add]
 have hp:=ePt_pos 80
 have e7:ePt 19*ePt 44*(ePt 80+1)<=ePt 19*ePt 44*ePt 81:=Yz _ (by omega)
 unfold dV dA dE dG dM
 omega
theorem d3:2*dV*dT<=dA:=by
 have e:ePt 1*ePt 19*ePt 108=ePt 128:=by rw[ePt_add,ePt_add]
 rw[Mv]at e
 unfold dV dT dA
 exact Yx e
theorem HU:0<dA:=by unfold dA;exact ePt_pos 128
theorem Ygd:0<dM:=by unfold dM;exact ePt_pos 80
def Ej(n:Nat):Nat->Nat->Bool:=
 Nat.rec (fun _ _=>true) (fun _ ih x y=>Bool.casesOn (Qi (Y7 y (Kg x dE)) (eGo dT dM 4 dA x)) false (ih (WP 128 x dS) (WQ 128 y dU))) n
def Ei(r n:Nat):Bool:=gPw 128 dS dU 21 r (fun x y=>Ej n x y)
def Dz(q:Nat):Bool:=gPw 128 dU dS 21 q (fun x y=>Qi (Y7 (K2 2 dA) x) (Y7 y (K2 2 dA)))
def dLw(q r x:Nat):Prop:=x^q<=2^r*dA^q
def dHi(q r y:Nat):Prop:=2^r*dA^q<=y^q
theorem Ynp{q K s t x y:Nat}(hK:0<K)(h1:x*K^q<=t^q*K)(h2:s^q*K<=y*K^q)(h3:2*K<=x)(h4:y<=2*K):s^q<=2^1*K^q/\2^1*K^q<=t^q:=by
 constructor
 ·have g1:=Yp (K^q) h4
  have g2:=Yh h2 g1
  refine Ki (c:=K) (Yh g2 (Yx ?_)) hK
  rw[QO];ac_rfl
 ·have g1:=Yp (K^q) h3
  have g2:=Yh g1 h1
  refine Ki (c:=K) (Yh (Yx ?_) g2) hK
  rw[QO];ac_rfl
theorem Ygf{q:Nat}(h:Dz q=true):dLw q 1 dS/\dHi q 1 dU:=by
 obtain⟨x,y,h1,h2,h3⟩:=EJ _ _ _ h
 obtain⟨h3,h4⟩:=Bool.and_eq_true_iff.1 h3
 exact Ynp HU h1 h2 (KC h3) (KC h4)
theorem S8{q:Nat}(hq:0<q)(hs:dLw q 1 dS)(ht:dHi q 1 dU):∀(n r x y:Nat),Ej n x y=true->dLw q r x->dHi q r y->∀i,i<n->Gap dV dG q 1 (2^(r+i))
 |0,_,_,_,_,_,_,i,hi=>absurd hi (J8 _)
 |n+1,r,x,y,h,hx,hy,i,hi=>by
  have h:Bool.casesOn (motive:=fun _=>Bool) (Qi (Y7 y (Kg x dE)) (eGo dT dM 4 dA x)) false (Ej n (WP 128 x dS) (WQ 128 y dU))=true:=h
  cases hb:Qi (Y7 y (Kg x dE)) (eGo dT dM 4 dA x)with
  |false=>rw[hb]at h;cases h
  |true=>
   rw[hb]at h
   cases i with
   |zero=>
    have hb:=Bool.and_eq_true_iff.1 hb
    exact Ig (A:=dA) (M:=dM) (G:=dG) (V:=dV) (T:=dT) (e:=dE) HU Ygd Nat.one_pos (by rw[Y0];exact hx) (by rw[Y0];exact hy) (KC hb.1) d1 d2 d3 hq hb.2
   |succ i=>
    have l2:dLw q (r+1) (WP 128 x dS):=by
     unfold dLw
     rw[DN];exact Ygn HU hx hs
    have u2:dHi q (r+1) (WQ 128 y dU):=by
     unfold dHi
     rw[Bf];exact YoJ HU hy ht
    have:=S8 hq hs ht n (r+1) _ _ h l2 u2 i (by omega)
    rw[show r+1+i=r+(i+1)by omega]at this
    exact this
theorem Ygc{q:Nat}(hq:0<q)(h0:Dz q=true){r n:Nat}(h:Ei r n=true):∀i,i<n->Gap dV dG q 1 (2^(r+i)):=by
 obtain⟨hs,ht⟩:=Ygf h0
 obtain⟨x,y,k1,k2,k3⟩:=EJ _ _ _ h
 exact S8 hq hs ht n r x y k3 (YkT HU hs k1) (Yk2 HU ht k2)
def dP(n:Nat):Prop:=∀i,i<n->Ei (8000*i+1) 8000=true
theorem dP0:dP 0:=fun i h=>absurd h (J8 i)
theorem dPS{n:Nat}(h:dP n)(h1:Ei (8000*n+1) 8000=true):dP (n+1):=fun i hi=>by
 rcases YY i n with h2|h2
 ·exact h i h2
 ·rw[show i=n by omega];exact h1
theorem Yge{q n:Nat}(hq:0<q)(h0:Dz q=true)(h:dP n){r:Nat}(h1:1<=r)(h2:r<=8000*n):Gap dV dG q 1 (2^r):=by
 have hd:=KP (r-1) 8000
 have hm:=Kj (r-1) (show 8000>0 by decide)
 have g:=Ygc hq h0 (h ((r-1)/8000) (by omega)) ((r-1)%8000) hm
 rwa [show 8000*((r-1)/8000)+1+(r-1)%8000=r by omega]at g
end Go.Proofs.YtlhmikjnholpnaaGreatDoor.LB
