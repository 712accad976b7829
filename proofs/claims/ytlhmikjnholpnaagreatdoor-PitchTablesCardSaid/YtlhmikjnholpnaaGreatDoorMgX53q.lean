/- Quotients of temperatures and powers of 2: each sign is told. -/
import Derived.Test.YtlhmikjnholpnaaGreatDoorMgX53p
import Derived.Test.YtlhmikjnholpnaaGreatDoorMgX53n
import Derived.Test.YtlhmikjnholpnaaGreatDoorMgX53o
import Derived.Test.YtlhmikjnholpnaaGreatDoorMgX53d
import Derived.LaidMore
import Derived.OpenShut
import Derived.Stop.Joined
import Derived.Deep.Slices
import Derived.Test.YtlhmikjnholpnaaGreatDoorRows
import Derived.Test.YtlhmikjnholpnaaGreatDoorCards
import Derived.Test.YtlhmikjnholpnaaGreatDoorTie
import Derived.ProofKit
import Derived.SevenTiedAt
open Array renaming getElem?_eq_some_iff->Xr,length_toList->Um
open Bool renaming and_eq_false_iff->Wn,and_eq_true->YS,not_eq_true'->ZY,or_eq_false_iff->K5,or_eq_true->Qj
open Int renaming add_zero->Zb,neg_neg->Jx,toNat_natCast->Yj
open Go.IntWalk renaming i64_in->Yg
open List renaming all_eq_true->VJ,append_nil->Wr,getD_eq_getElem?_getD->Kh,getElem?_eq_some_iff->UY,map_cons->KH,map_nil->Vf,mem_append->Ky,mem_cons->Kz,mem_map->QM,not_mem_nil->Z3
open Nat renaming add_mul->YM,add_zero->KO,le_of_eq->Yx,le_of_mul_le_mul_right->Ki,le_trans->Yh,lt_of_not_le->WJ,mul_add->Ka,mul_assoc->YA,mul_comm->Yl,mul_le_mul_left->Yz,mul_le_mul_right->Yp,mul_one->Y0,mul_pow->Yq,one_mul->Y2,pow_add->Yo,pow_le_pow_left->YG,pow_le_pow_right->Kp,pow_mul->Ym,pow_pos->YB,pow_zero->Jk,reduceAdd->Ya,reduceBEq->Yk,reduceEqDiff->Yc,reduceLeDiff->Ye,zero_add->KJ,zero_le->JJ,zero_mul->JP
open Go.Proofs.Tryz renaming prog->Yb
set_option linter.all false
set_option maxRecDepth 100000
namespace Go.Proofs.YtlhmikjnholpnaaGreatDoor.LB
theorem YbH{G G' n U D:Nat}(hG:0<G')(h:G'<=G)(hs:U*(G'+1)^n<=D*G'^n):U*(G+1)^n<=D*G^n:=by
 have e:(G+1)*G'<=(G'+1)*G:=by
  rw[YM,YM,Yl G G'];omega
 have e2:=YG e n
 rw[Yq,Yq]at e2
 refine Ki (c:=G'^n) ?_ (YB hG)
 have a:=Yz U e2
 have b:=Yp (G^n) hs
 refine Yh (Yx ?_) (Yh a (Yh (Yx ?_) (Yh b (Yx ?_)))) <;> ac_rfl
theorem Sep.mono{G G' n U D:Nat}(hG:0<G')(h:G'<=G)(hs:Sep G' n U D):Sep G n U D:=⟨fun hh=>YbH hG h (hs.1 hh),fun hh=>YbH hG h (hs.2 hh)⟩
theorem Yga:dG<=pG:=ePt_le (by decide)
theorem Ygb:0<dG:=ePt_pos 80
theorem S9{x:Nat}(h:x<=323150):x<=dV:=by
 have e:ePt 19=524288:=rfl
 unfold dV;omega
theorem sep_r{q r x y:Nat}(hq:q=600000)(hx:0<x/\x<=323150)(hy:0<y/\y<=323150)(h1:1<=r)(h2:r<=216000):Sep pG q (x^q) (y^q*2^r):=by
 have g:=Yge (q:=q) (n:=27) (by omega) (by rw[hq];exact Ygg) dP27 h1 (by omega)
 obtain⟨g1,g2⟩:=g x y hx.1 hy.1 (S9 hx.2) (S9 hy.2)
 rw[Y0,Yl (2^r)]at g1 g2
 exact Sep.mono Ygb Yga ⟨g1,g2⟩
theorem Ir{q x y G:Nat}(hG:323150<=G)(hx:x<=323150)(h:x^q<y^q):x^q*(G+1)^q<=y^q*G^q:=by
 have hlt:x<y:=WJ fun hh=>by
  have:=YG hh q
  omega
 have e:x*(G+1)<=y*G:=by
  have:=Yp G (show x+1<=y from hlt)
  rw[YM,Y2]at this
  rw[Ka,Y0];omega
 have:=YG e q
 rwa [Yq,Yq]at this
theorem sep_0{q x y:Nat}(hx:x<=323150)(hy:y<=323150):Sep pG q (x^q) (y^q):=by
 have hG:323150<=pG:=by
  have h:ePt 20<=ePt 270:=ePt_le (by decide)
  have e:ePt 20=1048576:=rfl
  unfold pG;omega
 exact⟨Ir hG hx,Ir hG hy⟩
theorem far_r{q n r x y:Nat}(hq:q=25*n)(hx:x<=323150)(hy:253150<=y)(h:9*n+1<=r):x^q*2^1<=y^q*2^r:=by
 have h1:x^25<=y^25*2^9:=Yh (YG hx 25) (Yh (show 323150^25<=253150^25*2^9 by decide+kernel) (Yp _ (YG hy 25)))
 have h2:=YG h1 n
 rw[Yq,<-Ym,<-Ym,<-Ym,<-hq]at h2
 have h3:=Yp (2^1) h2
 refine Yh h3 ?_
 rw[YA,<-Yo]
 exact Yz _ (Kp (by decide) h)
end Go.Proofs.YtlhmikjnholpnaaGreatDoor.LB
namespace Go.Proofs.YtlhmikjnholpnaaGreatDoor
open Go Go.Vx
def ZU(x y q:Nat)(m:Int):List (Int×Int):=[((x:Int),(q:Int)),((y:Int), -(q:Int)),(2, -m)]
theorem Yjx{x y q:Nat}{m:Int}(hq:1<=q):upP (ZU x y q m)=x^q*2^(-m).toNat/\dnP (ZU x y q m)=y^q*2^m.toNat:=by
 have h1:¬((q:Int)<0):=by omega
 have h2: -(q:Int)<0:=by omega
 have t:=Q.two_P (-m)
 rw[Jx]at t
 have e:ZU x y q m=[((x:Int),(q:Int)),((y:Int), -(q:Int))]++[(2, -m)]:=rfl
 rw[e,(Q.upP_app2 _ _).1,(Q.upP_app2 _ _).2,t.1,t.2]
 simp only[upP,dnP,if_neg h1,if_pos h2,Jx,Y0,Y2,Yj,and_self]
theorem Yjy{x y q:Nat}{m:Int}(hq:1<=q)(w:Nat->Nat)(hw:w 2=0):upS w (ZU x y q m)+dnS w (ZU x y q m)=w x*q+w y*q:=by
 have h1:¬((q:Int)<0):=by omega
 have h2: -(q:Int)<0:=by omega
 have t:=Q.two_S w (-m)
 rw[hw,JP,JP]at t
 have e:ZU x y q m=[((x:Int),(q:Int)),((y:Int), -(q:Int))]++[(2, -m)]:=rfl
 rw[e,(JN w _ _).1,(JN w _ _).2,t.1,t.2]
 simp only[upS,dnS,if_neg h1,if_pos h2,Jx,KO,KJ,Yj]
theorem Oq{x y q:Nat}{m:Int}(hq:q=600000)(hx:253150<=x/\x<=323150)(hy:253150<=y/\y<=323150)(hm: -1000000000000<=m/\m<=1000000000001):Dec (ZU x y q m):=by
 have hok:∀z,z∈ZU x y q m->okU z:=by
  intro z hz
  simp only[ZU,Kz,Z3,or_false]at hz
  unfold okU
  rcases hz with rfl|rfl|rfl <;> simp only <;> omega
 obtain⟨p1,p2⟩:=Yjx (x:=x) (y:=y) (m:=m) (show 1<=q by omega)
 have hS:=Yjy (x:=x) (y:=y) (m:=m) (show 1<=q by omega) wQ Cg
 have w1:=Yp q (Wm (n:=x) (by omega))
 have w2:=Yp q (Wm (n:=y) (by omega))
 by_cases c:m.natAbs<=216000
 ·refine Mh (n:=q) rfl hok ?_ (by rw[hS];omega)
  rw[p1,p2]
  rcases Int.lt_trichotomy m 0 with h|h|h
  ·rw[show m.toNat=0 by omega,Jk,Y0]
   exact(LB.sep_r hq (by omega) (by omega) (by omega) (by omega)).symm
  ·rw[show m.toNat=0 by omega,show(-m).toNat=0 by omega,Jk,Y0,Y0]
   exact LB.sep_0 hx.2 hy.2
  ·rw[show(-m).toNat=0 by omega,Jk,Y0]
   exact LB.sep_r hq (by omega) (by omega) (by omega) (by omega)
 ·refine HV (m:=1) hok ?_ ?_
  ·rw[p1,p2]
   obtain⟨n,hn⟩:∃n,n=24000:=⟨_,rfl⟩
   rcases Int.lt_trichotomy m 0 with h|h|h
   ·right
    rw[show m.toNat=0 by omega,Jk,Y0]
    exact LB.far_r (n:=n) (by omega) hy.2 hx.1 (by omega)
   ·omega
   ·left
    rw[show(-m).toNat=0 by omega,Jk,Y0]
    exact LB.far_r (n:=n) (by omega) hx.2 hy.1 (by omega)
  ·rw[hS,Y2]
   have h:LB.ePt 60<=LB.ePt 300:=LB.ePt_le (by decide)
   have e:LB.ePt 60=1152921504606846976:=rfl
   omega
theorem Ygy{t0 t:Int}(h0:KG t0=true)(h1:KG t=true){L:List (Int×Int)}(hL:L=[(273150+t,1),(273150+t0, -1)].map (J5 600000)):
 (∀m:Int, -1000000000000<=m->m<=1000000000001->Dec (atG L 1 m))/\(Q.EE L 1 (-1000000000000)/\¬Q.EE L 1 1000000000001)/\Q.EE L 1 (XZ t0 t)/\¬Q.EE L 1 (XZ t0 t+1):=by
 have r1:=Xn h1
 have r0:=Xn h0
 have b1:=QL h1
 have b0:=QL h0
 obtain⟨q,hq⟩:∃q,q=600000:=⟨_,rfl⟩
 have e1:(((273150+t).toNat:Nat):Int)=273150+t:=by omega
 have e0:(((273150+t0).toNat:Nat):Int)=273150+t0:=by omega
 have hat:∀m:Int,atG L 1 m=ZU (273150+t).toNat (273150+t0).toNat q m:=fun m=>by
  have e2: -m*1= -m:=by omega
  rw[hL,atG,ZU,e1,e0,e2,hq]
  rfl
 have hD:∀m:Int,WZ (273150+t).toNat (273150+t0).toNat m=ZU (273150+t).toNat (273150+t0).toNat q m:=fun m=>by
  rw[WZ,ZU,hq];rfl
 have hdec:∀m:Int, -1000000000000<=m->m<=1000000000001->Dec (atG L 1 m):=fun m m1 m2=>by
  rw[hat];exact Oq hq r1 r0 ⟨m1,m2⟩
 have hEE:∀m:Int, -1000000000000<=m->m<=1000000000001->(0<=Qf (WZ (273150+t).toNat (273150+t0).toNat m)↔Q.EE L 1 m):=fun m m1 m2=>by
  unfold Q.EE
  rw[hD,hat]
  refine PI ?_ (by simp [ZU]) (Oq hq r1 r0 ⟨m1,m2⟩)
  intro z hz
  simp only[ZU,Kz,Z3,or_false]at hz
  unfold okU
  rcases hz with rfl|rfl|rfl <;> simp only <;> omega
 obtain⟨s1,s2,s3,s4⟩:=Ygz h0 h1
 have k1:=(hEE _ s3 (by omega)).1 s1
 have k2:¬Q.EE L 1 (XZ t0 t+1):=fun hh=>s2 ((hEE _ (by omega) (by omega)).2 hh)
 exact⟨hdec,⟨Q.EE_mono (by decide) s3 k1,fun hh=>k2 (Q.EE_mono (by decide) (by omega) hh)⟩,k1,k2⟩
set_option maxRecDepth 100000
set_option maxHeartbeats 8000000
def j27:List SV:=[.junk,.junk,.junk,.junk,.junk,.junk,.junk,.junk,.junk,.junk,.junk,.junk,.junk,.junk,.junk,.junk,.junk,.junk,.junk,.junk,.junk,.junk,.junk,.junk,.junk,.junk,.junk]
def rt6C:Ctr:={ alias:=false,of:=fun l=>match l with
 | [.agg [.int .i64 a,.int .i64 t0,.int .i64 t],.agg cs,.int .i64 note]=> .ex Tm fun T=> .pre (cs=YZ T/\T.nm.size<=9223372036854775807/\Ke T=0/\(0<=note/\note<=139)/\KG t0=true/\KG t=true)
     (.fin (.tup [.own 7 0 (Kt (Ks (YR T) note) t t0).length 2,.int .i64 (2*(Ks (YR T) note).n)]) [.box j3,.box j27,.box j3,.box j7,.box j7,.box j7,.own false 1 6 (fun _=>[.junk]),.own false 2 (Kt (Ks (YR T) note) t t0).length (fun k=>Yw ((Kt (Ks (YR T) note) t t0).getD k default))])
 |_=>noC}
def UJ1:Env:=mkE [(35,rnotC),(36,rofnC)] []
theorem YeQ:YD Yb UJ1:=eo (by kernel_rfl) ⟨⟨Ynn,_,Tryz.func35,rfl,rfl⟩,⟨Yno,_,Tryz.func36,rfl,rfl⟩,trivial⟩ trivial
theorem Ynt:rt6C.ok Yb 13:=by
 refine S2 Tryz.func13 Ypk YeQ 600 rt6C fun args k h=>?_
 simp only[rt6C]at h
 split at h
 ·rename_i a t0 t cs note
  obtain⟨T,⟨rfl,hnm,hT,hn,h0,h1⟩,h⟩:=h
  refine⟨[.agg [.int .i64 a,.int .i64 t0,.int .i64 t],.agg (YZ T),.int .i64 note],⟨⟨⟨rfl,rfl⟩,⟨rfl,rfl⟩,⟨rfl,rfl⟩,trivial⟩,YN _ (KU T _),⟨rfl,rfl⟩,trivial⟩,?_⟩
  have hc:=(B5 hT hn).2
  dsimp only[v13,UJ1,Yk,rnotC,rofnC,go_sem,reduceIte,Ya]
  simp only[Yd,Ya,Ye,reduceCtorEq,Yc]
  refine⟨QT T,by rw[J4];decide,T,⟨rfl,hnm,hT⟩,by decide,by decide,YR T,⟨fun k hk=>?_,hn,h0,h1,hc⟩,by decide,by decide,?_⟩
  ·exact YW _
  ·refine⟨_,_,?_,?_,h,⟨trivial,trivial,trivial⟩,?_⟩
   ·exact⟨⟨rfl,rfl,rfl,rfl,show 7<8 by decide⟩,⟨rfl,rfl⟩,trivial⟩
   ·exact⟨⟨trivial,trivial,trivial,trivial⟩,⟨trivial,trivial,trivial,trivial,trivial,trivial,trivial,trivial,trivial,trivial,trivial,trivial,trivial,trivial,trivial,trivial,trivial,trivial,trivial,trivial,trivial,trivial,trivial,trivial,trivial,trivial,trivial,trivial⟩,⟨trivial,trivial,trivial,trivial⟩,⟨trivial,trivial,trivial,trivial,trivial,trivial,trivial,trivial⟩,⟨trivial,trivial,trivial,trivial,trivial,trivial,trivial,trivial⟩,⟨trivial,trivial,trivial,trivial,trivial,trivial,trivial,trivial⟩,⟨rfl,rfl,rfl,fun _ _=>⟨trivial,trivial⟩⟩,⟨rfl,rfl,rfl,fun _ _=>⟨⟨rfl,rfl⟩,⟨rfl,rfl⟩,trivial⟩⟩,trivial⟩
   ·simp [Xf,Y5,Y3,j3,j7,j27,Yw]
 ·exact h.1.elim
def v5:VF:=⟨48,[.tmp 0],(ZR [u1 0 .mov [.cn (.bool false)]] (ZR [u1 8 (.call 17) [.cn (.int .i64 15000)],u1 9 (.call 18) [.cn (.val (.string ⟨#[101,113,117,97,108]⟩))],u1 10 (.call 15) [.tm 8,.tm 9,.cn (.int .i64 60)],Zm 7 10,Ze 11 0 7,Ze 12 1 7,u1 1 (.alloc Z2) [],Zs 2 1 11,Zm 2 12] (ZR [u1 14 (.call 17) [.cn (.int .i64 20000)],u1 15 (.call 18) [.cn (.val (.string ⟨#[101,113,117,97,108]⟩))],u1 16 (.call 15) [.tm 14,.tm 15,.cn (.int .i64 69)],Zm 13 16,Ze 17 0 13,Ze 18 1 13,u1 3 (.alloc Z2) [],Zs 2 3 17,Zm 4 18] (ZR [u1 20 (.call 17) [.cn (.int .i64 20000)],Zc 21 10 20,Zm 19 21,Ze 22 0 19,Ze 23 1 19,Zm 5 22,Zm 6 23] (ZR [Zm 24 2,Zq 25 .eql 24 0,Zm 26 25,Zg 27 26 true 4,u2 28 26 true (.cmp .eql) [.tm 27,.cn (.int .i64 0)],u1 29 .and [.tm 26,.tm 28],Zm 30 29,Zg 31 30 true 6,u2 32 30 true (.cmp .eql) [.tm 31,.cn (.int .i64 0)],u1 33 .and [.tm 30,.tm 32],Zm 34 33,u2 35 34 true (.load true 2) [.tm 1],u2 36 34 true (.build Z2 [(0,1),(1,1)]) [.cn (.int .i64 261625),.cn (.int .i64 261626)],u2 37 34 true (.eqv false [true,true]) [.tm 35,.tm 36],u1 38 .and [.tm 34,.tm 37],Zm 39 38,u2 40 39 true (.load true 2) [.tm 3],u2 41 39 true (.build Z2 [(0,1),(1,1)]) [.cn (.int .i64 443801),.cn (.int .i64 443802)],u2 42 39 true (.eqv false [true,true]) [.tm 40,.tm 41],u1 43 .and [.tm 39,.tm 42],Zm 44 43,Zg 45 44 true 5,u2 46 44 true (.cmp .eql) [.tm 45,.cn (.int .i64 14891)],u1 47 .and [.tm 44,.tm 46],Zm 0 47] .ret)))))⟩
theorem Yqd:Yn Yb Tryz.f5=some v5:=by kernel_rfl
theorem YgQ:X0 (YR EQ) 15000 15000 60 440000=(261625,261626):=by decide+kernel
theorem YgR:X0 (YR EQ) 15000 20000 69 440000=(443801,443802):=by decide+kernel
theorem YgP:XZ 15000 20000=14891:=by decide+kernel
theorem OP(m:Bool):(if m=true then MT else EQ).nm.size<=9223372036854775807:=by cases m <;> decide
theorem eqT:Ke EQ=0:=by decide+kernel
def UA0:Env:=mkE [(17,usu6C),(18,nmdC),(15,frq6C),(10,drfC)] []
theorem YeJ:YD Yb UA0:=eo (by kernel_rfl) ⟨⟨YoL,_,Tryz.func17,rfl,rfl⟩,⟨Ykj,_,Tryz.func18,rfl,rfl⟩,⟨Yhe,_,Tryz.func15,rfl,rfl⟩,⟨Ygx,_,Tryz.func10,rfl,rfl⟩,trivial⟩ trivial
theorem Yfl:trueC.ok Yb 5:=by
 refine Yy Tryz.func5 Yqd YeJ 600 trueC fun args k h=>?_
 simp only[trueC]at h
 split at h
 ·refine⟨[],trivial,?_⟩
  have h:k (.bool true) []:=h
  dsimp only[v5,QA,J4,UA0,Yk,usu6C,nmdC,frq6C,drfC,go_sem,reduceIte,Ya]
  simp only[Yd,Ya,Ye,reduceCtorEq,Yc]
  refine⟨false,rfl,EQ,⟨rfl,OP false,by decide,eqT,by decide⟩,by decide,by decide,false,rfl,EQ,⟨rfl,OP false,by decide,eqT,by decide⟩,by decide,by decide,by decide,by decide,by decide,?_⟩
  rw[YgQ,YgR,YgP]
  exact QF h
 ·exact h.1.elim
def C3(a t0 t:Int)(T:Tm):List SV:= .int .i64 a:: .int .i64 t0:: .int .i64 t::YZ T
def PG:List Sh:=[.int .i64,.int .i64,.int .i64,.str,.bool,.int .i64,.int .i64,.int .i64,.int .i64,.int .i64,.int .i64,.int .i64,.int .i64,.int .i64,.int .i64,.int .i64,.int .i64,.int .i64,.int .i64,.int .i64,.int .i64,.int .i64,.int .i64,.int .i64,.int .i64,.int .i64,.int .i64,.int .i64,.int .i64,.int .i64]
def tmOf(nm:ByteArray)(syn:Bool)(w:Int)(l:List Int):Tm:=⟨nm,syn,w,fun i=>(l.getD (2*i) 0,l.getD (2*i+1) 0)⟩
theorem Ju{l:List Sh}{c:List SV}(h:QS (.int .i64::l) c):∃(x:Int) (r:List SV),c= .int .i64 x::r/\QS l r:=by
 obtain⟨v,r,rfl,h1,h2⟩:=LU h
 obtain⟨a,rfl,_⟩:=O7 h1
 exact⟨a,r,rfl,h2⟩
theorem YfX{cs:List SV}(h:QS PG cs):∃(a t0 t:Int) (T:Tm),cs=C3 a t0 t T/\T.nm.size<=maxLen:=by
 obtain⟨a,r0,e0,h0⟩:=Ju h
 obtain⟨t0,r1,e1,h1⟩:=Ju h0
 obtain⟨t,r2,e2,h2⟩:=Ju h1
 obtain⟨v3,r3,e3,⟨nm,u3,hnm⟩,h3⟩:=LU h2
 obtain⟨v4,r4,e4,⟨syn,u4⟩,h4⟩:=LU h3
 obtain⟨w,r5,e5,h5⟩:=Ju h4
 obtain⟨x0,r6,e6,h6⟩:=Ju h5
 obtain⟨x1,r7,e7,h7⟩:=Ju h6
 obtain⟨x2,r8,e8,h8⟩:=Ju h7
 obtain⟨x3,r9,e9,h9⟩:=Ju h8
 obtain⟨x4,r10,e10,h10⟩:=Ju h9
 obtain⟨x5,r11,e11,h11⟩:=Ju h10
 obtain⟨x6,r12,e12,h12⟩:=Ju h11
 obtain⟨x7,r13,e13,h13⟩:=Ju h12
 obtain⟨x8,r14,e14,h14⟩:=Ju h13
 obtain⟨x9,r15,e15,h15⟩:=Ju h14
 obtain⟨x10,r16,e16,h16⟩:=Ju h15
 obtain⟨x11,r17,e17,h17⟩:=Ju h16
 obtain⟨x12,r18,e18,h18⟩:=Ju h17
 obtain⟨x13,r19,e19,h19⟩:=Ju h18
 obtain⟨x14,r20,e20,h20⟩:=Ju h19
 obtain⟨x15,r21,e21,h21⟩:=Ju h20
 obtain⟨x16,r22,e22,h22⟩:=Ju h21
 obtain⟨x17,r23,e23,h23⟩:=Ju h22
 obtain⟨x18,r24,e24,h24⟩:=Ju h23
 obtain⟨x19,r25,e25,h25⟩:=Ju h24
 obtain⟨x20,r26,e26,h26⟩:=Ju h25
 obtain⟨x21,r27,e27,h27⟩:=Ju h26
 obtain⟨x22,r28,e28,h28⟩:=Ju h27
 obtain⟨x23,r29,e29,h29⟩:=Ju h28
 have e30:=O6 h29
 exact⟨a,t0,t,tmOf nm syn w [x0,x1,x2,x3,x4,x5,x6,x7,x8,x9,x10,x11,x12,x13,x14,x15,x16,x17,x18,x19,x20,x21,x22,x23],by rw[e0,e1,e2,e3,u3,e4,u4,e5,e6,e7,e8,e9,e10,e11,e12,e13,e14,e15,e16,e17,e18,e19,e20,e21,e22,e23,e24,e25,e26,e27,e28,e29,e30];rfl,hnm⟩
theorem vw_T(b:Bool)(hp:List HO)(f:List SV->List SV)(T:Tm):Jw b hp f (YZ T)=YZ T:=rfl
def v28:VF:=⟨26,[.cell 6 true 2],(ZR [u1 6 (.alloc Z2) []] (ZR [Zm 11 0,Zm 12 1,Zm 13 2,u1 14 (.call 48) [.tm 11,.tm 12,.tm 13],Zm 10 14,Ze 15 0 10,Ze 16 1 10,Ze 17 2 10,Zm 7 15,Zm 8 16,Zm 9 17] (.seq (ZR [Zm 18 8] (ZC 18 (ZR [Zm 19 7,Zm 20 7,u1 21 (.build Z2 [(0,1),(1,1)]) [.tm 19,.tm 20],Zs 2 6 21] .ret) .skip)) (ZR [Zm 22 7,Zm 23 7,Zp 24 23 1,u1 25 (.build Z2 [(0,1),(1,1)]) [.tm 22,.tm 24],Zs 2 6 25] .ret))))⟩
theorem YpJ:Yn Yb Tryz.f28=some v28:=by kernel_rfl
def v9:VF:=⟨15,[.cell 2 true 2,.tmp 3],(ZR [u1 2 (.alloc Z2) [],Zi 3 0] (.seq (ZR [Zm 4 0,Zc 5 27 4,u1 6 .not [.tm 5]] (ZC 6 (ZR [u1 7 (.build Z2 []) [],Zs 2 2 7,Zi 3 2] .ret) .skip)) (ZR [Zm 8 0,Zc 9 29 8,u1 10 (.build Z2 [(0,1),(1,1)]) [.tm 9,.cn (.int .i64 1)],u1 11 (.call 29) [.cn (.int .i64 0)],u1 12 (.build Z2 [(0,1),(1,1)]) [.tm 11,.cn (.int .i64 (-1))],u1 13 (.buildSlice 2 2 Z2 [(0,2),(2,2)]) [.tm 10,.tm 12],u1 14 (.call 28) [.cn (.int .i64 331300000),.tm 13,.cn (.int .i64 2)],Zs 2 2 14,Zi 3 0] .ret)))⟩
theorem YqU:Yn Yb Tryz.f9=some v9:=by kernel_rfl
def v23:VF:=⟨31,[.cell 6 true 2,.tmp 7],(ZR [u1 3 .box [.tm 0],u1 4 .box [.tm 1],u1 6 (.alloc Z2) [],Zi 7 0] (ZR [Zt 11 3 3,Zt 12 27 4,Zm 13 2,u1 14 (.call 22) [.tm 11,.tm 12,.tm 13],Zm 8 14] (.seq (ZR [Zm 15 8,Zq 16 .neq 15 0] (ZC 16 (ZR [u1 17 (.build Z2 []) [],Zm 18 8,Zs 2 6 17,Zm 7 18] .ret) .skip)) (ZR [Zt 20 3 3,Zt 21 27 4,Zm 22 2,u1 23 (.call 13) [.tm 20,.tm 21,.tm 22],Zm 19 23,Ze 24 0 19,Ze 25 1 19,Zm 9 24,Zm 10 25] (ZR [Za 26 0 3,Zf 27 1 26,Zm 28 9,Zm 29 10,u1 30 (.call 28) [.tm 27,.tm 28,.tm 29],Zs 2 6 30,Zi 7 0] .ret)))))⟩
theorem YpH:Yn Yb Tryz.f23=some v23:=by kernel_rfl
def v22:VF:=⟨24,[.tmp 6],(ZR [u1 3 .box [.tm 0],u1 4 .box [.tm 1],Zi 6 0] (.seq (ZR [Zt 8 3 3,Zc 9 32 8,Zq 10 .neq 9 0] (ZC 10 (ZR [Zi 6 2] .ret) .skip)) (ZR [Zt 11 27 4,Zc 12 34 11,Zm 7 12] (.seq (ZR [Zm 13 7,Zq 14 .eql 13 0,Zm 15 14,Zg 16 15 true 2,u2 17 15 true (.cmp .lss) [.tm 16,.cn (.int .i64 0)],Zg 18 15 true 17,Zg 19 18 false 2,u2 20 18 false (.cmp .gtr) [.tm 19,.cn (.int .i64 139)],u2 21 15 true .or [.tm 18,.tm 20],u1 22 .and [.tm 15,.tm 21]] (ZC 22 (ZR [Zi 6 2] .ret) .skip)) (ZR [Zm 23 7,Zm 6 23] .ret)))))⟩
theorem Ydn:Yn Yb Tryz.f22=some v22:=by kernel_rfl
def v11:VF:=⟨28,[.tmp 2,.tmp 3],(ZR [u1 1 .box [.tm 0],Zi 2 0,Zi 3 0] (ZR [Zt 8 3 1,Zc 9 32 8,Zm 4 9] (.seq (ZR [Zm 10 4,Zq 11 .neq 10 0] (ZC 11 (ZR [Zm 12 4,Zi 2 0,Zm 3 12] .ret) .skip)) (.seq (.draw [] [Zy 14 2 1,Zv 15 1 14,Zy 18 1 1,Zv 19 1 18,w1 16 (.call 29) [.tm 15],w1 17 (.build Z2 [(0,1),(1,1)]) [.tm 16,.cn (.int .i64 1)],w1 20 (.call 29) [.tm 19],w1 21 (.build Z2 [(0,1),(1,1)]) [.tm 20,.cn (.int .i64 (-1))],w1 22 (.buildSlice 2 2 Z2 [(0,2),(2,2)]) [.tm 17,.tm 21],w1 23 (.call 33) [.tm 22,.cn (.int .i64 1),.cn (.int .i64 600000)],Zu 13 23,ZE 24 0 13,ZE 25 1 13,ZE 26 2 13,Zu 5 24,Zu 6 25,Zu 7 26]) (ZR [Zm 27 5,Zm 2 27,Zi 3 0] .ret)))))⟩
theorem Yo3:Yn Yb Tryz.f11=some v11:=by kernel_rfl
def rspnC:Ctr:={ alias:=false,of:=fun l=>match l with
 | [.int .i64 s,.vs _ _ n sz get,.int .i64 den]=> .ex (List (Int×Int)) fun l=> .ex Nat fun k=> .ex Bool fun ex=> .pre (lsP 2 Yw n sz get l/\(∀x,x∈l->JB x=false)/\n<=16/\1<=n/\(1<=s/\s<=1000000000000)/\(1<=den/\den<=1000000)/\RPw l s den k ex) (.fin (.agg [.int .i64 (Ui k ex).1,.int .i64 (Ui k ex).2]) [])
 |_=>noC}
def RY0:Env:=mkE [(48,Q.rPowerC)] []
theorem Yee:YD Yb RY0:=eo (by kernel_rfl) ⟨⟨Q.rPower_ok,_,Tryz.func48,rfl,rfl⟩,trivial⟩ trivial
theorem YbB:rspnC.ok Yb 28:=by
 refine Yy Tryz.func28 YpJ Yee 300 rspnC fun args k h=>?_
 simp only[rspnC]at h
 split at h
 ·rename_i s tt z n sz get den
  obtain⟨l,kk,ex,⟨⟨rfl,rfl,hg⟩,hl,hn,hn1,hs,hd,hR⟩,h⟩:=h
  refine⟨[.int .i64 s,.vs tt z l.length 2 (fun k=>Yw (l.getD k default)),.int .i64 den],⟨⟨rfl,rfl⟩,⟨id,rfl,rfl,rfl,hg⟩,⟨rfl,rfl⟩,trivial⟩,?_⟩
  dsimp only[v28,RY0,Yk,Q.rPowerC,Yw,go_sem,reduceIte,Ya]
  simp only[Yd,Ya,Ye,reduceCtorEq,Yc]
  have hlt:=hR.lt
  refine⟨l,⟨⟨rfl,rfl,fun k _=>YW _⟩,hl,hn,hn1,hs,hd,hR.top,hR.pth⟩,by decide,by decide,by decide,?_⟩
  rw[hR.flag,hR.val]
  refine⟨fun hc=>?_,fun hc=>?_⟩
  ·rw[hc]at h;exact HK h
  ·rw[hc]at h
   rw[Yg _ (by omega)]
   exact HK h
 ·exact h.1.elim
def RY1:Env:=mkE [(28,rspnC),(29,kelC)] [(27,v27)]
theorem Yef:YD Yb RY1:=eo (by kernel_rfl) ⟨⟨YbB,_,Tryz.func28,rfl,rfl⟩,⟨E9,_,Tryz.func29,rfl,rfl⟩,trivial⟩ ⟨⟨_,Tryz.func27,Ydq,_,Tryz.func27,rfl,rfl⟩,trivial⟩
theorem Yns:speedC.ok Yb 9:=by
 refine Yy Tryz.func9 YqU Yef 300 speedC fun args k h=>?_
 simp only[speedC]at h
 split at h
 ·rename_i t
  refine⟨[.int .i64 t],by simp [leL,le],?_⟩
  dsimp only[v9,RY1,Yk,v27,rspnC,kelC,go_sem,reduceIte,Ya]
  simp only[Yd,Ya,Ye,reduceCtorEq,Yc]
  refine⟨fun hc=>?_,fun hc=>?_⟩
  ·rw[UR,if_neg (show¬KG t=true from by rw[show KG t=false from hc];decide)]at h
   exact HL h
  ·have hT:KG t=true:=hc
   have ht:=QL hT
   obtain⟨kk,ex,e1,hR⟩:=Yn3 hT
   rw[e1]at h
   refine⟨hT,by decide,by decide,QQ t,kk,ex,⟨⟨rfl,rfl,fun q hq=>?_⟩,fun x hx=>?_,by decide,by decide,hR⟩,HL h⟩
   ·match q,hq with
    |0,_=>exact YW _
    |1,_=>exact YW _
   ·simp only[QQ,Kz,Z3,or_false]at hx
    rcases hx with rfl|rfl
    ·simp only[JB,K5,decide_eq_false_iff_not];omega
    ·decide
 ·exact h.1.elim
theorem Ym1{r:Rt}(h:Y4 r=0){t t0:Int}(ht:KG t=true)(ht0:KG t0=true):∀x,x∈Kt r t t0->JB x=false:=by
 have ht:=QL ht
 have ht0:=QL ht0
 have hr:=XX h
 intro x hx
 unfold Kt at hx
 rw[Ky,QM]at hx
 simp only[JB,K5,decide_eq_false_iff_not]
 rcases hx with⟨y,hy,rfl⟩ |hx
 ·have:=(FK h y hy).1
  have h2:=A4 h y hy
  simp only[JB,K5,decide_eq_false_iff_not]at this
  unfold Wb;simp only;omega
 ·simp only[Kz,Z3,or_false]at hx
  rcases hx with rfl|rfl <;> simp only <;> omega
theorem YmX(r:Rt)(t t0:Int):2<=(Kt r t t0).length/\(Kt r t t0).length<=8:=by
 have:=Uj r
 simp [Kt];omega
def RY2:Env:=mkE [(32,chkSC),(34,chk5A),(13,rt6C),(28,rspnC)] [(22,v22)]
theorem Yeg:YD Yb RY2:=eo (by kernel_rfl) ⟨⟨C7,_,Tryz.func32,rfl,rfl⟩,⟨C6,_,Tryz.func34,rfl,rfl⟩,⟨Ynt,_,Tryz.func13,rfl,rfl⟩,⟨YbB,_,Tryz.func28,rfl,rfl⟩,trivial⟩ ⟨⟨_,Tryz.func22,Ydn,_,Tryz.func22,rfl,rfl⟩,trivial⟩
theorem Yne:frq6C.ok Yb 23:=by
 refine Yy Tryz.func23 YpH Yeg 900 frq6C fun args k h=>?_
 simp only[frq6C]at h
 split at h
 ·rename_i a t0 t cs note
  obtain⟨T,⟨rfl,hnm,hS,hT,hn0,hn1⟩,h⟩:=h
  refine⟨[.agg [.int .i64 a,.int .i64 t0,.int .i64 t],.agg (YZ T),.int .i64 note],⟨⟨⟨rfl,rfl⟩,⟨rfl,rfl⟩,⟨rfl,rfl⟩,trivial⟩,YN _ (KU T _),⟨rfl,rfl⟩,trivial⟩,?_⟩
  dsimp only[v23,QA,J4,RY2,Yk,v22,chkSC,chk5A,rt6C,rspnC,go_sem,reduceIte,Ya]
  simp only[Yd,Ya,Ye,reduceCtorEq,Yc]
  obtain⟨ha,hb0,hb1⟩:=WO hS
  obtain⟨kk,ex,e1,hR⟩:=Ynf hS hT ⟨hn0,hn1⟩
  refine⟨QT T,QT T,fun hs=>absurd hS hs,fun _=>⟨T,⟨rfl,hnm⟩,fun u v=>by rw[decide_eq_true u,decide_eq_false v];rfl,fun hc=>?_,fun hc=>?_⟩⟩
  ·exfalso
   simp only[YS,Qj,decide_eq_true_eq]at hc;omega
  refine⟨fun hh=>absurd hT hh,fun _=>?_⟩
  obtain⟨s1,_⟩:=B5 hT ⟨hn0,hn1⟩
  have hc:=(B5 hT ⟨hn0,hn1⟩).2
  have hden:=XX hc
  have hl:=YmX (Ks (YR T) note) t t0
  refine⟨T,⟨rfl,hnm,hT,⟨hn0,hn1⟩,hb0,hb1⟩,by decide,by decide,Kt (Ks (YR T) note) t t0,kk,ex,⟨⟨rfl,rfl,fun q _=>YW _⟩,Ym1 hc hb1 hb0,by omega,by omega,by omega,by omega,hR⟩,?_⟩
  rw[<-e1]
  exact HL (show k _ []from h)
 ·exact h.1.elim
def V1(a t0 t:Int):Int×Int:=if J0 a t0 t=0 then(XZ t0 t,0)else(0,J0 a t0 t)
def drfTC:Ctr:={ alias:=false,of:=fun l=>match l with
 | [.agg [.int .i64 a,.int .i64 t0,.int .i64 t]]=> .fin (.tup [.int .i64 (V1 a t0 t).1,.int .i64 (V1 a t0 t).2]) []
 |_=>noC}
theorem YgA:drfTC.ok Yb 10:=by
 refine Yy Tryz.func10 YcG RJ 600 drfTC fun args k h=>?_
 simp only[drfTC]at h
 split at h
 ·rename_i a t0 t
  have h:k (.tup [.int .i64 (V1 a t0 t).1,.int .i64 (V1 a t0 t).2]) []:=h
  refine⟨[.agg [.int .i64 a,.int .i64 t0,.int .i64 t]],by simp [leL,le],?_⟩
  dsimp only[v10,TW2,Yk,chkSC,warmC,flrC,go_sem,reduceIte,Ya]
  simp only[Yd,Ya,Ye,reduceCtorEq,Yc]
  refine⟨fun hh=>?_,fun hS=>?_⟩
  ·rw[V1,if_neg hh]at h
   exact WL h
  ·rw[V1,if_pos hS]at h
   obtain⟨ha,hb0,hb1⟩:=WO hS
   refine⟨hb1,hb0,by decide,[(273150+t,1),(273150+t0, -1)],⟨rfl,rfl,fun q hq=>?_⟩,by decide,by decide,by decide,WL h⟩
   rcases(show q=0\/q=1 by omega)with rfl|rfl <;> exact YW _
 ·exact h.1.elim
def RY3:Env:=mkE [(32,chkSC),(29,kelC),(33,Q.rflrC)] []
theorem Yeh:YD Yb RY3:=eo (by kernel_rfl) ⟨⟨C7,_,Tryz.func32,rfl,rfl⟩,⟨E9,_,Tryz.func29,rfl,rfl⟩,⟨Q.rflr_ok,_,Tryz.func33,rfl,rfl⟩,trivial⟩ trivial
theorem YmW:drfTC.ok Yb 11:=by
 refine Yy Tryz.func11 Yo3 Yeh 600 drfTC fun args k h=>?_
 simp only[drfTC]at h
 split at h
 ·rename_i a t0 t
  have h:k (.tup [.int .i64 (V1 a t0 t).1,.int .i64 (V1 a t0 t).2]) []:=h
  refine⟨[.agg [.int .i64 a,.int .i64 t0,.int .i64 t]],by simp [leL,le],?_⟩
  dsimp only[v11,RY3,Yk,chkSC,kelC,Q.rflrC,go_sem,reduceIte,Ya]
  simp only[Yd,Ya,Ye,reduceCtorEq,Yc]
  refine⟨fun hh=>?_,fun hS=>?_⟩
  ·rw[V1,if_neg hh]at h
   exact WL h
  ·rw[V1,if_pos hS]at h
   obtain⟨ha,hb0,hb1⟩:=WO hS
   obtain⟨d1,d2,d3,d4⟩:=Ygy hb0 hb1 rfl
   have ht:=QL hb1
   have ht0:=QL hb0
   refine⟨hb1,hb0,by decide,[(273150+t,1),(273150+t0, -1)],XZ t0 t,⟨⟨rfl,rfl,fun q hq=>?_⟩,fun x hx=>?_,by decide,by decide,fun x hx=>?_,d1,d2,d3,d4⟩,by decide,by decide,by decide,WL h⟩
   ·rcases(show q=0\/q=1 by omega)with rfl|rfl <;> exact YW _
   ·simp only[Kz,Z3,or_false]at hx
    simp only[JB,K5,decide_eq_false_iff_not]
    rcases hx with rfl|rfl <;> simp only <;> omega
   ·simp only[KH,Vf,J5,Kz,Z3,or_false]at hx
    unfold okU
    rcases hx with rfl|rfl <;> simp only <;> omega
 ·exact h.1.elim
def v6:VF:=⟨51,[.tmp 8,.tmp 9],(ZR [u1 4 .box [.tm 0],u1 5 .box [.tm 1],u1 8 .mov [.cn .nil],Zi 9 0] (ZR [Zt 15 3 4,Zt 16 27 5,Zd 17 19 15 16,Zm 14 17,Ze 18 0 14,Ze 19 1 14,Zm 10 18,Zm 11 19] (.seq (ZR [Zm 20 11,Zq 21 .neq 20 0] (ZC 21 (ZR [Zm 22 11,u1 8 .mov [.cn .nil],Zm 9 22] .ret) .skip)) (.seq (ZR [Zm 23 2,Zc 24 20 23,u1 25 .not [.tm 24],Zm 26 25,Zg 27 26 false 3,u2 28 26 false (.call 20) [.tm 27],u2 29 26 false .not [.tm 28],u1 30 .or [.tm 26,.tm 29],Zm 31 30,Zg 32 31 false 2,Zg 33 31 false 3,u2 34 31 false (.cmp .gtr) [.tm 32,.tm 33],u1 35 .or [.tm 31,.tm 34]] (ZC 35 (ZR [u1 8 .mov [.cn .nil],Zi 9 2] .ret) .skip)) (ZR [u1 12 .mov [.cn .nil]] (.seq (ZR [Zm 36 2,Zm 13 36] (.block 0 (.loop (.seq (ZR [Zm 37 13,Zm 38 3,Zr 39 .leq 37 38] (ZC 39 .skip (.exit 0))) (.seq (.block 1 (.region [Zm 42 12,Zm 43 10,Zm 44 13,Za 45 0 4,Zf 46 1 45,u1 47 (.call 21) [.tm 43,.tm 44,.tm 46],u1 48 (.buildSlice 2 1 Z2 [(0,2)]) [.tm 47],u1 49 (.append 2 16 Z2) [.tm 42,.tm 48],Zm 12 49])) (.region [Zm 40 13,Zp 41 40 1,Zm 13 41])))))) (ZR [Zm 50 12,Zm 8 50,Zi 9 0] .ret)))))))⟩
theorem Yqo:Yn Yb Tryz.f6=some v6:=by kernel_rfl
def v7:VF:=⟨47,[.tmp 8,.tmp 9],(ZR [u1 4 .box [.tm 0],u1 5 .box [.tm 1],u1 8 .mov [.cn .nil],Zi 9 0] (ZR [Zt 15 3 4,Zt 16 27 5,Zm 17 2,u1 18 (.call 22) [.tm 15,.tm 16,.tm 17],Zm 10 18] (.seq (ZR [Zm 19 10,Zq 20 .neq 19 0] (ZC 20 (ZR [Zm 21 10,u1 8 .mov [.cn .nil],Zm 9 21] .ret) .skip)) (.seq (ZR [Zm 22 3,Zm 23 2,Zr 24 .lss 22 23,Zm 25 24,Zg 26 25 false 3,u2 27 25 false (.cmp .gtr) [.tm 26,.cn (.int .i64 139)],u1 28 .or [.tm 25,.tm 27]] (ZC 28 (ZR [u1 8 .mov [.cn .nil],Zi 9 2] .ret) .skip)) (ZR [u1 11 .mov [.cn .nil]] (.seq (ZR [Zm 29 2,Zm 12 29] (.block 0 (.loop (.seq (ZR [Zm 30 12,Zm 31 3,Zr 32 .leq 30 31] (ZC 32 .skip (.exit 0))) (.seq (.block 1 (ZR [Zt 36 3 4,Zt 37 27 5,Zm 38 12,u1 39 (.call 23) [.tm 36,.tm 37,.tm 38],Zm 35 39,Ze 40 0 35,Ze 41 1 35,u1 13 (.alloc Z2) [],Zs 2 13 40,Zm 14 41] (.region [Zm 42 11,Zt 43 2 13,u1 44 (.buildSlice 2 1 Z2 [(0,2)]) [.tm 43],u1 45 (.append 2 16 Z2) [.tm 42,.tm 44],Zm 11 45]))) (.region [Zm 33 12,Zp 34 33 1,Zm 12 34])))))) (ZR [Zm 46 11,Zm 8 46,Zi 9 0] .ret)))))))⟩
theorem Yqy:Yn Yb Tryz.f7=some v7:=by kernel_rfl
def Qp(a t0 t:Int)(T:Tm)(low high:Int):Int:=if J0 a t0 t≠0 then J0 a t0 t else if Ke T≠0 then Ke T else if low<0\/139<low\/high<0\/139<high\/high<low then 2 else 0
def Vb(a t0 t:Int)(T:Tm)(low high:Int):List (Int×Int):=if Qp a t0 t T low high≠0 then []else(List.range (high-low+1).toNat).map fun k:Nat=>X0 (YR T) t0 t (low+k) a
def tab6C:Ctr:={ alias:=false,of:=fun l=>match l with
 | [.agg [.int .i64 a,.int .i64 t0,.int .i64 t],.agg cs,.int .i64 low,.int .i64 high]=> .ex Tm fun T=> .pre (cs=YZ T/\T.nm.size<=9223372036854775807) (.all Bool fun z=> .fin (.tup [.vs true z (Vb a t0 t T low high).length 2 (fun k=>Yw ((Vb a t0 t T low high).getD k default)),.int .i64 (Qp a t0 t T low high)]) [])
 |_=>noC}
theorem YaD(i:Nat)(T:Tm):YU i (YZ T)=YZ T:=rfl
theorem NK{a t0 t:Int}{T:Tm}{low high:Int}(h:Qp a t0 t T low high≠0):Vb a t0 t T low high=[]:=if_pos h
theorem PX{a t0 t:Int}{T:Tm}{low high:Int}(h:Qp a t0 t T low high=0):(Vb a t0 t T low high).length=(high-low+1).toNat/\∀k:Nat,k<(high-low+1).toNat->(Vb a t0 t T low high).getD k default=X0 (YR T) t0 t (low+k) a:=by
 have e:Vb a t0 t T low high=(List.range (high-low+1).toNat).map fun k:Nat=>X0 (YR T) t0 t (low+k) a:=if_neg (by rw[h];decide)
 rw[e]
 refine⟨by simp,fun k hk=>?_⟩
 rw[Kh,List.getElem?_map,List.getElem?_range hk];rfl
def RZ0:Env:=mkE [(21,freqC),(30,chkSC),(45,NotC)] [(19,v19),(20,v20)]
theorem Yei:YD Yb RZ0:=eo (by kernel_rfl) ⟨⟨T4,_,Tryz.func21,rfl,rfl⟩,⟨C9,_,Tryz.func30,rfl,rfl⟩,⟨Rz,_,Tryz.func45,rfl,rfl⟩,trivial⟩ ⟨⟨_,Tryz.func19,Ydl,_,Tryz.func19,rfl,rfl⟩,⟨_,Tryz.func20,Ydm,_,Tryz.func20,rfl,rfl⟩,trivial⟩
theorem Yov:tab6C.ok Yb 6:=by
 refine Yy Tryz.func6 Yqo Yei 900 tab6C fun args k h=>?_
 simp only[tab6C]at h
 split at h
 ·rename_i a t0 t cs low high
  obtain⟨T,⟨rfl,hnm⟩,h⟩:=h
  refine⟨[.agg [.int .i64 a,.int .i64 t0,.int .i64 t],.agg (YZ T),.int .i64 low,.int .i64 high],⟨⟨⟨rfl,rfl⟩,⟨rfl,rfl⟩,⟨rfl,rfl⟩,trivial⟩,YN _ (KU T _),⟨rfl,rfl⟩,⟨rfl,rfl⟩,trivial⟩,?_⟩
  have h:∀z:Bool,k (.tup [.vs true z (Vb a t0 t T low high).length 2 (fun k=>Yw ((Vb a t0 t T low high).getD k default)),.int .i64 (Qp a t0 t T low high)]) []:=h
  dsimp only[v6,QA,J4,RZ0,Yk,v19,v20,freqC,chkSC,NotC,go_sem,reduceIte,Ya]
  simp only[Yd,Ya,Ye,reduceCtorEq,Yc]
  refine⟨QT T,QT T,fun hS=>⟨by decide,by decide,fun _=>?_,fun hh=>absurd hh hS⟩,fun hS=>?_⟩
  ·have e:Qp a t0 t T low high=J0 a t0 t:=if_pos hS
   have e0:=NK (a:=a) (t0:=t0) (t:=t) (T:=T) (low:=low) (high:=high) (by rw[e];exact hS)
   rw[e,e0]at h
   refine Kv (h true) ?_ ?_
   ·simp [JT,JX,Jw,viewN,le,leL]
   ·intro _;simp [Y3,Y5]
  refine⟨T,⟨rfl,hnm⟩,?_⟩
  by_cases hT:Ke T=0
  ·rw[if_neg (fun hh=>hh hT)]
   dsimp only[QA,J4,RZ0,Yk,v19,v20,freqC,chkSC,NotC,go_sem,reduceIte,Ya]
   simp only[Yd,Ya,Ye,reduceCtorEq,Yc]
   have bad:(low<0\/139<low\/high<0\/139<high\/high<low)->∀z:Bool,k (.tup [.vs true z ([]:List (Int×Int)).length 2 (fun q=>Yw (([]:List (Int×Int)).getD q default)),.int .i64 2]) []:=fun hb z=>by
    have e:Qp a t0 t T low high=2:=by rw[Qp,if_neg (fun hh=>hh hS),if_neg (fun hh=>hh hT),if_pos hb]
    have e0:=NK (a:=a) (t0:=t0) (t:=t) (T:=T) (low:=low) (high:=high) (by rw[e];decide)
    have h:=h z
    rw[e,e0]at h
    exact h
   refine⟨by decide,by decide,fun hh=>absurd trivial hh,by decide,by decide,fun hh=>absurd trivial hh,fun hc=>⟨fun hd=>?_,fun hd=>?_⟩,fun hc=>⟨hc,.bool false,?_⟩⟩
   ·refine Kv (bad ?_ true) ?_ ?_
    ·simp only[YS,Qj,ZY,Wn,decide_eq_true_eq,decide_eq_false_iff_not]at hc hd;omega
    ·simp [JT,JX,Jw,viewN,le,leL]
    ·intro _;simp [Y3,Y5]
   ·simp only[K5,YS,Bool.not_eq_false',decide_eq_true_eq,decide_eq_false_iff_not]at hc hd
    have e:Qp a t0 t T low high=0:=by rw[Qp,if_neg (fun hh=>hh hS),if_neg (fun hh=>hh hT),if_neg (by omega)]
    obtain⟨e1,e2⟩:=PX e
    obtain⟨ha,hb0,hb1⟩:=WO hS
    rw[e,e1]at h
    refine Loop.keep [3,0,5] (Nat×Bool) (fun s=>[(12,.own 5 0 s.1 2),(13,.int .i64 (low+(s.1:Int)))]) (fun s=>[(5,.own s.2 2 s.1 (fun k=>Yw (X0 (YR T) t0 t (low+(k:Int)) a)))]) [.gone] (fun s=>s.1<=(high-low+1).toNat/\(s.2=true->s.1=0)) (fun s=>(high-low+1).toNat-s.1) ?_ ?_
    ·refine⟨(0,true),⟨JJ _,fun _=>rfl⟩,?_⟩
     dsimp only[go_sem,reduceIte,Ya]
     simp only[Yf]
     exact⟨⟨by decide,by decide,by decide,(Zb low).symm⟩,YN _ (KU T _),YN _ (KU T _)⟩
    ·rintro⟨i,z1⟩ ⟨hi,hz⟩
     replace hi:i<=(high-low+1).toNat:=hi
     replace hz:z1=true->i=0:=hz
     dsimp only[QA,J4,RZ0,Yk,v19,v20,freqC,chkSC,NotC,Yw,go_sem,reduceIte,Ya]
     simp only[Yd,Ya,Ye,reduceCtorEq,Yc]
     refine⟨fun hlt=>⟨YR T,⟨fun q _=>YW _,⟨by omega,by omega⟩,hb0,hb1⟩,by decide,⟨by unfold Y8;omega,fun q hq=>match q,hq with|0,_=>⟨rfl,trivial,trivial,trivial⟩⟩,(i+1,false),⟨by show i+1<=_;omega,fun h0=>by cases h0⟩,by show _-(i+1)<_;omega,?_⟩,fun hge=>?_⟩
     ·rw[Yg (low+(i:Int)+1) (by omega)]
      simp only[YaD,Yf]
      refine⟨⟨by decide,by decide,by decide,by omega⟩,YN _ (KU T _),YN _ (KU T _),by cases z1 <;> rfl,fun q hq=>?_⟩
      by_cases cq:q<i
      ·rw[if_pos cq];exact YN [.int _ _,.int _ _] ⟨trivial,trivial,trivial⟩
      ·obtain rfl:q=i:=by omega
       rw[if_neg cq,Nat.sub_self]
       exact YN [.int _ _,.int _ _] ⟨trivial,trivial,trivial⟩
     ·obtain rfl:i=(high-low+1).toNat:=by omega
      refine Kv (h z1) ?_ ?_
      ·dsimp only[JT,Yw,go_sem,reduceIte,Ya]
       simp only[Yf]
       intro q hq
       rw[e2 q hq]
       exact YW _
      ·intro _;simp [Y3,Y5,Yw]
   ·dsimp only[QA,J4,RZ0,Yk,v19,v20,freqC,chkSC,NotC,go_sem,reduceIte,Ya]
    simp only[Yd,Ya,Ye,reduceCtorEq,Yc]
    refine⟨fun hd=>?_,fun hd=>?_⟩
    ·refine Kv (bad ?_ true) ?_ ?_
     ·simp only[Wn,decide_eq_false_iff_not]at hc;omega
     ·simp [JT,JX,Jw,viewN,le,leL]
     ·intro _;simp [Y3,Y5]
    ·rw[hc]at hd
     simp at hd
  ·have e:Qp a t0 t T low high=Ke T:=by rw[Qp,if_neg (fun hh=>hh hS),if_pos hT]
   have e0:=NK (a:=a) (t0:=t0) (t:=t) (T:=T) (low:=low) (high:=high) (by rw[e];exact hT)
   rw[e,e0]at h
   rw[if_pos hT]
   dsimp only[QA,J4,RZ0,Yk,v19,v20,freqC,chkSC,NotC,go_sem,reduceIte,Ya]
   simp only[Yd,Ya,Ye,reduceCtorEq,Yc]
   refine⟨by decide,by decide,fun _=>⟨by decide,by decide,fun _=>?_,fun hh=>absurd hh hT⟩,fun hh=>absurd hh hT⟩
   refine Kv (h true) ?_ ?_
   ·simp [JT,JX,Jw,viewN,le,leL]
   ·intro _;simp [Y3,Y5]
 ·exact h.1.elim
def RZ1:Env:=mkE [(32,chkSC),(34,chk5A),(23,frq6C)] [(22,v22)]
theorem Yej:YD Yb RZ1:=eo (by kernel_rfl) ⟨⟨C7,_,Tryz.func32,rfl,rfl⟩,⟨C6,_,Tryz.func34,rfl,rfl⟩,⟨Yne,_,Tryz.func23,rfl,rfl⟩,trivial⟩ ⟨⟨_,Tryz.func22,Ydn,_,Tryz.func22,rfl,rfl⟩,trivial⟩
theorem Ynu:tab6C.ok Yb 7:=by
 refine Yy Tryz.func7 Yqy Yej 900 tab6C fun args k h=>?_
 simp only[tab6C]at h
 split at h
 ·rename_i a t0 t cs low high
  obtain⟨T,⟨rfl,hnm⟩,h⟩:=h
  refine⟨[.agg [.int .i64 a,.int .i64 t0,.int .i64 t],.agg (YZ T),.int .i64 low,.int .i64 high],⟨⟨⟨rfl,rfl⟩,⟨rfl,rfl⟩,⟨rfl,rfl⟩,trivial⟩,YN _ (KU T _),⟨rfl,rfl⟩,⟨rfl,rfl⟩,trivial⟩,?_⟩
  have h:∀z:Bool,k (.tup [.vs true z (Vb a t0 t T low high).length 2 (fun k=>Yw ((Vb a t0 t T low high).getD k default)),.int .i64 (Qp a t0 t T low high)]) []:=h
  have bad:∀x:Int,x≠0->Qp a t0 t T low high=x->∀z:Bool,k (.tup [.vs true z ([]:List (Int×Int)).length 2 (fun q=>Yw (([]:List (Int×Int)).getD q default)),.int .i64 x]) []:=fun x hx e z=>by
   have e0:=NK (a:=a) (t0:=t0) (t:=t) (T:=T) (low:=low) (high:=high) (by rw[e];exact hx)
   have h:=h z
   rw[e,e0]at h
   exact h
  dsimp only[v7,QA,J4,RZ1,Yk,v22,chkSC,chk5A,frq6C,go_sem,reduceIte,Ya]
  simp only[Yd,Ya,Ye,reduceCtorEq,Yc]
  have nilA:∀{x:Int}{hp:List HO},x≠0->Qp a t0 t T low high=x->Jz tab6C.alias k (SV.tup [SV.nil,SV.int IntKind.i64 x]) hp:=fun hx e=>by
   refine Kv (bad _ hx e true) ?_ ?_
   ·simp [JT,JX,Jw,viewN,le,leL]
   ·intro _;simp [Y3,Y5]
  have c2:∀{a t0 t:Int},J0 a t0 t≠0->J0 a t0 t=2:=fun {a t0 t} h=>by
   unfold J0 at h⊢
   split
   ·rfl
   ·rename_i hn;rw[if_neg hn]at h;exact absurd rfl h
  refine⟨QT T,QT T,fun hS=>⟨fun _=>nilA (by decide) ?_,fun hh=>absurd hh (by decide)⟩,fun hS=>⟨T,⟨rfl,hnm⟩,fun u v=>by rw[decide_eq_true u,decide_eq_false v];rfl,fun hc=>⟨fun _=>nilA (by decide) ?_,fun hh=>absurd hh (by decide)⟩,fun hc=>⟨fun hT=>nilA hT ?_,fun hT=>⟨fun hd=>nilA (by decide) ?_,fun hd=>?_⟩⟩⟩⟩
  ·rw[Qp,if_pos hS];exact c2 hS
  ·simp only[YS,Qj,decide_eq_true_eq]at hc
   rw[Qp,if_neg (fun hh=>hh hS),if_neg (fun hh=>hh hc.1),if_pos (by omega)]
  ·rw[Qp,if_neg (fun hh=>hh hS),if_pos hT]
  ·rw[hT,decide_eq_true (show(0:Int)=0 from rfl)]at hc
   simp only[Bool.true_and,K5,Qj,decide_eq_true_eq,decide_eq_false_iff_not]at hc hd
   rw[Qp,if_neg (fun hh=>hh hS),if_neg (fun hh=>hh hT),if_pos (by omega)]
  ·rw[hT,decide_eq_true (show(0:Int)=0 from rfl)]at hc
   simp only[Bool.true_and,K5,decide_eq_false_iff_not]at hc hd
   have e:Qp a t0 t T low high=0:=by rw[Qp,if_neg (fun hh=>hh hS),if_neg (fun hh=>hh hT),if_neg (by omega)]
   obtain⟨e1,e2⟩:=PX e
   rw[e,e1]at h
   refine Loop.keep [3,0,0] (Nat×Bool) (fun s=>[(11,.own 4 0 s.1 2),(12,.int .i64 (low+(s.1:Int)))]) (fun s=>[(4,.own s.2 2 s.1 (fun k=>Yw (X0 (YR T) t0 t (low+(k:Int)) a)))]) [.gone] (fun s=>s.1<=(high-low+1).toNat/\(s.2=true->s.1=0)) (fun s=>(high-low+1).toNat-s.1) ?_ ?_
   ·refine⟨(0,true),⟨JJ _,fun _=>rfl⟩,?_⟩
    dsimp only[go_sem,reduceIte,Ya]
    simp only[Yf]
    exact⟨⟨by decide,by decide,by decide,(Zb low).symm⟩,YN _ (KU T _),YN _ (KU T _)⟩
   ·rintro⟨i,z1⟩ ⟨hi,hz⟩
    replace hi:i<=(high-low+1).toNat:=hi
    replace hz:z1=true->i=0:=hz
    dsimp only[QA,J4,RZ1,Yk,v22,chkSC,chk5A,frq6C,Yw,go_sem,reduceIte,Ya]
    simp only[Yd,Ya,Ye,reduceCtorEq,Yc]
    refine⟨fun hlt=>⟨T,⟨rfl,hnm,hS,hT,by omega,by omega⟩,by decide,by decide,by decide,⟨by unfold Y8;omega,fun q hq=>match q,hq with|0,_=>⟨rfl,trivial,trivial,trivial⟩⟩,(i+1,false),⟨by show i+1<=_;omega,fun h0=>by cases h0⟩,by show _-(i+1)<_;omega,?_⟩,fun hge=>?_⟩
    ·rw[Yg (low+(i:Int)+1) (by omega)]
     simp only[YaD,Yf]
     refine⟨⟨by decide,by decide,by decide,by omega⟩,YN _ (KU T _),YN _ (KU T _),by cases z1 <;> rfl,fun q hq=>?_⟩
     by_cases cq:q<i
     ·rw[if_pos cq];exact YN [.int _ _,.int _ _] ⟨trivial,trivial,trivial⟩
     ·obtain rfl:q=i:=by omega
      rw[if_neg cq,Nat.sub_self]
      exact YN [.int _ _,.int _ _] ⟨trivial,trivial,trivial⟩
    ·obtain rfl:i=(high-low+1).toNat:=by omega
     refine Kv (h z1) ?_ ?_
     ·dsimp only[JT,Yw,go_sem,reduceIte,Ya]
      simp only[Yf]
      intro q hq
      rw[e2 q hq]
      exact YW _
     ·intro _;simp [Y3,Y5,Yw]
 ·exact h.1.elim
def v3:VF:=⟨130,[.tmp 6],(ZR [u1 3 .box [.tm 0],u1 4 .box [.tm 1],u1 6 .mov [.cn (.bool false)]] (.seq (.draw [] [w1 20 (.idxArr 2 1) [.tm 4,.cn (.int .i64 0)],Zv 21 1 20,w1 22 (.idxArr 2 1) [.tm 4,.cn (.int .i64 1)],Zv 23 1 22,Zu 7 21,Zu 8 23]) (.seq (ZR [Zm 24 7,Zq 25 .geq 24 0,Zm 26 25,Zg 27 26 true 8,u2 28 26 true (.cmp .leq) [.tm 27,.cn (.int .i64 139)],u1 29 .and [.tm 26,.tm 28],Zm 30 29,Zg 31 30 true 7,Zg 32 30 true 8,u2 33 30 true (.cmp .leq) [.tm 31,.tm 32],u1 34 .and [.tm 30,.tm 33],Zm 35 34,Zg 36 35 true 8,Zg 37 35 true 7,u2 38 35 true (.ari .sub) [.tm 36,.tm 37],u2 39 35 true (.cmp .gtr) [.tm 38,.cn (.int .i64 12)],u1 40 .and [.tm 35,.tm 39]] (ZC 40 (ZR [u1 41 (.call 5) [],Zm 6 41] .ret) .skip)) (ZR [Za 43 0 3,Zt 44 3 43,Za 45 3 3,Zt 46 27 45,Zm 47 7,Zm 48 8,u1 49 (.call 6) [.tm 44,.tm 46,.tm 47,.tm 48],Zm 42 49,Ze 50 0 42,Ze 51 1 42,Zm 9 50,Zm 10 51] (ZR [Za 53 0 3,Zt 54 3 53,Za 55 3 3,Zt 56 27 55,Zm 57 7,Zm 58 8,u1 59 (.call 7) [.tm 54,.tm 56,.tm 57,.tm 58],Zm 52 59,Ze 60 0 52,Ze 61 1 52,Zm 11 60,Zm 12 61] (.seq (ZR [Zm 62 9,Zl 63 62,Zm 64 11,Zl 65 64,Zr 66 .neq 63 65,Zm 67 66,Zg 68 67 false 10,Zg 69 67 false 12,u2 70 67 false (.cmp .neq) [.tm 68,.tm 69],u1 71 .or [.tm 67,.tm 70]] (ZC 71 (ZR [u1 6 .mov [.cn (.bool false)]] .ret) .skip)) (.seq (ZR [Zi 13 0] (.block 0 (.loop (.seq (ZR [Zm 72 13,Zm 73 9,Zl 74 73,Zr 75 .lss 72 74] (ZC 75 .skip (.exit 0))) (.seq (.block 1 (.seq (.draw [] [Zu 78 9,Zu 79 13,ZX 80 2 78 79,Zw 81 2 80,Zu 82 11,Zu 83 13,ZX 84 2 82 83,Zw 85 2 84,w1 86 (.eqv true [true,true]) [.tm 81,.tm 85]]) (ZC 86 (ZR [u1 6 .mov [.cn (.bool false)]] .ret) .skip))) (.region [Zm 76 13,Zp 77 76 1,Zm 13 77])))))) (ZR [Zm 88 2,Zc 89 8 88,Zm 87 89,Ze 90 0 87,Ze 91 1 87,u1 14 (.alloc Z2) [],Zs 2 14 90,Zm 10 91] (ZR [Zm 93 2,Zc 94 9 93,Zm 92 94,Ze 95 0 92,Ze 96 1 92,u1 15 (.alloc Z2) [],Zs 2 15 95,Zm 12 96] (ZR [Za 98 0 3,Zt 99 3 98,Zc 100 10 99,Zm 97 100,Ze 101 0 97,Ze 102 1 97,Zm 16 101,Zm 17 102] (ZR [Za 104 0 3,Zt 105 3 104,Zc 106 11 105,Zm 103 106,Ze 107 0 103,Ze 108 1 103,Zm 18 107,Zm 19 108] (ZR [Zt 109 2 14,Zt 110 2 15,u1 111 (.eqv false [true,true]) [.tm 109,.tm 110],Zm 112 111,Zg 113 112 true 10,Zg 114 112 true 12,u2 115 112 true (.cmp .eql) [.tm 113,.tm 114],u1 116 .and [.tm 112,.tm 115],Zm 117 116,Zg 118 117 true 16,Zg 119 117 true 18,u2 120 117 true (.cmp .eql) [.tm 118,.tm 119],u1 121 .and [.tm 117,.tm 120],Zm 122 121,Zg 123 122 true 17,Zg 124 122 true 19,u2 125 122 true (.cmp .eql) [.tm 123,.tm 124],u1 126 .and [.tm 122,.tm 125],Zm 127 126,u2 128 127 true (.call 5) [],u1 129 .and [.tm 127,.tm 128],Zm 6 129] .ret))))))))))))⟩
theorem YpT:Yn Yb Tryz.f3=some v3:=by kernel_rfl
def LTe:Env:=mkE [(6,tab6C),(7,tab6C),(8,speedC),(9,speedC),(10,drfTC),(11,drfTC),(5,trueC)] []
theorem YdM:YD Yb LTe:=eo (by kernel_rfl) ⟨⟨Yov,_,Tryz.func6,rfl,rfl⟩,⟨Ynu,_,Tryz.func7,rfl,rfl⟩,⟨Yn5,_,Tryz.func8,rfl,rfl⟩,⟨Yns,_,Tryz.func9,rfl,rfl⟩,⟨YgA,_,Tryz.func10,rfl,rfl⟩,⟨YmW,_,Tryz.func11,rfl,rfl⟩,⟨Yfl,_,Tryz.func5,rfl,rfl⟩,trivial⟩ trivial
theorem Yow(a t0 t:Int)(T:Tm)(low high:Int):(Vb a t0 t T low high).length<=140:=by
 by_cases e:Qp a t0 t T low high=0
 ·rw[(PX e).1]
  unfold Qp at e
  split at e
  ·contradiction
  ·split at e
   ·contradiction
   ·split at e
    ·cases e
    ·omega
 ·rw[NK e];simp
theorem YiA:(Ld [⟨true,PG⟩,⟨true,[.int .i64,.int .i64]⟩,⟨false,[.int .i64]⟩]).ok Yb 3:=by
 refine Yy Tryz.func3 YpT YdM 900 (Ld [⟨true,PG⟩,⟨true,[.int .i64,.int .i64]⟩,⟨false,[.int .i64]⟩]) fun args k h=>?_
 obtain⟨ha,hk⟩:=h
 obtain⟨_,_,rfl,h1,e1⟩:=LQ ha
 obtain⟨cs,rfl,g1⟩:=O4 h1
 obtain⟨a,t0,t,T,rfl,hnm⟩:=YfX g1
 obtain⟨_,_,rfl,h2,e2⟩:=LQ e1
 obtain⟨cs2,rfl,g2⟩:=O4 h2
 obtain⟨low,r1,rfl,g3⟩:=Ju g2
 obtain⟨high,r2,rfl,g4⟩:=Ju g3
 cases O6 g4
 obtain⟨_,_,rfl,h3,e3⟩:=LQ e2
 obtain⟨temp,rfl,hw⟩:=O7 (YkA h3)
 cases Ykz e3
 have hk':k (.bool true) []:=hk
 have hm:T.nm.size<=9223372036854775807:=Yh hnm (by unfold maxLen;decide)
 refine⟨[.agg (C3 a t0 t T),.agg [.int .i64 low,.int .i64 high],.int .i64 temp],?_,?_⟩
 ·refine⟨YN _ ⟨trivial,trivial,trivial,?_⟩,⟨⟨rfl,rfl⟩,⟨rfl,rfl⟩,trivial⟩,⟨rfl,rfl⟩,trivial⟩
  exact KU T _
 dsimp only[v3,C3,QA,J4,LTe,Yk,tab6C,speedC,drfTC,trueC,go_sem,reduceIte,Ya]
 simp only[Yd,Ya,Ye,reduceCtorEq,Yc]
 simp only[vw_T]
 refine⟨QT T,by decide,by decide,fun _=>QF hk',fun hc=>⟨T,⟨rfl,hm⟩,fun y1=>⟨by decide,by decide,T,⟨rfl,hm⟩,fun y2=>⟨by decide,by decide,fun hd=>?_,fun hd=>?_⟩⟩⟩⟩
 ·simp at hd
 clear hc hd
 have hlen:=Yow a t0 t T low high
 obtain⟨A,hA⟩:∃A,A=Vb a t0 t T low high:=⟨_,rfl⟩
 rw[<-hA]at hlen⊢
 refine Loop.keep [2,0,5,1] Nat (fun i=>[(13,.int .i64 i)]) (fun _=>[]) [] (fun i=>i<=A.length) (fun i=>A.length-i) ?_ ?_
 ·refine⟨0,JJ _,?_⟩
  dsimp only[go_sem,reduceIte,Ya]
  simp only[Yf]
  exact⟨⟨by decide,rfl⟩,YN _ (KU T _)⟩
 ·rintro i hi
  dsimp only[Yj,Yw,QA,J4,LTe,Yk,tab6C,speedC,drfTC,trueC,go_sem,reduceIte,Ya]
  simp only[Yd,Ya,Ye,reduceCtorEq,Yc]
  refine⟨fun hlt=>⟨⟨by omega,by omega⟩,⟨by omega,by omega⟩,fun hh=>?_,fun _=>⟨i+1,by omega,by omega,?_⟩⟩,fun hge=>⟨by decide,by decide,by decide,by decide,by decide,by decide,by decide,by decide,?_⟩⟩
  ·simp at hh
  ·rw[FR (i:=i) (n:=A.length) (by omega) (by omega)]
   simp only[Yf]
   exact⟨by decide,YN _ (KU T _)⟩
  ·simp only[decide_true,Bool.and_true]
   exact QF hk'
end Go.Proofs.YtlhmikjnholpnaaGreatDoor
namespace Go.Vx
open Go Go.RowKit Go.ChangeShapes Go.WideShapes Go.ChangeAt Go.WideMaps Go.WideElems
def primesL:List Int:=[2,3,5,7,11,13]
def GH:DataW Unit:= .agg [.lit (.int .i64 2),.lit (.int .i64 3),.lit (.int .i64 5),.lit (.int .i64 7),.lit (.int .i64 11),.lit (.int .i64 13)]
theorem Yhu{P:Program}{W:World}{g:Nat}{T el:TypeId}(hg:P.globalNamed "quintadena/ratios.primes" =some g)(hT:(P.globals[g]?).map (·.type)=some T)
 (hu:P.underlying T=some (.array 6 el)) (he:P.underlying el=some (.int .i64)) (hc:P.cellsOf el=1) (hp:laidMetH P [("quintadena/ratios.primes",GH)] W):
 Cells W g 0 (MF primesL):=by
 rw[MakeChecks.laidMetH_plain _ _ _ (by kernel_rfl)]at hp
 obtain⟨ps,⟨g1,t1,cs1,f1,p1,q1,hg1,ht1,hv1,hd1,h1⟩,h2⟩:=hp
 obtain rfl:=Option.some.inj (hg.symm.trans hg1)
 obtain rfl:=Option.some.inj (hT.symm.trans ht1)
 obtain⟨xs,m1,rfl,hx1,hlen,hn3,hel⟩:=DataW.trod_array hu hd1
 have hcell:∀k,k<6->cs1[k]? =some (.int .i64 (primesL.getD k 0)):=by
  intro k hk
  have h3:=hel k hk
  obtain⟨x,hx⟩:∃x,xs[k]? =some x:=⟨xs[k]'(by omega),by simp⟩
  rw[hx,hc,Y0]at h3
  obtain⟨v,e1,e2,_⟩:=DataW.trod_int he h3
  have e3:(cs1.toList.drop k)[0]? =some (.int .i64 v):=by
   have:((cs1.toList.drop k).take 1)[0]? =some (.int .i64 v):=by rw[e1];rfl
   simpa using this
  have e4:cs1[k]? =some (.int .i64 v):=by simpa using e3
  rw[e4]
  simp only[Prod.mk.injEq]at hx1
  have e5:(DataW.lit (.int .i64 (primesL.getD k 0)):DataW Unit)=x.1:=by
   have e6:(xs.map (·.1))[k]? =some x.1:=by simp [hx]
   have e7:=hx1.1
   simp only[GH,DataW.agg.injEq]at e7
   rw[<-e7]at e6
   match k,hk,e6 with
   |0,_,e6|1,_,e6|2,_,e6|3,_,e6|4,_,e6|5,_,e6=>exact Option.some.inj e6
  rw[e2]at e5
  simp only[DataW.lit.injEq,Lit.int.injEq]at e5
  rw[e5.2]
 unfold World.var? at hv1
 rw[hg]at hv1
 simp only[Option.bind_some]at hv1
 split at hv1
 ·rename_i cs T' fz ho
  cases hv1
  refine⟨cs1,T',fz,ho,fun j v hj=>?_⟩
  have hj6:j<6:=by
   have:=(UY.1 hj).1
   simpa [MF,primesL]using this
  rw[KJ,hcell j hj6]
  match j,hj6,hj with
  |0,_,hj|1,_,hj|2,_,hj|3,_,hj|4,_,hj|5,_,hj=>exact hj
 ·cases hv1
theorem YiB{g:Nat}{T el:TypeId}{C:Checked}{f:FuncId}{fn:Func}{s:ChangeSpec}{dom:List PathCond}{os:Os}{H:Type}{enc:TypeId×Value->H}{shs:List PSh}{tb:TypeId}
 (own:ownKnob C.prog.godebug=none)(started:os.Started)(noInit:C.prog.inits.idxOf? f=none)(hfn:C.prog.funcs[f]? =some fn)(hl:laidOutB C.prog=true)
 (witness:∃(w:World) (tape:Tape) (i:Input),w.os=os/\(w.forCall tape i).Shaped C.prog/\i.vars=[]/\Input.okWide C.prog (w.forCall tape i) .any w.heap.size f i/\
   ((s.pre enc C.prog fn dom false (w.forCall tape i).memory i.args/\laidMetH C.prog [("quintadena/ratios.primes",GH)] (w.forCall tape i).memory)/\sizedMet enc C.prog fn (OpenSpec.ofChange s) false (w.forCall tape i).memory i.args)/\({}:Assume).holds C.prog (lone (Frame.enter C.prog f i.args .normal) [] (w.forCall tape i)))
 (hsh:M5 C.prog fn.params.toList=some shs)(hread:Pm C.prog fn.params.toList=true)(hres:fn.resultTypes.toList=[tb])(htb:C.prog.underlying tb=some .bool)(hvars:s.vars=[])
 (hspec:∀ds:List (DataW H),ds.length=fn.params.toList.length->(s.fn H ds).results=[.lit (.bool true)]/\(s.fn H ds).args=ds/\(s.fn H ds).vars=[])(hc:(Ld shs).ok C.prog f)(hg:C.prog.globalNamed "quintadena/ratios.primes" =some g)(hT:(C.prog.globals[g]?).map (·.type)=some T) (hu:C.prog.underlying T=some (.array 6 el)) (he:C.prog.underlying el=some (.int .i64)) (hce:C.prog.cellsOf el=1):
 ReturnsInHanded {} C os f .any (fun w args=>(s.pre enc C.prog fn dom false w args/\laidMetH C.prog [("quintadena/ratios.primes",GH)] w)/\sizedMet enc C.prog fn (OpenSpec.ofChange s) false w args) (s.post enc C.prog fn false true false false):=by
 refine returnsInHanded_of_change_and (X:=fun w _=>laidMetH C.prog [("quintadena/ratios.primes",GH)] w) (fun _ _ _ hh h=>h.of_heap hh) own started noInit hfn witness ?_
 intro W base args ds gs before hval hW hcnd _ hL _
 obtain⟨p,q,hA,hV,hbef,hfz,hnd⟩:=id hW
 have hlen:=Ycu hA
 rw[hvars]at hV
 obtain⟨rfl,rfl⟩:=trodVars_none hV
 obtain⟨svs,k1,k2⟩:=Yah (B:=W.heap.size) hsh (fun j t v ht hv=>hval j t v (by simpa using ht) (by simpa using hv)) hA
 have hcall:=hc svs args.toList (cx0 W) (fun r hs=>r= .bool true) ⟨fun b K h=>(by cases h),fun g' l h=>by
  have hcl:=Yhu hg hT hu he hce hL
  unfold BA at h
  split at h
  ·rename_i hg'
   cases h
   obtain rfl:=Option.some.inj (hg.symm.trans hg')
   obtain⟨cs,T',fz,ho,_⟩:=id hcl
   exact⟨(Xr.1 ho).1,trivial,hcl⟩
  ·cases h⟩ k1 ⟨k2,rfl⟩
 simp only[Array.toArray_toList]at hcall
 refine hcall.mono fun e W' h=>?_
 obtain⟨r,hs,v,bs,J,hJ,rfl,rfl,hr,_,hbI,_⟩:=h
 have hb:Below W.heap.size W W':=⟨hbI.os,hbI.tape,hbI.output,hbI.size,fun k hk=>hbI.block k hk rfl⟩
 have hv:=hr.bool_inv
 subst hv
 obtain⟨s1,s2,s3⟩:=hspec ds hlen
 refine⟨_,rfl,ds,[],before,[],p,[],hW,?_,?_,?_,hb.frame _,fun h=>by cases h⟩
 ·rw[Wr,s1,hres]
  have hsz:fn.resultTypes.size=1:=by rw[<-Um,hres];rfl
  have:(Value.bool true).resultList fn.resultTypes.size=[.bool true]:=by rw[hsz];rfl
  rw[this]
  exact trodAll_mk1 (shut_bool htb true)
 ·rw[Wr,s2]
  exact Yag hl hb hread hA
 ·rw[Wr,s3,hvars];rfl
end Go.Vx
namespace Go.Vx
open Go Go.RowKit Go.ChangeShapes Go.WideShapes Go.ChangeAt Go.WideMaps Go.WideElems
end Go.Vx
namespace Go.Proofs.YtlhmikjnholpnaaGreatDoor
open Go Go.Vx Go.RowKit
set_option maxRecDepth 100000
theorem YkP:ownKnob Yb.godebug=none:=by kernel_rfl
theorem Yix:laidOutB Yb=true:=by kernel_rfl
theorem Yhl:Yb.globalNamed "quintadena/ratios.primes" =some 0:=by kernel_rfl
theorem You:(Yb.globals[0]?).map (·.type)=some 153:=by kernel_rfl
theorem YoF:Yb.underlying 153=some (.array 6 2):=by kernel_rfl
theorem YgD:Yb.underlying 2=some (.int .i64):=by kernel_rfl
theorem YfT:Yb.cellsOf 2=1:=by kernel_rfl
theorem Ygo(os:Os)(args:Array Value):laidMetH Yb [("quintadena/ratios.primes",GH)] ((World.doorLaid Yb 400 os).forCall (fun _ _=>0) ⟨#[],args,[]⟩).memory:=
 laidMetH_of_parts3 (fuel:=8) (laidMet_of_run' 8 (by kernel_rfl) (by kernel_rfl)) (by kernel_rfl) (by kernel_rfl)
theorem YkV(os:Os)(started:os.Started)(H:Type)(enc:TypeId×Value->H):
 ReturnsInHanded {} Tryz.checked os 3 .any (fun w args=>(Rows.pitchTablesSpec.pre enc Yb Tryz.f3 [] false w args/\laidMetH Yb [("quintadena/ratios.primes",GH)] w)/\sizedMet enc Yb Tryz.f3 (OpenSpec.ofChange Rows.pitchTablesSpec) false w args)
  (Rows.pitchTablesSpec.post enc Yb Tryz.f3 false true false false):=
 YiB (C:=Tryz.checked) (tb:=4) YkP started (by kernel_rfl) Tryz.func3 Yix
  (ChangeSpec.witness_shaped (enc:=enc) (C:=Tryz.checked) (os:=os) (X:=fun w _=>laidMetH Yb [("quintadena/ratios.primes",GH)] w) false (World.doorLaid Yb 400 os) #[.agg #[.int .i64 0,.int .i64 0,.int .i64 0,.string ⟨#[]⟩,.bool false,.int .i64 0,.int .i64 0,.int .i64 0,.int .i64 0,.int .i64 0,.int .i64 0,.int .i64 0,.int .i64 0,.int .i64 0,.int .i64 0,.int .i64 0,.int .i64 0,.int .i64 0,.int .i64 0,.int .i64 0,.int .i64 0,.int .i64 0,.int .i64 0,.int .i64 0,.int .i64 0,.int .i64 0,.int .i64 0,.int .i64 0,.int .i64 0,.int .i64 0],.agg #[.int .i64 0,.int .i64 0],.int .i64 0] 8 rfl (World.shaped_of_RefB (by kernel_rfl) (by kernel_rfl)) (by kernel_rfl) (by kernel_rfl) (by kernel_rfl) (Ygo os _))
  (by kernel_rfl) (by kernel_rfl) (by kernel_rfl) (by kernel_rfl) rfl (fun ds h=>match ds,h with| [_,_,_],_=>⟨rfl,rfl,rfl⟩) YiA Yhl You YoF YgD YfT
theorem YkW:Rows.PitchTablesSaid:=
 OpenClaim.holds_of_wide 3 Tryz.f3 rfl rfl rfl rfl rfl rfl rfl ⟨rfl,rfl,rfl,rfl,rfl⟩ rfl rfl rfl rfl rfl (by kernel_rfl) Tryz.func3 (by kernel_rfl)
  (of_decide_eq_true (by kernel_rfl)) (by unfold Func.isWrapper;first| (rw[if_pos (by decide+kernel)];kernel_rfl) | (rw[if_neg (by decide+kernel)];exact⟨rfl,rfl⟩))
  (fun os started H enc _=>YkV os started H enc)
theorem pitchTables_holds:Rows.PitchTablesCardSaid:=
 Claim7.holds_tied_plain_at .later [] [.data] true (true, "7b14231c86bb9e1fb914c88e4056939b4afe5b7a7f86415e4fe5cdd101849307") false
  YkW (fun _ h=>by cases h) (by kernel_rfl) (fun _ h=>by cases h) pitchTables_row_tie rfl ⟨rfl,rfl⟩ (by kernel_rfl) rfl
  (fun f fn hf hfn=>by
    obtain rfl:f=3:=Option.some.inj ((show Yb.funcNamed Rows.pitchTablesRow.func=some 3 by kernel_rfl).symm.trans hf) |>.symm
    obtain rfl:fn=Tryz.f3:=(Option.some.inj (Tryz.func3.symm.trans hfn)).symm
    exact⟨by kernel_rfl,fun j t ht=>by
     have hall:(Tryz.f3.params.toList.all fun u=>!Yb.wantsStandIn u)=true:=by kernel_rfl
     have hm:t∈Tryz.f3.params.toList:=Array.mem_toList_iff.2 (Array.mem_of_getElem? ht)
     exact(show Yb.wantsStandIn t=false by simpa using VJ.1 hall t hm)⟩)
  (by kernel_rfl)
end Go.Proofs.YtlhmikjnholpnaaGreatDoor
