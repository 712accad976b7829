/- Logarithms of the program, walked: quick, plus, over, guess. -/
import Derived.Test.YtlfhmpkopcnheaaGreatMgX40d
open And renaming intro->YHB
open Bool renaming and_eq_true->YHn,not_eq_true->YIp,or_eq_false_iff->YHp,or_eq_true->YHS
open Int renaming eq_ofNat_of_zero_le->YHv,mul_le_mul_of_nonneg_left->YHU,mul_nonneg->YIe,natCast_mul->YIj,toNat->YH0,toNat_natCast->YHj
open Go.IntWalk renaming i64_in->YHi,u64_in->YHJ
open List renaming any_eq_false->YHP,any_eq_true->YIt,foldl_cons->YHX,getD_eq_getElem?_getD->YHo,getElem?_append_left->YH6,getElem?_drop->YIn,getElem?_eq_getElem->YH2,getElem?_take->YH3,length_append->YHM,length_cons->YH8,length_drop->YIg,length_take->YHV,mem_append->YHO,mem_cons->YHI,mem_cons_of_mem->YHu,mem_cons_self->YHw,mem_of_mem_drop->YIm,mem_singleton->YHZ,take_length->YIq
open Nat renaming add_mul->YHT,div_add_mod->YH5,div_div_eq_div_mul->YId,eq_zero_or_pos->YH4,le_div_iff_mul_le->YH7,le_refl->YHr,le_trans->YHC,lt_of_le_of_lt->YIi,lt_of_lt_of_le->YIa,lt_or_ge->YHA,mod_lt->YIk,mul_add->YIo,mul_assoc->YHt,mul_comm->YHq,mul_le_mul->YHE,mul_le_mul_left->YHx,mul_le_mul_right->YHs,mul_left_comm->YHY,mul_pow->YIl,one_mul->YIu,pow_add->YHz,pow_le_pow_left->YHN,pow_le_pow_right->YHL,pow_mul->YHQ,pow_pos->YIv,pow_succ->YHR,reduceAdd->YHf,reduceEqDiff->YHg,reduceLeDiff->YHh,zero_add->YIb
open Go.Proofs.Tryz renaming prog->YHk
set_option linter.all false
namespace Go.Proofs.YtlfhmpkopcnheaaGreat
open Go Go.Vx
set_option maxRecDepth 100000
set_option maxHeartbeats 4000000
def v129:VF:=⟨31,[.cell 6 true 2],(ZR [u1 3 .box [.tm 0],u1 6 (.alloc [(.int .u64 0),(.int .u64 0)]) []] (ZR [Zm 11 1,Zm 12 2,Zd 13 90 11 12,Zm 10 13,Ze 14 0 10,Ze 15 1 10,Zm 7 14,Zm 8 15] (ZR [Za 17 1 3,Zf 18 1 17,Zm 19 8,u1 20 .addc [.tm 18,.tm 19,.cn (.int .u64 0)],Zm 16 20,Ze 21 0 16,Ze 22 1 16,Zm 8 21,Zm 9 22] (ZR [Za 23 0 3,Zf 24 1 23,Zm 25 7,Zo 26 .add 24 25,Zm 27 9,Zo 28 .add 26 27,Zm 29 8,u1 30 (.build [(.int .u64 0),(.int .u64 0)] [(0,1),(1,1)]) [.tm 28,.tm 29],Zs 2 6 30] .ret))))⟩
theorem YBF:Ye YHk Tryz.f129=some v129:=by kernel_rfl
def v130:VF:=⟨24,[.tmp 4],(ZR [u1 2 .box [.tm 0],u1 3 .box [.tm 1],u1 4 .mov [.cn (.bool false)]] (ZR [Za 5 0 2,Zf 6 1 5,Za 7 0 3,Zf 8 1 7,Zr 9 .gtr 6 8,Zm 10 9,Zj 11 10 false 0 2,Zh 12 10 false 1 11,Zj 13 10 false 0 3,Zh 14 10 false 1 13,u2 15 10 false (.cmp .eql) [.tm 12,.tm 14],Zg 16 10 false 15,Zj 17 16 true 1 2,Zh 18 16 true 1 17,Zj 19 16 true 1 3,Zh 20 16 true 1 19,u2 21 16 true (.cmp .gtr) [.tm 18,.tm 20],u2 22 10 false .and [.tm 16,.tm 21],u1 23 .or [.tm 10,.tm 22],Zm 4 23] .ret))⟩
theorem YBG:Ye YHk Tryz.f130=some v130:=by kernel_rfl
def v128:VF:=⟨100,[.tmp 2,.tmp 3],(ZR [u1 2 .mov [.cn (.int .u64 0)],u1 3 .mov [.cn (.int .u64 0)]] (ZR [Zm 15 0,u1 16 (.conv .u64) [.tm 15],Zc 17 110 16,u1 18 (.ari .sub) [.tm 17,.cn (.int .i64 1)],Zm 4 18] (ZR [Zm 19 4,u1 20 (.conv .u64) [.tm 19],Zm 5 20] (.seq (ZR [Zm 21 0,Zm 22 0,u1 23 (.ari .sub) [.tm 22,.cn (.int .i64 1)],u1 24 (.bit .and) [.tm 21,.tm 23],Zq 25 .eql 24 0] (ZC 25 (ZR [Zm 26 5,u1 27 .shl [.tm 26,.cn (.int .u64 28)],Zm 28 5,u1 29 .shl [.tm 28,.cn (.int .u64 28)],Zm 2 27,Zm 3 29] .ret) .skip)) (ZR [Zm 30 0,u1 31 (.conv .u64) [.tm 30],Zm 32 4,u1 33 (.ari .sub) [.cn (.int .i64 63),.tm 32],u1 34 .shl [.tm 31,.tm 33],Zm 6 34] (ZR [Zm 35 6,Zm 7 35] (.seq (ZR [Zi 36 0] (.block 0 (.loop (ZR [Zq 37 .lss 36 28] (.seq (ZC 37 .skip (.exit 0)) (.seq (.block 1 (ZR [Zm 38 36,Zm 8 38] (ZR [Zm 40 6,Zm 41 6,Zd 42 90 40 41,Zm 39 42,Ze 43 0 39,Ze 44 1 39,Zm 9 43,Zm 10 44] (ZR [Zm 46 7,Zm 47 7,Zd 48 90 46 47,Zm 45 48,Ze 49 0 45,Ze 50 1 45,Zm 11 49,Zm 12 50] (ZR [Zm 51 9,u1 52 .shr [.tm 51,.cn (.int .u64 63)],Zm 13 52] (ZR [Zm 53 13,Zm 54 11,u1 55 .shr [.tm 54,.cn (.int .u64 63)],Zr 56 .eql 53 55,Zm 14 56] (.seq (ZR [Zm 57 13,u1 58 (.cmp .eql) [.tm 57,.cn (.int .u64 0)]] (ZC 58 (.region [Zm 59 9,u1 60 .shl [.tm 59,.cn (.int .u64 1)],Zm 61 10,u1 62 .shr [.tm 61,.cn (.int .u64 63)],u1 63 (.bit .or) [.tm 60,.tm 62],Zm 64 11,u1 65 .shl [.tm 64,.cn (.int .u64 1)],Zm 66 12,u1 67 .shr [.tm 66,.cn (.int .u64 63)],u1 68 (.bit .or) [.tm 65,.tm 67],Zm 69 12,u1 70 .shl [.tm 69,.cn (.int .u64 1)],Zm 9 63,Zm 11 68,Zm 12 70]) .skip)) (.seq (ZR [Zm 71 12,u1 72 (.cmp .gtr) [.tm 71,.cn (.int .u64 0)]] (ZC 72 (.region [Zm 73 11,u1 74 (.ari .add) [.tm 73,.cn (.int .u64 1)],Zm 11 74]) .skip)) (.seq (ZR [Zm 75 14,u1 76 .not [.tm 75],Zm 77 76,Zg 78 77 false 11,u2 79 77 false (.cmp .eql) [.tm 78,.cn (.int .u64 0)],u1 80 .or [.tm 77,.tm 79]] (ZC 80 (.seq (.draw [] [Zu 81 5,Zu 82 8,w1 83 (.ari .sub) [.cn (.int .i64 28),.tm 82],w1 84 .shl [.tm 81,.tm 83],Zu 85 5,w1 86 (.ari .add) [.tm 85,.cn (.int .u64 1)],Zu 87 8,w1 88 (.ari .sub) [.cn (.int .i64 28),.tm 87],w1 89 .shl [.tm 86,.tm 88],Zu 2 84,Zu 3 89]) .ret) .skip)) (.region [Zm 90 9,Zm 91 11,Zm 92 5,u1 93 .shl [.tm 92,.cn (.int .u64 1)],Zm 94 13,u1 95 (.bit .or) [.tm 93,.tm 94],Zm 6 90,Zm 7 91,Zm 5 95])))))))))) (.region [Zp 96 36 1,Zm 36 96]))))))) (ZR [Zm 97 5,Zm 98 5,u1 99 (.ari .add) [.tm 98,.cn (.int .u64 1)],Zm 2 97,Zm 3 99] .ret))))))))⟩
theorem YBE:Ye YHk Tryz.f128=some v128:=by kernel_rfl
def YdO(a:Int×Int)(x y:Int):Int×Int:=
 (IntKind.u64.wrap (IntKind.u64.wrap (a.1+x*y/18446744073709551616)+(a.2+x*y%18446744073709551616)/18446744073709551616),(a.2+x*y%18446744073709551616)%18446744073709551616)
def YhI(a b:Int×Int):Bool:=decide (b.1<a.1) || (decide (a.1=b.1)&&decide (b.2<a.2))
def okL(a:Int×Int):Prop:=(0<=a.1/\a.1<=18446744073709551615)/\0<=a.2/\a.2<=18446744073709551615
def lpC:Ctr:={ alias:=false,of:=fun l=>match l with
 | [.agg [.int .u64 a,.int .u64 b],.int .u64 x,.int .u64 y]=> .pre (okL (a,b)/\(0<=x/\x<=18446744073709551615)/\0<=y/\y<=18446744073709551615) (.fin (.agg [.int .u64 (YdO (a,b) x y).1,.int .u64 (YdO (a,b) x y).2]) [])
 |_=>noC}
def loC:Ctr:={ alias:=false,of:=fun l=>match l with
 | [.agg [.int .u64 a,.int .u64 b],.agg [.int .u64 c,.int .u64 d]]=> .fin (.bool (YhI (a,b) (c,d))) []
 |_=>noC}
def RA5:Env:={ ct:=fun n=>match n with|90=>some mul64C|_=>none,fn:=fun _=>none,meth:=fun _ _=>none}
theorem YuN:RA5.ct 90=some mul64C:=rfl
theorem Yw3:Yn YHk RA5:=by
 refine⟨fun f c h=>?_,fun f vf h=>?_,(fun _ _ _ h=>by cases h),by kernel_rfl,(fun _ h=>by cases h),(fun _ _ h=>by cases h)⟩
 ·simp only[RA5]at h
  split at h
  ·cases h;exact⟨Yf4,Tryz.f90,Tryz.func90,by kernel_rfl,by kernel_rfl⟩
  ·cases h
 ·cases h
theorem lp_c:lpC.ok YHk 129:=by
 refine Yb Tryz.func129 YBF Yw3 200 lpC fun args k h=>?_
 simp only[lpC]at h
 split at h
 ·rename_i a b x y
  obtain⟨⟨⟨⟨a0,a1⟩,b0,b1⟩,hx,hy⟩,h⟩:=h
  refine⟨[.agg [.int .u64 a,.int .u64 b],.int .u64 x,.int .u64 y],by simp [leL,le],?_⟩
  dsimp only[v129,YuN,mul64C,YvA,go_sem,reduceIte,YHf]
  simp only[Yc,YHf,YHh,reduceCtorEq,YHg]
  refine⟨⟨hx,hy⟩,by decide,by decide,⟨b0,Int.emod_nonneg _ (by decide),by decide,by decide⟩,by decide,by decide,?_⟩
  rw[Int.add_zero]
  exact YE (show k _ []from h) (YC (.agg [.int .u64 (YdO (a,b) x y).1,.int .u64 (YdO (a,b) x y).2]) ⟨trivial,trivial,trivial⟩) (fun _=>by simp [Yt,Ys])
 ·exact h.1.elim
theorem lo_c:loC.ok YHk 130:=by
 refine Yb Tryz.func130 YBG Yw3 200 loC fun args k h=>?_
 simp only[loC]at h
 split at h
 ·rename_i a b c d
  refine⟨[.agg [.int .u64 a,.int .u64 b],.agg [.int .u64 c,.int .u64 d]],by simp [leL,le],?_⟩
  dsimp only[v130,go_sem,reduceIte,YHf]
  simp only[Yc,YHf,YHh,reduceCtorEq,YHg]
  exact⟨fun h1 h2=>by rw[decide_eq_false h1,decide_eq_true h2];rfl,Yi h⟩
 ·exact h.1.elim
def RA6:Env:={ ct:=fun n=>match n with|110=>some len64C|90=>some mul64C|_=>none,fn:=fun _=>none,meth:=fun _ _=>none}
theorem Yj2:RA6.ct 110=some len64C:=rfl
theorem YmM:RA6.ct 90=some mul64C:=rfl
theorem YCJ:Yn YHk RA6:=by
 refine⟨fun f c h=>?_,fun f vf h=>?_,(fun _ _ _ h=>by cases h),by kernel_rfl,(fun _ h=>by cases h),(fun _ _ h=>by cases h)⟩
 ·simp only[RA6]at h
  split at h
  ·cases h;exact⟨Yf3,Tryz.f110,Tryz.func110,by kernel_rfl,by kernel_rfl⟩
  ·cases h;exact⟨Yf4,Tryz.f90,Tryz.func90,by kernel_rfl,by kernel_rfl⟩
  ·cases h
 ·cases h
abbrev hiW(a:Int):Int:=a*a/18446744073709551616
abbrev loW(a:Int):Int:=a*a%18446744073709551616
abbrev sr63(x:Int):Int:=x.fdiv (2^min (YH0 63) 64)
abbrev sl1(x:Int):Int:=IntKind.u64.wrap (x*2^min (YH0 1) 64)
abbrev dblW(x y:Int):Int:=bitI .or .u64 (sl1 x) (sr63 y)
abbrev shW(S:Int)(f:Nat):Int:=IntKind.u64.wrap (S*2^min f 64)
def YaJ:Nat->Int->Int->Int->Int×Int
 |0,S,_,_=>(S,IntKind.u64.wrap (S+1))
 |f+1,S,a,b=>
  if sr63 (hiW a)=0 then
   if 0<sl1 (loW b)then
    if(!decide (sr63 (hiW a)=sr63 (hiW b)) || decide (IntKind.u64.wrap (dblW (hiW b) (loW b)+1)=0))=true then(shW S (f+1),shW (IntKind.u64.wrap (S+1)) (f+1))
    else YaJ f (bitI .or .u64 (sl1 S) (sr63 (hiW a))) (dblW (hiW a) (loW a)) (IntKind.u64.wrap (dblW (hiW b) (loW b)+1))
   else
    if(!decide (sr63 (hiW a)=sr63 (hiW b)) || decide (dblW (hiW b) (loW b)=0))=true then(shW S (f+1),shW (IntKind.u64.wrap (S+1)) (f+1))
    else YaJ f (bitI .or .u64 (sl1 S) (sr63 (hiW a))) (dblW (hiW a) (loW a)) (dblW (hiW b) (loW b))
  else
   if 0<loW b then
    if(!decide (sr63 (hiW a)=sr63 (hiW b)) || decide (IntKind.u64.wrap (hiW b+1)=0))=true then(shW S (f+1),shW (IntKind.u64.wrap (S+1)) (f+1))
    else YaJ f (bitI .or .u64 (sl1 S) (sr63 (hiW a))) (hiW a) (IntKind.u64.wrap (hiW b+1))
   else
    if(!decide (sr63 (hiW a)=sr63 (hiW b)) || decide (hiW b=0))=true then(shW S (f+1),shW (IntKind.u64.wrap (S+1)) (f+1))
    else YaJ f (bitI .or .u64 (sl1 S) (sr63 (hiW a))) (hiW a) (hiW b)
def Ya3(n:Int):Int×Int:=
 if Ybz n=true then(IntKind.u64.wrap (((Yo n.toNat-1:Nat):Int)*2^min (YH0 28) 64),IntKind.u64.wrap (((Yo n.toNat-1:Nat):Int)*2^min (YH0 28) 64))
 else YaJ 28 ((Yo n.toNat-1:Nat):Int) (shW n (63-(Yo n.toNat-1))) (shW n (63-(Yo n.toNat-1)))
theorem Yao(x:Int):0<=IntKind.u64.wrap x/\IntKind.u64.wrap x<=18446744073709551615:=by rw[Ymr];omega
theorem YdW(x y:Int):0<=bitI .or .u64 x y/\bitI .or .u64 x y<=18446744073709551615:=Yao _
theorem YrW{a:Int}(h0:0<=a)(h1:a<=18446744073709551615):0<=hiW a/\hiW a<=18446744073709551615:=by
 have h2:a*a<=18446744073709551615*18446744073709551615:=YO h1 h1 h0 (by decide)
 have h3:0<=a*a:=YIe h0 h0
 unfold hiW
 omega
def quickC:Ctr:={ alias:=false,of:=fun l=>match l with
 | [.int .i64 n]=> .pre (1<=n/\n<=4611686018427387904) (.fin (.tup [.int .u64 (Ya3 n).1,.int .u64 (Ya3 n).2]) [])
 |_=>noC}
theorem YAC:quickC.ok YHk 128:=by
 refine Yb Tryz.func128 YBE YCJ 400 quickC fun args k h=>?_
 simp only[quickC]at h
 split at h
 ·rename_i n
  obtain⟨⟨n0,n1⟩,h⟩:=h
  refine⟨[.int .i64 n],by simp [leL,le],?_⟩
  dsimp only[v128,Yj2,YmM,len64C,mul64C,go_sem,reduceIte,YHf]
  simp only[Yc,YHf,YHh,reduceCtorEq,YHg]
  have hb1:Yo n.toNat<=63:=bitsN_le.2 (by have:(2:Nat)^63=9223372036854775808:=rfl;omega)
  have hb0:Yo n.toNat≠0:=fun e=>by have:=bitsN_eq0.1 e;omega
  obtain⟨K,hK⟩:∃K,K=Yo n.toNat-1:=⟨_,rfl⟩
  have eu:IntKind.u64.wrap n=n:=YHJ _ (by omega)
  have ek:IntKind.i64.wrap ((Yo n.toNat:Int)-1)=(K:Int):=by rw[hK,YHi _ (by omega)];omega
  have ek2:IntKind.i64.wrap (63-(K:Int))=((63-K:Nat):Int):=by rw[YHi _ (by omega)];omega
  have ek3:IntKind.u64.wrap (K:Int)=(K:Int):=YHJ _ (by omega)
  rw[eu,ek,ek2,ek3]
  refine⟨by omega,fun hc=>⟨by decide,by decide,?_⟩,fun hc=>⟨by omega,?_⟩⟩
  ·rw[Ya3,if_pos (show Ybz n=true from decide_eq_true hc),<-hK]at h
   exact Ygk h
  ·have e:Ya3 n=YaJ 28 K (shW n (63-K)) (shW n (63-K)):=by rw[Ya3,if_neg (show¬Ybz n=true from fun hh=>hc (of_decide_eq_true hh)),<-hK]
   rw[e]at h
   rw[YHj]
   obtain⟨A,hA⟩:∃A,A=shW n (63-K):=⟨_,rfl⟩
   rw[<-hA]at h
   obtain⟨R,hR⟩:∃R,R=YaJ 28 K A A:=⟨_,rfl⟩
   rw[<-hR]at h
   rw[show IntKind.u64.wrap (n*2^min (63-K) 64)=A from hA.symm]
   have hAr:0<=A/\A<=18446744073709551615:=by rw[hA];exact Yao _
   refine Loop.keep [] (Int×Int×Int×Nat) (fun s=>[(5,.int .u64 s.1),(6,.int .u64 s.2.1),(7,.int .u64 s.2.2.1),(36,.int .i64 s.2.2.2)]) (fun _=>[]) [] (fun s=>s.2.2.2<=28/\R=YaJ (28-s.2.2.2) s.1 s.2.1 s.2.2.1/\(0<=s.2.1/\s.2.1<=18446744073709551615)/\0<=s.2.2.1/\s.2.2.1<=18446744073709551615) (fun s=>28-s.2.2.2) ?_ ?_
   ·refine⟨(K,A,A,0),⟨by simp only;omega,hR,hAr,hAr⟩,?_⟩
    dsimp only[go_sem,reduceIte,YHf]
    simp only[Ya]
    try simp
   ·rintro⟨S,a,b,i⟩ ⟨hi,he,ha,hb⟩
    dsimp only at hi he ha hb
    dsimp only[Yj2,YmM,len64C,mul64C,go_sem,reduceIte,YHf]
    simp only[Yc,YHf,YHh,reduceCtorEq,YHg]
    have ei:IntKind.i64.wrap (28-(i:Int))=((28-i:Nat):Int):=by rw[YHi _ (by omega)];omega
    rw[ei]
    have hA2:=YrW ha.1 ha.2
    have hB2:=YrW hb.1 hb.2
    refine⟨fun hlt=>?_,fun hge=>?_⟩
    ·obtain⟨f,hf⟩:∃f,28-i=f+1:=⟨28-i-1,by omega⟩
     rw[hf,YaJ]at he
     rw[hf,YHj]
     refine⟨ha,by decide,by decide,hb,by decide,by decide,by decide,by decide,fun hc1=>⟨by decide,by decide,by decide,by decide,by decide,fun hc2=>⟨fun hc3=>?_,fun hc3=>?_⟩,fun hc2=>⟨fun hc3=>?_,fun hc3=>?_⟩⟩,fun hc1=>⟨fun hc2=>⟨fun hc3=>?_,fun hc3=>?_⟩,fun hc2=>⟨fun hc3=>?_,fun hc3=>?_⟩⟩⟩
     ·rw[if_pos hc1,if_pos hc2,if_pos hc3]at he
      rw[he]at h
      exact⟨by omega,by omega,Ygk h⟩
     ·rw[if_pos hc1,if_pos hc2,if_neg (by rw[hc3];decide)]at he
      refine⟨by decide,(bitI .or .u64 (sl1 S) (sr63 (hiW a)),dblW (hiW a) (loW a),IntKind.u64.wrap (dblW (hiW b) (loW b)+1),i+1),⟨by simp only;omega,by rw[show 28-(i+1)=f by omega];exact he,YdW _ _,Yao _⟩,by simp only;omega,?_⟩
      rw[YHi ((i:Int)+1) (by omega)]
      simp only[Ya]
      simp
     ·rw[if_pos hc1,if_neg hc2,if_pos hc3]at he
      rw[he]at h
      exact⟨by omega,by omega,Ygk h⟩
     ·rw[if_pos hc1,if_neg hc2,if_neg (by rw[hc3];decide)]at he
      refine⟨by decide,(bitI .or .u64 (sl1 S) (sr63 (hiW a)),dblW (hiW a) (loW a),dblW (hiW b) (loW b),i+1),⟨by simp only;omega,by rw[show 28-(i+1)=f by omega];exact he,YdW _ _,YdW _ _⟩,by simp only;omega,?_⟩
      rw[YHi ((i:Int)+1) (by omega)]
      simp only[Ya]
      simp
     ·rw[if_neg hc1,if_pos hc2,if_pos hc3]at he
      rw[he]at h
      exact⟨by omega,by omega,Ygk h⟩
     ·rw[if_neg hc1,if_pos hc2,if_neg (by rw[hc3];decide)]at he
      refine⟨by decide,(bitI .or .u64 (sl1 S) (sr63 (hiW a)),hiW a,IntKind.u64.wrap (hiW b+1),i+1),⟨by simp only;omega,by rw[show 28-(i+1)=f by omega];exact he,hA2,Yao _⟩,by simp only;omega,?_⟩
      rw[YHi ((i:Int)+1) (by omega)]
      simp only[Ya]
      simp
     ·rw[if_neg hc1,if_neg hc2,if_pos hc3]at he
      rw[he]at h
      exact⟨by omega,by omega,Ygk h⟩
     ·rw[if_neg hc1,if_neg hc2,if_neg (by rw[hc3];decide)]at he
      refine⟨by decide,(bitI .or .u64 (sl1 S) (sr63 (hiW a)),hiW a,hiW b,i+1),⟨by simp only;omega,by rw[show 28-(i+1)=f by omega];exact he,hA2,hB2⟩,by simp only;omega,?_⟩
      rw[YHi ((i:Int)+1) (by omega)]
      simp only[Ya]
      simp
    ·rw[show 28-i=0 by omega,YaJ]at he
     rw[he]at h
     exact Ygk h
 ·exact h.1.elim
def v117:VF:=⟨72,[.tmp 2,.tmp 3],(ZR [Zi 2 0,u1 3 .mov [.cn (.bool false)]] (ZR [u1 4 (.allocArr 2 2 [(.int .u64 0),(.int .u64 0),(.int .u64 0),(.int .u64 0)]) [],u1 5 (.allocArr 2 2 [(.int .u64 0),(.int .u64 0),(.int .u64 0),(.int .u64 0)]) []] (.seq (ZR [Zm 10 0,Zl 11 10,Zi 12 0] (.block 0 (.loop (ZR [Zr 13 .lss 12 11] (.seq (ZC 13 .skip (.exit 0)) (.seq (.block 1 (ZR [Zx 14 2 10 12,Zt 15 2 14,Zn 7,Zs 2 7 15] (ZR [Za 17 0 7,Zf 18 1 17,Zc 19 128 18,Zm 16 19,Ze 20 0 16,Ze 21 1 16,Zm 8 20,Zm 9 21] (ZR [Za 22 1 7,Zf 23 1 22,Zq 24 .geq 23 0] (ZC 24 (.draw [] [w1 25 (.idxArr 2 2) [.tm 4,.cn (.int .i64 0)],Zw 26 2 25,Zu 27 8,Zy 28 1 7,Zv 29 1 28,w1 30 (.conv .u64) [.tm 29],w1 32 (.idxArr 2 2) [.tm 4,.cn (.int .i64 1)],Zw 33 2 32,Zu 34 9,Zy 35 1 7,Zv 36 1 35,w1 37 (.conv .u64) [.tm 36],w1 31 (.call 129) [.tm 26,.tm 27,.tm 30],w1 39 (.idxArr 2 2) [.tm 4,.cn (.int .i64 0)],w1 38 (.call 129) [.tm 33,.tm 34,.tm 37],ZS 2 39 31,w1 40 (.idxArr 2 2) [.tm 4,.cn (.int .i64 1)],ZS 2 40 38]) (.draw [] [w1 41 (.idxArr 2 2) [.tm 5,.cn (.int .i64 0)],Zw 42 2 41,Zu 43 8,Zy 44 1 7,Zv 45 1 44,w1 46 .neg [.tm 45],w1 47 (.conv .u64) [.tm 46],w1 49 (.idxArr 2 2) [.tm 5,.cn (.int .i64 1)],Zw 50 2 49,Zu 51 9,Zy 52 1 7,Zv 53 1 52,w1 54 .neg [.tm 53],w1 55 (.conv .u64) [.tm 54],w1 48 (.call 129) [.tm 42,.tm 43,.tm 47],w1 57 (.idxArr 2 2) [.tm 5,.cn (.int .i64 0)],w1 56 (.call 129) [.tm 50,.tm 51,.tm 55],ZS 2 57 48,w1 58 (.idxArr 2 2) [.tm 5,.cn (.int .i64 1)],ZS 2 58 56])))))) (.region [Zp 59 12 1,Zm 12 59]))))))) (.seq (.block 2 (ZR [u1 61 (.idxArr 2 2) [.tm 4,.cn (.int .i64 0)],Zt 62 2 61,u1 63 (.idxArr 2 2) [.tm 5,.cn (.int .i64 1)],Zt 64 2 63,Zd 65 130 62 64,Zm 60 65] (ZC 60 (ZR [Zi 2 1,u1 3 .mov [.cn (.bool true)]] .ret) (ZR [u1 67 (.idxArr 2 2) [.tm 5,.cn (.int .i64 0)],Zt 68 2 67,u1 69 (.idxArr 2 2) [.tm 4,.cn (.int .i64 1)],Zt 70 2 69,Zd 71 130 68 70,Zm 66 71] (ZC 66 (ZR [Zi 2 (-1),u1 3 .mov [.cn (.bool true)]] .ret) .skip))))) (ZR [Zi 2 0,u1 3 .mov [.cn (.bool false)]] .ret)))))⟩
theorem YBv:Ye YHk Tryz.f117=some v117:=by kernel_rfl
structure Gss where
 u0:Int×Int
 u1:Int×Int
 d0:Int×Int
 d1:Int×Int
def Gss.ok(s:Gss):Prop:=okL s.u0/\okL s.u1/\okL s.d0/\okL s.d1
def gssS(s:Gss)(x:Int×Int):Gss:=
 if 0<=x.2 then { s with u0:=YdO s.u0 (Ya3 x.1).1 x.2,u1:=YdO s.u1 (Ya3 x.1).2 x.2}
 else { s with d0:=YdO s.d0 (Ya3 x.1).1 (-x.2),d1:=YdO s.d1 (Ya3 x.1).2 (-x.2)}
def gss0:Gss:=⟨(0,0),(0,0),(0,0),(0,0)⟩
def YgM(l:List (Int×Int)):Int×Bool:=
 let s:=l.foldl gssS gss0
 if YhI s.u0 s.d1=true then(1,true)else if YhI s.d0 s.u1=true then(-1,true)else(0,false)
theorem Yf7(a:Int×Int)(x y:Int)(h:okL a):okL (YdO a x y):=by
 unfold YdO
 exact⟨Yao _,Int.emod_nonneg _ (by decide),by show _%_<=_;omega⟩
theorem YrP(s:Gss)(x:Int×Int)(h:s.ok):(gssS s x).ok:=by
 obtain⟨h1,h2,h3,h4⟩:=h
 unfold gssS
 split
 ·exact⟨Yf7 _ _ _ h1,Yf7 _ _ _ h2,h3,h4⟩
 ·exact⟨h1,h2,Yf7 _ _ _ h3,Yf7 _ _ _ h4⟩
theorem Ycd:∀(f:Nat)(S a b:Int),(0<=S/\S<=18446744073709551615)->(0<=(YaJ f S a b).1/\(YaJ f S a b).1<=18446744073709551615)/\0<=(YaJ f S a b).2/\(YaJ f S a b).2<=18446744073709551615
 |0,S,a,b,h=>⟨h,Yao _⟩
 |f+1,S,a,b,h=>by
  rw[YaJ]
  split
  ·split
   ·split
    ·exact⟨Yao _,Yao _⟩
    ·exact Ycd f _ _ _ (YdW _ _)
   ·split
    ·exact⟨Yao _,Yao _⟩
    ·exact Ycd f _ _ _ (YdW _ _)
  ·split
   ·split
    ·exact⟨Yao _,Yao _⟩
    ·exact Ycd f _ _ _ (YdW _ _)
   ·split
    ·exact⟨Yao _,Yao _⟩
    ·exact Ycd f _ _ _ (YdW _ _)
theorem Yph(n:Int)(hn:n<=4611686018427387904):(0<=(Ya3 n).1/\(Ya3 n).1<=18446744073709551615)/\0<=(Ya3 n).2/\(Ya3 n).2<=18446744073709551615:=by
 unfold Ya3
 split
 ·exact⟨Yao _,Yao _⟩
 ·have hb1:Yo n.toNat<=63:=bitsN_le.2 (by have:(2:Nat)^63=9223372036854775808:=rfl;omega)
  exact Ycd _ _ _ _ ⟨by omega,by omega⟩
def guessC:Ctr:={ alias:=false,of:=fun l=>match l with
 | [.vs _ _ n sz get]=> .ex (List (Int×Int)) fun l=> .pre (lsP 2 enc2 n sz get l/\(∀x,x∈l->okT x)/\n<=100) (.fin (.tup [.int .i64 (YgM l).1,.bool (YgM l).2]) [])
 |_=>noC}
def RA7:Env:={ ct:=fun n=>match n with|128=>some quickC|129=>some lpC|130=>some loC|_=>none,fn:=fun _=>none,meth:=fun _ _=>none}
theorem Yp9:RA7.ct 128=some quickC:=rfl
theorem Yqa:RA7.ct 129=some lpC:=rfl
theorem Yqb:RA7.ct 130=some loC:=rfl
theorem YCK:Yn YHk RA7:=by
 refine⟨fun f c h=>?_,fun f vf h=>?_,(fun _ _ _ h=>by cases h),by kernel_rfl,(fun _ h=>by cases h),(fun _ _ h=>by cases h)⟩
 ·simp only[RA7]at h
  split at h
  ·cases h;exact⟨YAC,Tryz.f128,Tryz.func128,by kernel_rfl,by kernel_rfl⟩
  ·cases h;exact⟨lp_c,Tryz.f129,Tryz.func129,by kernel_rfl,by kernel_rfl⟩
  ·cases h;exact⟨lo_c,Tryz.f130,Tryz.func130,by kernel_rfl,by kernel_rfl⟩
  ·cases h
 ·cases h
theorem YlN{k:SV->List HO->Prop}{al:Bool}{hp:List HO}{κ:IntKind}{x:Int}{b:Bool}(h:k (.tup [.int κ x,.bool b]) []):Yz al k (.tup [.int κ x,.bool b]) hp:=
 YE (show k _ []from h) (YC (.tup [.int κ x,.bool b]) ⟨trivial,trivial,trivial⟩) (fun _=>by simp [Yt,Ys])
theorem YzF:guessC.ok YHk 117:=by
 refine Yb Tryz.func117 YBv YCK 500 guessC fun args k h=>?_
 simp only[guessC]at h
 split at h
 ·rename_i tt z n sz get
  obtain⟨l,⟨⟨rfl,rfl,hg⟩,hl,hn⟩,h⟩:=h
  refine⟨[.vs tt z l.length 2 (fun k=>enc2 (l.getD k default))],⟨⟨id,rfl,rfl,rfl,hg⟩,trivial⟩,?_⟩
  dsimp only[v117,enc2,go_sem,reduceIte,YHf]
  simp only[Yc,YHf,YHh,reduceCtorEq,YHg]
  refine Loop.keep [0,3,0,4,0] (Nat×Gss) (fun s=>[(12,.int .i64 s.1)]) (fun s=>[(0,.own false 2 2 (Ybh 2 [.int .u64 s.2.u0.1,.int .u64 s.2.u0.2,.int .u64 s.2.u1.1,.int .u64 s.2.u1.2])),(1,.own false 2 2 (Ybh 2 [.int .u64 s.2.d0.1,.int .u64 s.2.d0.2,.int .u64 s.2.d1.1,.int .u64 s.2.d1.2]))]) [] (fun s=>s.1<=l.length/\s.2=(l.take s.1).foldl gssS gss0/\s.2.ok) (fun s=>l.length-s.1) ?_ ?_
  ·refine⟨(0,gss0),⟨by simp only;omega,rfl,by simp [Gss.ok,gss0,okL]⟩,?_⟩
   dsimp only[gss0,go_sem,reduceIte,YHf]
   simp only[Ya]
   exact⟨by decide,by decide,rfl⟩
  ·rintro⟨i,G⟩ ⟨hi,hG,hok⟩
   dsimp only at hi hG hok
   dsimp only[Yp9,Yqa,Yqb,quickC,lpC,loC,enc2,YHj,Int.reduceToNat,Nat.reduceMul,Int.toNat_zero,Int.toNat_one,go_sem,reduceIte,YHf]
   simp only[Yc,YHf,YHh,reduceCtorEq,YHg]
   refine⟨fun hlt=>?_,fun hge=>?_⟩
   ·have hx:=hl _ (Yh (by omega:i<l.length))
    generalize hxe:l.getD i default=x at hx⊢
    obtain⟨q0,q1,q2,q3⟩:=hx
    have hstep:(l.take (i+1)).foldl gssS gss0=gssS G x:=by
     rw[Ym (by omega),<-hG,hxe]
    obtain⟨g1,g2⟩:=Yph x.1 (by omega)
    have hok':=YrP G x hok
    obtain⟨o1,o2,o3,o4⟩:=hok
    refine⟨⟨by omega,by omega⟩,⟨by omega,by omega⟩,by decide,by decide,fun hc=>?_,fun hc=>?_⟩
    ·have ew:IntKind.u64.wrap x.2=x.2:=YHJ _ (by omega)
     rw[ew]
     refine⟨by decide,by decide,by decide,by decide,⟨o1,g1,by omega,by omega⟩,by decide,⟨o2,g2,by omega,by omega⟩,by decide,by decide,by decide,(i+1,gssS G x),⟨by simp only;omega,hstep.symm,hok'⟩,by simp only;omega,?_⟩
     rw[YHi ((i:Int)+1) (by omega)]
     simp only[gssS,if_pos hc]
     simp only[Ya]
     refine⟨⟨by decide,by decide,by simp⟩,fun j hj=>?_⟩
     match j,hj with
     |0,_=>exact⟨⟨rfl,rfl⟩,⟨rfl,rfl⟩,trivial⟩
     |1,_=>exact⟨⟨rfl,rfl⟩,⟨rfl,rfl⟩,trivial⟩
    ·have en:IntKind.i64.wrap (0-x.2)= -x.2:=by rw[YHi _ (by omega)];omega
     rw[en]
     have ew:IntKind.u64.wrap (-x.2)= -x.2:=YHJ _ (by omega)
     rw[ew]
     refine⟨by decide,by decide,by decide,by decide,⟨o3,g1,by omega,by omega⟩,by decide,⟨o4,g2,by omega,by omega⟩,by decide,by decide,by decide,(i+1,gssS G x),⟨by simp only;omega,hstep.symm,hok'⟩,by simp only;omega,?_⟩
     rw[YHi ((i:Int)+1) (by omega)]
     simp only[gssS,if_neg hc]
     simp only[Ya]
     refine⟨⟨by decide,by decide,by simp⟩,fun j hj=>?_⟩
     match j,hj with
     |0,_=>exact⟨⟨rfl,rfl⟩,⟨rfl,rfl⟩,trivial⟩
     |1,_=>exact⟨⟨rfl,rfl⟩,⟨rfl,rfl⟩,trivial⟩
   ·obtain rfl:i=l.length:=by omega
    rw[YIq]at hG
    rw[YgM,<-hG]at h
    refine⟨by decide,by decide,by decide,by decide,fun hc=>?_,fun hc=>⟨by decide,by decide,by decide,by decide,fun hd=>?_,fun hd=>?_⟩⟩
    ·rw[show YhI G.u0 G.d1=true from hc]at h
     exact YlN h
    ·rw[show YhI G.u0 G.d1=false from hc,show YhI G.d0 G.u1=true from hd]at h
     exact YlN h
    ·rw[show YhI G.u0 G.d1=false from hc,show YhI G.d0 G.u1=false from hd]at h
     exact YlN h
 ·exact h.1.elim
theorem YgP(a:Nat):hiW (a:Int)=((a*a/18446744073709551616:Nat):Int):=by
 show(a:Int)*a/18446744073709551616=_
 rw[Int.natCast_ediv,YIj];rfl
theorem Yl6(a:Nat):loW (a:Int)=((a*a%18446744073709551616:Nat):Int):=by
 show(a:Int)*a%18446744073709551616=_
 rw[Int.natCast_emod,YIj];rfl
theorem YjL(x:Nat):sr63 (x:Int)=((x/9223372036854775808:Nat):Int):=YbW (s:=63) (by decide)
theorem Ymm(x:Nat):sl1 (x:Int)=((x*2%18446744073709551616:Nat):Int):=by
 show IntKind.u64.wrap ((x:Int)*2^min (YH0 1) 64)=_
 rw[show(2:Int)^min (YH0 1) 64=2 from rfl,Ymr,Int.natCast_emod,YIj];rfl
theorem Yzj{M x:Nat}(hM:0<M):x/(2*M)*2+x%(2*M)/M=x/M:=by
 have e1:x/(2*M)=x/M/2:=by rw[YHq,YId]
 have e2:x%(2*M)/M=x/M%2:=by
  rw[YHq,Nat.mod_mul_right_div_self]
 rw[e1,e2];omega
theorem YxB{h b:Nat}(hb:b<2):(h*2||| b)=h*2+b:=by
 have:=Nat.two_pow_add_eq_or_of_lt (i:=1) (b:=b) (by simpa using hb) h
 rw[Nat.pow_one]at this
 rw[YHq h 2,this]
theorem Ynn{a:Nat}(ha:a*a<18446744073709551616*9223372036854775808):dblW (hiW (a:Int)) (loW (a:Int))=((a*a/9223372036854775808:Nat):Int):=by
 show bitI .or .u64 (sl1 (hiW (a:Int))) (sr63 (loW (a:Int)))=_
 rw[YgP,Yl6,Ymm,YjL]
 generalize a*a=x at*
 have h1:x/18446744073709551616<9223372036854775808:=Nat.div_lt_of_lt_mul ha
 have h2:x%18446744073709551616/9223372036854775808<2:=Nat.div_lt_of_lt_mul (YIk _ (by decide))
 have h3:=Yzj (M:=9223372036854775808) (x:=x) (by decide)
 rw[show 2*9223372036854775808=18446744073709551616 from rfl]at h3
 generalize x/18446744073709551616=h at*
 generalize x%18446744073709551616/9223372036854775808=l at*
 rw[Nat.mod_eq_of_lt (by omega),Yvg (by omega) (by omega),YxB h2,h3]
theorem Yh1{x d:Nat}(hd:0<d)(h:x%d=0):cdiv x d=x/d:=by
 unfold cdiv
 rw[if_neg]
 have:=YH5 x d
 rw[YHq]at this
 omega
theorem Yks{x d:Nat}(hd:0<d)(h:x%d≠0):cdiv x d=x/d+1:=by
 unfold cdiv
 rw[if_pos]
 have:=YH5 x d
 rw[YHq]at this
 omega
theorem Yv6{x M:Nat}(hM:0<M):x%(2*M)*2%(2*M)=x%M*2:=by
 have e:x%(2*M)%M=x%M:=Nat.mod_mul_left_mod ..
 rw[<-e]
 generalize x%(2*M)=y at*
 rw[YHq y 2,Nat.mul_mod_mul_left,YHq]
theorem Ytt(b:Nat):(0<sl1 (loW (b:Int)))↔b*b%9223372036854775808≠0:=by
 rw[Yl6,Ymm]
 have h:=Yv6 (x:=b*b) (M:=9223372036854775808) (by decide)
 rw[show 2*9223372036854775808=18446744073709551616 from rfl]at h
 rw[h]
 omega
theorem YFD{z:Nat}(h:z<18446744073709551616):(IntKind.u64.wrap ((z:Int)+1)=0↔z+1=18446744073709551616)/\(z+1<18446744073709551616->IntKind.u64.wrap ((z:Int)+1)=((z+1:Nat):Int)):=by
 rw[Ymr]
 constructor <;> omega
theorem bitS{S b:Nat}(hS:S<9223372036854775808)(hb:b<2):bitI .or .u64 (sl1 (S:Int)) ((b:Nat):Int)=((2*S+b:Nat):Int):=by
 rw[Ymm,Nat.mod_eq_of_lt (by omega),Yvg (by omega) (by omega),YxB hb,YHq]
theorem YjH{S f:Nat}(hf:f<=64)(h:S*2^f<18446744073709551616):shW (S:Int) f=((S*2^f:Nat):Int):=Yhn hf h
theorem uS{S:Nat}(hS:S<18446744073709551615):IntKind.u64.wrap ((S:Int)+1)=((S+1:Nat):Int):=by rw[YHJ _ (by omega)];rfl
def Yrn(p:Nat×Nat):Int×Int:=((p.1:Int),(p.2:Int))
theorem Ys5:∀(f S a b:Nat),f<=28->S<2^(34-f)->9223372036854775808<=a->a<=b->b<18446744073709551616->
 YaJ f (S:Int) (a:Int) (b:Int)=Yrn (gl 9223372036854775808 true f a b S):=by
 intro f
 induction f with
 |zero=>
  intro S a b _ hS _ _ _
  rw[show(2:Nat)^(34-0)=17179869184 from rfl]at hS
  rw[YaJ,gl,Yrn,uS (by omega)]
 |succ f ih=>
  intro S a b hf hS ha hab hb
  have e34:(2:Nat)^(34-f)=2*2^(34-(f+1)):=by rw[show 34-f=34-(f+1)+1 by omega,YHR,YHq]
  have hS2:S<17179869184:=YIa hS (by rw[show 17179869184=2^34 from rfl];exact YHL (by decide) (by omega))
  have stop:(shW (S:Int) (f+1),shW (IntKind.u64.wrap ((S:Int)+1)) (f+1))=Yrn (S*2^(f+1),(S+1)*2^(f+1)):=by
   have hp:(2:Nat)^(34-(f+1))*2^(f+1)=17179869184:=by rw[<-YHz,show 34-(f+1)+(f+1)=34 by omega]
   have h1:S*2^(f+1)<=2^(34-(f+1))*2^(f+1):=YHs _ (Nat.le_of_lt hS)
   have h2:(S+1)*2^(f+1)<=2^(34-(f+1))*2^(f+1):=YHs _ hS
   rw[uS (by omega),YjH (by omega) (by omega),YjH (by omega) (by omega)];rfl
  have haa:9223372036854775808*9223372036854775808<=a*a:=YHE ha ha
  have hbb:b*b<18446744073709551616*18446744073709551616:=Nat.mul_lt_mul_of_lt_of_le hb (Nat.le_of_lt hb) (by decide)
  have hab2:a*a<=b*b:=YHE hab hab
  have kA:sr63 (hiW (a:Int))=((a*a/170141183460469231731687303715884105728:Nat):Int):=by rw[YgP,YjL,YId]
  have kB:sr63 (hiW (b:Int))=((b*b/170141183460469231731687303715884105728:Nat):Int):=by rw[YgP,YjL,YId]
  have hS0:=bitS (S:=S) (b:=0) (by omega) (by decide)
  have hS1:=bitS (S:=S) (b:=1) (by omega) (by decide)
  have eb:IntKind.u64.wrap (dblW (hiW (b:Int)) (loW (b:Int))+1)=IntKind.u64.wrap (dblW (hiW (b:Int)) (loW (b:Int))+1):=rfl
  rw[YaJ,gl,kA,kB]
  by_cases c1:a*a<170141183460469231731687303715884105728
  ·have z1:a*a/170141183460469231731687303715884105728=0:=Nat.div_eq_of_lt c1
   have c1':a*a/9223372036854775808<2*9223372036854775808:=Nat.div_lt_of_lt_mul c1
   have la:9223372036854775808<=a*a/9223372036854775808:=(YH7 (by decide)).2 haa
   rw[if_pos c1',z1,if_pos (by rfl),Ynn c1,hS0]
   by_cases c2:b*b<170141183460469231731687303715884105728
   ·have z2:b*b/170141183460469231731687303715884105728=0:=Nat.div_eq_of_lt c2
    have c2':b*b/9223372036854775808<18446744073709551616:=Nat.div_lt_of_lt_mul c2
    have hq:a*a/9223372036854775808<=b*b/9223372036854775808:=Nat.div_le_div_right hab2
    rw[z2,Ynn c2]
    obtain⟨u1,u2⟩:=YFD c2'
    by_cases c3:b*b%9223372036854775808≠0
    ·rw[if_pos ((Ytt b).2 c3),Yks (by decide) c3]
     by_cases c4:b*b/9223372036854775808+1=18446744073709551616
     ·rw[if_pos (by rw[decide_eq_true (u1.2 c4)];simp),if_neg (by omega)]
      exact stop
     ·rw[if_neg (by rw[decide_eq_false (fun h=>c4 (u1.1 h))];simp),if_pos (by omega),u2 (by omega)]
      exact ih _ _ _ (by omega) (by omega) la (by omega) (by omega)
    ·rw[if_neg (fun h=>c3 ((Ytt b).1 h)),Yh1 (by decide) (by omega)]
     rw[if_neg (by rw[decide_eq_false (show¬((b*b/9223372036854775808:Nat):Int)=0 by omega)];simp),if_pos (by omega)]
     exact ih _ _ _ (by omega) (by omega) la (by omega) (by omega)
   ·have hz2:1<=b*b/170141183460469231731687303715884105728:=(YH7 (by decide)).2 (by omega)
    have hc:¬cdiv (b*b) 9223372036854775808<2*9223372036854775808:=by
     have h1:=Ysh (b*b) 9223372036854775808
     have h2:2*9223372036854775808<=b*b/9223372036854775808:=(YH7 (by decide)).2 (by omega)
     omega
    have hk:(!decide (((0:Nat):Int)=((b*b/170141183460469231731687303715884105728:Nat):Int)))=true:=by
     rw[decide_eq_false (by omega)];rfl
    rw[if_neg hc,hk]
    simp only[Bool.true_or,if_true,ite_self]
    exact stop
  ·have e1:a*a/170141183460469231731687303715884105728=1:=by
    have h1:1<=a*a/170141183460469231731687303715884105728:=(YH7 (by decide)).2 (by omega)
    have h2:a*a/170141183460469231731687303715884105728<2:=Nat.div_lt_of_lt_mul (by omega)
    omega
   have e2:b*b/170141183460469231731687303715884105728=1:=by
    have h1:1<=b*b/170141183460469231731687303715884105728:=(YH7 (by decide)).2 (by omega)
    have h2:b*b/170141183460469231731687303715884105728<2:=Nat.div_lt_of_lt_mul (by omega)
    omega
   have c1':¬a*a/9223372036854775808<2*9223372036854775808:=by
    have h2:2*9223372036854775808<=a*a/9223372036854775808:=(YH7 (by decide)).2 (by omega)
    omega
   have ea:a*a/9223372036854775808/2=a*a/18446744073709551616:=by rw[YId]
   have hal:9223372036854775808<=a*a/18446744073709551616:=(YH7 (by decide)).2 (by omega)
   have hbl:9223372036854775808<=b*b/18446744073709551616:=(YH7 (by decide)).2 (by omega)
   have hq:a*a/18446744073709551616<=b*b/18446744073709551616:=Nat.div_le_div_right hab2
   have hbu:b*b/18446744073709551616<18446744073709551616:=Nat.div_lt_of_lt_mul hbb
   rw[if_neg c1',e1,e2,if_neg (by decide),hS1,ea,Yro (by decide),show 9223372036854775808*2=18446744073709551616 from rfl,YgP,YgP,Yl6]
   obtain⟨u1,u2⟩:=YFD hbu
   by_cases c3:b*b%18446744073709551616≠0
   ·rw[if_pos (by omega),Yks (by decide) c3]
    by_cases c4:b*b/18446744073709551616+1=18446744073709551616
    ·rw[if_pos (by rw[decide_eq_true (u1.2 c4)];simp),if_pos (by rw[decide_eq_true (show 18446744073709551616<=b*b/18446744073709551616+1 by omega)];rfl)]
     exact stop
    ·rw[if_neg (by rw[decide_eq_false (fun h=>c4 (u1.1 h))];simp),if_neg (by rw[decide_eq_false (show¬18446744073709551616<=b*b/18446744073709551616+1 by omega)];simp),u2 (by omega)]
     exact ih _ _ _ (by omega) (by omega) hal (by omega) (by omega)
   ·rw[if_neg (by omega),Yh1 (by decide) (by omega)]
    rw[if_neg (by rw[decide_eq_false (show¬((b*b/18446744073709551616:Nat):Int)=0 by omega)];simp),if_neg (by rw[decide_eq_false (show¬18446744073709551616<=b*b/18446744073709551616 by omega)];simp)]
    exact ih _ _ _ (by omega) (by omega) hal (by omega) (by omega)
def lgK(n:Nat):Nat:=Yo n-1
theorem Yxu{n:Nat}(h:1<=n):2^lgK n<=n/\n<2^(lgK n+1):=by
 have h0:Yo n≠0:=fun e=>by have:=bitsN_eq0.1 e;omega
 unfold lgK
 constructor
 ·refine Nat.le_of_not_lt fun hh=>?_
  have:=bitsN_le.2 hh
  omega
 ·rw[show Yo n-1+1=Yo n by omega];exact Ydn n
theorem YeC{n m:Nat}(hm:0<m)(h:n<2^m):lgK n<m:=by
 have:=bitsN_le.2 h
 unfold lgK;omega
theorem YvO{n:Nat}(h1:1<=n)(h2:n<4611686018427387904):Ybz (n:Int)=true->n=2^lgK n:=by
 intro h
 unfold Ybz at h
 have h:=of_decide_eq_true h
 have e:IntKind.i64.wrap ((n:Int)-1)=((n-1:Nat):Int):=by rw[YHi _ (by omega)];omega
 rw[e]at h
 have h3:IntKind.i64.wrap ((BitVec.ofInt 64 (n:Int)&&&BitVec.ofInt 64 ((n-1:Nat):Int)).toNat:Int)=0:=h
 rw[BitVec.toNat_and,Yca (by omega),Yca (by omega)]at h3
 have hle:n&&&(n-1)<=n:=Nat.and_le_left
 rw[YHi _ (by omega)]at h3
 have h4:n&&&(n-1)=0:=by omega
 obtain⟨b1,b2⟩:=Yxu h1
 refine Nat.le_antisymm (Nat.le_of_not_lt fun hh=>?_) b1
 have t1:n.testBit (lgK n)=true:=by
  rw[Nat.testBit_eq_decide_div_mod_eq]
  have:n/2^lgK n=1:=by
   have g1:1<=n/2^lgK n:=(YH7 (YIv (by decide))).2 (by omega)
   have g2:n/2^lgK n<2:=Nat.div_lt_of_lt_mul (by rw[<-YHR];exact b2)
   omega
  rw[this];rfl
 have t2:(n-1).testBit (lgK n)=true:=by
  rw[Nat.testBit_eq_decide_div_mod_eq]
  have:(n-1)/2^lgK n=1:=by
   have g1:1<=(n-1)/2^lgK n:=(YH7 (YIv (by decide))).2 (by omega)
   have g2:(n-1)/2^lgK n<2:=Nat.div_lt_of_lt_mul (by rw[<-YHR];omega)
   omega
  rw[this];rfl
 have t3:(n&&&(n-1)).testBit (lgK n)=true:=by rw[Nat.testBit_and,t1,t2];rfl
 rw[h4,Nat.zero_testBit]at t3
 cases t3
def qN(n:Nat):Nat×Nat:=if Ybz (n:Int)=true then(lgK n*2^28,lgK n*2^28)else gl 9223372036854775808 true 28 (n*2^(63-lgK n)) (n*2^(63-lgK n)) (lgK n)
def lN(n p:Nat):Nat×Nat:=if Ybz (n:Int)=true then(lgK n*2^p,lgK n*2^p)else gl (2^(2*p+64)) false p (n*2^(2*p+64-lgK n)) (n*2^(2*p+64-lgK n)) (lgK n)
theorem mant{n D:Nat}(h1:1<=n)(hD:lgK n<=D):2^D<=n*2^(D-lgK n)/\n*2^(D-lgK n)<2*2^D/\2^lgK n*(n*2^(D-lgK n))=n*2^D:=by
 obtain⟨b1,b2⟩:=Yxu h1
 have e:2^D=2^lgK n*2^(D-lgK n):=by rw[<-YHz];congr 1;omega
 refine⟨?_,?_,?_⟩
 ·rw[e];exact YHs _ b1
 ·rw[e,<-YHt,<-Nat.pow_succ']
  exact Nat.mul_lt_mul_of_pos_right b2 (YIv (by decide))
 ·rw[e,YHY]
theorem Ys4{n:Nat}(h1:1<=n)(h2:n<4611686018427387904):Ya3 (n:Int)=Yrn (qN n):=by
 have hk:lgK n<62:=YeC (by decide) h2
 unfold Ya3 qN
 rw[YHj]
 by_cases c:Ybz (n:Int)=true
 ·rw[if_pos c,if_pos c]
  have e:shW ((Yo n-1:Nat):Int) 28=((lgK n*2^28:Nat):Int):=YjH (by decide) (by show lgK n*268435456<_;omega)
  have e:IntKind.u64.wrap (((Yo n-1:Nat):Int)*2^min (YH0 28) 64)=((lgK n*2^28:Nat):Int):=e
  rw[e];rfl
 ·rw[if_neg c,if_neg c]
  obtain⟨m1,m2,m3⟩:=mant (D:=63) h1 (by omega)
  have e:shW (n:Int) (63-(Yo n-1))=((n*2^(63-lgK n):Nat):Int):=YjH (by omega) (YIa m2 (by decide))
  rw[e]
  exact Ys5 28 (lgK n) _ _ (by decide) (by rw[show(2:Nat)^(34-28)=64 from rfl];omega) m1 (YHr _) m2
theorem YzZ{e k:Nat}(h:e<=32*k):2^e<=4294967296^k:=by
 rw[Yfx]
 exact YHL (by decide) h
theorem YDx{x e k:Nat}(h:x<2^e)(he:e<=32*k):nl x<=k:=nl_le.2 (YIa h (YzZ he))
theorem Ygs{x e:Nat}(h:x<2^e)(he:e<=32*512):capF x=x:=by
 unfold capF
 rw[if_pos]
 exact YDx (k:=512) h he
theorem Yoh(a d:Nat)(hd:0<d):shF a (-(d:Int))=a/2^d:=by
 unfold shF
 rw[if_pos (by omega),show(- -(d:Int)).toNat=d by omega]
theorem YxO(a d:Nat):shF a (d:Int)=a*2^d:=by
 unfold shF
 rw[if_neg (by omega),YHj]
theorem Yid{a d e:Nat}(h:a*2^d<2^e)(he:e<=32*512):movW a (d:Int) false=a*2^d:=by
 unfold movW
 rw[Bool.false_and,if_neg (by decide),YxO,Ygs h he]
theorem Yxw{a d e:Nat}(hd:0<d)(h:a<2^e)(he:e<=32*512):movW a (-(d:Int)) false=a/2^d:=by
 unfold movW
 rw[Bool.false_and,if_neg (by decide),Yoh _ _ hd,Ygs (YIi (Nat.div_le_self _ _) h) he]
theorem YnS{a d e:Nat}(hd:0<d)(h:a<2^e)(he:e+1<=32*512):movW a (-(d:Int)) true=cdiv a (2^d):=by
 have h1:a/2^d<2^e:=YIi (Nat.div_le_self _ _) h
 have h2:a/2^d*2^d<2^e:=YIi (Nat.div_mul_le_self _ _) h
 unfold movW cdiv
 rw[Bool.true_and,Yoh _ _ hd,Ygs h1 (by omega),Int.neg_neg,YxO,Ygs h2 (by omega)]
 by_cases c:a/2^d*2^d<a
 ·rw[if_pos (decide_eq_true c),if_pos c]
  exact Ygs (e:=e+1) (by rw[YHR];omega) he
 ·rw[if_neg (by rw[decide_eq_false c];decide),if_neg c]
theorem Ygh{a b e:Nat}(h:a+b<2^e)(he:e<=32*512):addW a b=a+b:=Ygs h he
theorem Yie{a b e:Nat}(h:a*b<2^e)(he:e<=32*512):mulW a b=a*b:=Ygs h he
theorem Yz4{D:Nat}(hD0:64<=D)(hD:D<=4200):∀(f a b S q:Nat),a<=b->b<=2*2^D->S<2^(q-f)->f<=q->q<=4200->
 logL (2*2^D) (D:Int) f a b S=gl (2^D) false f a b S:=by
 intro f
 induction f with
 |zero=>
  intro a b S q _ _ hS _ hq
  rw[logL,gl,Ygh (e:=q+1) (by
   have:=Nat.one_le_two_pow (n:=q)
   rw[YHR];rw[Nat.sub_zero]at hS;omega) (by omega)]
 |succ f ih=>
  intro a b S q hab hb hS hfq hq
  have hbb:b*b<=2^(2*D+2):=by
   have:=YHE hb hb
   rw[show 2*D+2=D+1+(D+1)by omega,YHz,YHR,YHq (2^D)]
   exact this
  have haa:a*a<=b*b:=YHE hab hab
  have l1:∀x,x<=2^(2*D+2)->x<2^(2*D+3):=fun x hx=>by
   have:(2:Nat)^(2*D+3)=2*2^(2*D+2):=by rw[Nat.pow_succ',]
   have:=Nat.one_le_two_pow (n:=2*D+2)
   omega
  have ea:mulW a a=a*a:=Yie (l1 _ (by omega)) (by omega)
  have eb:mulW b b=b*b:=Yie (l1 _ (by omega)) (by omega)
  have fa:movW (a*a) (-(D:Int)) false=a*a/2^D:=Yxw (by omega) (l1 _ (by omega)) (by omega)
  have fb:movW (b*b) (-(D:Int)) true=cdiv (b*b) (2^D):=YnS (by omega) (l1 _ (by omega)) (by omega)
  have hA:a*a/2^D<=cdiv (b*b) (2^D):=Ydq haa
  have hB:cdiv (b*b) (2^D)<=4*2^D:=YaK (by
   rw[show 2*D+2=2+D+D by omega,YHz,YHz]at hbb
   exact hbb)
  have hB2:cdiv (b*b) (2^D)<2^(D+3):=by
   have:(2:Nat)^(D+3)=8*2^D:=by rw[YHz,YHq]
   have:=Nat.one_le_two_pow (n:=D)
   omega
  have hq2:q-f=q-(f+1)+1:=by omega
  have hS2:2*S+1<2^(q-f):=by rw[hq2,YHR];omega
  have hqq:(2:Nat)^(q-f)<=2^q:=YHL (by decide) (by omega)
  have es1:movW S 1 false=2*S:=by
   have:=Yid (a:=S) (d:=1) (e:=q) (by rw[Nat.pow_one];omega) (by omega)
   rw[Nat.pow_one,YHq]at this
   exact this
  have es2:∀b,b<=1->addW (2*S) b=2*S+b:=fun b hb=>Ygh (e:=q) (by omega) (by omega)
  have hSf:(S+1)*2^(f+1)<=2^q:=by
   have:(2:Nat)^q=2^(q-(f+1))*2^(f+1):=by rw[<-YHz];congr 1;omega
   rw[this]
   exact YHs _ hS
  have hSf0:S*2^(f+1)<=(S+1)*2^(f+1):=YHs _ (by omega)
  have lq:∀x,x<=2^q->x<2^(q+1):=fun x hx=>by
   have:=Nat.one_le_two_pow (n:=q)
   rw[YHR];omega
  have st1:movW S ((f+1:Nat):Int) false=S*2^(f+1):=Yid (lq _ (by omega)) (by omega)
  have st2:movW (addW S 1) ((f+1:Nat):Int) false=(S+1)*2^(f+1):=by
   rw[Ygh (e:=q+1) (lq _ (by
    have:(2:Nat)^(q-(f+1))<=2^q:=YHL (by decide) (by omega)
    omega)) (by omega)]
   exact Yid (lq _ (by omega)) (by omega)
  rw[logL,gl,ea,eb,fa,fb,es1,st1,st2]
  by_cases c1:a*a/2^D<2*2^D
  ·rw[if_pos c1,if_pos c1]
   by_cases c2:cdiv (b*b) (2^D)<2*2^D
   ·rw[if_pos c2,if_pos c2,es2 0 (by omega),Nat.add_zero]
    exact ih _ _ _ q hA (by omega) (by omega) (by omega) hq
   ·rw[if_neg c2,if_neg c2]
  ·have g1:movW (a*a/2^D) (-1) false=a*a/2^D/2:=by
    have:=Yxw (a:=a*a/2^D) (d:=1) (by decide) (YIi hA hB2) (by omega)
    rw[Nat.pow_one]at this
    exact this
   have g2:movW (cdiv (b*b) (2^D)) (-1) true=cdiv (cdiv (b*b) (2^D)) 2:=by
    have:=YnS (a:=cdiv (b*b) (2^D)) (d:=1) (by decide) hB2 (by omega)
    rw[Nat.pow_one]at this
    exact this
   rw[if_neg c1,if_neg c1,Bool.false_and,if_neg (by decide),g1,g2,es2 1 (by omega)]
   exact ih _ _ _ q (Ydq hA) (YaK (by omega)) (by omega) (by omega) hq
theorem Yz2{n p:Nat}(h1:1<=n)(h2:n<4611686018427387904)(hp:p<=2048):logF (n:Int) p=lN n p:=by
 have hk:lgK n<62:=YeC (by decide) h2
 have hk2:lgK n<2^6:=by rw[show(2:Nat)^6=64 from rfl];omega
 unfold logF lN
 rw[YHj]
 by_cases c:Ybz (n:Int)=true
 ·rw[if_pos c,if_pos c]
  have e:movW (lgK n) (p:Int) false=lgK n*2^p:=Yid (e:=6+p) (by rw[YHz];exact Nat.mul_lt_mul_of_pos_right hk2 (YIv (by decide))) (by omega)
  show(movW (lgK n) (p:Int) false,movW (lgK n) (p:Int) false)=_
  rw[e]
 ·rw[if_neg c,if_neg c]
  obtain⟨D,hD⟩:∃D,D=2*p+64:=⟨_,rfl⟩
  rw[<-hD]
  obtain⟨m1,m2,m3⟩:=mant (D:=D) h1 (by omega)
  have hD1:2*2^D<2^(D+2):=by
   have:(2:Nat)^(D+2)=4*2^D:=by rw[YHz,YHq]
   have:=Nat.one_le_two_pow (n:=D)
   omega
  have ea:movW n ((D:Int)-((Yo n-1:Nat):Int)) false=n*2^(D-lgK n):=by
   rw[show((D:Int)-((Yo n-1:Nat):Int))=((D-lgK n:Nat):Int)by unfold lgK at hk⊢;omega]
   exact Yid (e:=D+2) (by omega) (by omega)
  have e2:movW 2 (D:Int) false=2*2^D:=Yid (e:=D+2) hD1 (by omega)
  show logL (movW 2 (D:Int) false) (D:Int) p (movW n ((D:Int)-((Yo n-1:Nat):Int)) false) (movW n ((D:Int)-((Yo n-1:Nat):Int)) false) (lgK n)=_
  rw[ea,e2]
  exact Yz4 (by omega) (by omega) p _ _ _ (p+6) (YHr _) (Nat.le_of_lt m2) (by rw[show p+6-p=6 by omega];exact hk2) (by omega) (by omega)
theorem Ylh{n:Nat}(h1:1<=n)(h2:n<4611686018427387904)(c:Ybz (n:Int)=true)(p:Nat):2^(lgK n*2^p)<=n^(2^p)/\n^(2^p)<=2^(lgK n*2^p):=by
 have e0:=YvO h1 h2 c
 have e:n^(2^p)=2^(lgK n*2^p):=by
  rw[YHQ,<-e0]
 rw[e];exact⟨YHr _,YHr _⟩
theorem Yn5{n:Nat}(h1:1<=n)(h2:n<4611686018427387904):2^(qN n).1<=n^(2^28)/\n^(2^28)<=2^(qN n).2:=by
 unfold qN
 by_cases c:Ybz (n:Int)=true
 ·rw[if_pos c]
  exact Ylh h1 h2 c 28
 ·rw[if_neg c]
  have hk:lgK n<62:=YeC (by decide) h2
  obtain⟨m1,m2,m3⟩:=mant (D:=63) h1 (by omega)
  exact YnJ _ true (by decide) 28 _ _ _ n (Nat.le_of_eq m3) (Nat.le_of_eq m3.symm) m1 (Nat.le_of_lt m2)
theorem Yf2{n p:Nat}(h1:1<=n)(h2:n<4611686018427387904):2^(lN n p).1<=n^(2^p)/\n^(2^p)<=2^(lN n p).2:=by
 unfold lN
 by_cases c:Ybz (n:Int)=true
 ·rw[if_pos c]
  exact Ylh h1 h2 c p
 ·rw[if_neg c]
  have hk:lgK n<62:=YeC (by decide) h2
  obtain⟨m1,m2,m3⟩:=mant (D:=2*p+64) h1 (by omega)
  exact YnJ _ false (YIv (by decide)) p _ _ _ n (Nat.le_of_eq m3) (Nat.le_of_eq m3.symm) m1 (Nat.le_of_lt m2)
theorem YkV{n p:Nat}(h1:1<=n)(h2:n<4611686018427387904)(hp:28<=p):(qN n).1*2^(p-28)<=(lN n p).1/\(lN n p).2<=(qN n).2*2^(p-28):=by
 unfold lN qN
 by_cases c:Ybz (n:Int)=true
 ·rw[if_pos c,if_pos c]
  have e:lgK n*2^28*2^(p-28)=lgK n*2^p:=by
   rw[YHt,<-YHz];congr 2;omega
  simp only
  rw[e];exact⟨YHr _,YHr _⟩
 ·rw[if_neg c,if_neg c]
  have hk:lgK n<62:=YeC (by decide) h2
  have eM:(2:Nat)^(2*p+64)=9223372036854775808*2^(2*p+1):=by
   rw[show(9223372036854775808:Nat)=2^63 from rfl,<-YHz];congr 1;omega
  have eA:n*2^(2*p+64-lgK n)=2^(2*p+1)*(n*2^(63-lgK n)):=by
   rw[show 2*p+64-lgK n=2*p+1+(63-lgK n)by omega,YHz,YHY]
  have:=YkL 9223372036854775808 (2^(2*p+1)) true (by decide) (YIv (by decide)) (p-28) 28 (n*2^(63-lgK n)) (n*2^(63-lgK n)) (lgK n) _ _ (Nat.le_of_eq eA.symm) (YHr _) (Nat.le_of_eq eA)
  rw[<-eM,show 28+(p-28)=p by omega]at this
  exact this
def upS(g:Nat->Nat):List (Int×Int)->Nat
 | []=>0
 |x::l=>(if x.2<0 then 0 else g x.1.toNat*x.2.toNat)+upS g l
def dnS(g:Nat->Nat):List (Int×Int)->Nat
 | []=>0
 |x::l=>(if x.2<0 then g x.1.toNat*(-x.2).toNat else 0)+dnS g l
def upP:List (Int×Int)->Nat
 | []=>1
 |x::l=>(if x.2<0 then 1 else x.1.toNat^x.2.toNat)*upP l
def dnP:List (Int×Int)->Nat
 | []=>1
 |x::l=>(if x.2<0 then x.1.toNat^(-x.2).toNat else 1)*dnP l
def okU(x:Int×Int):Prop:=1<=x.1/\x.1<=1000000000001/\ -3000000000000000<=x.2/\x.2<=3000000000000000
theorem YEo{x:Int×Int}(h:okU x):okT x:=⟨h.1,h.2.1,by have:=h.2.2.1;omega,by have:=h.2.2.2;omega⟩
theorem Yc5{x:Int×Int}(h:okU x):1<=x.1.toNat/\x.1.toNat<4611686018427387904/\x.1=(x.1.toNat:Int):=by
 obtain⟨h1,h2,h3,h4⟩:=h
 omega
theorem YeI{K g h n e:Nat}(H:2^g<=n^K/\n^K<=2^h):2^(g*e)<=(n^e)^K/\(n^e)^K<=2^(h*e):=by
 rw[YHQ,YHQ,<-YHQ n,YHq e K,YHQ]
 exact⟨YHN H.1 _,YHN H.2 _⟩
theorem YbG{K:Nat}{g h:Nat->Nat}(H:∀n,1<=n->n<4611686018427387904->2^g n<=n^K/\n^K<=2^h n):∀(l:List (Int×Int)),(∀x,x∈l->okU x)->
 (2^upS g l<=upP l^K/\upP l^K<=2^upS h l)/\2^dnS g l<=dnP l^K/\dnP l^K<=2^dnS h l
 | [],_=>by simp [upS,upP,dnS,dnP]
 |x::l,hl=>by
  obtain⟨⟨a1,a2⟩,b1,b2⟩:=YbG H l fun y hy=>hl y (YHu _ hy)
  obtain⟨n1,n2,_⟩:=Yc5 (hl x (YHw ..))
  have hx:=H _ n1 n2
  rw[upS,upS,upP,dnS,dnS,dnP,YIl,YIl,YHz,YHz,YHz,YHz]
  by_cases c:x.2<0
  ·simp only[if_pos c,Nat.pow_zero,Nat.one_pow,YIu]
   obtain⟨p1,p2⟩:=YeI (e:=(-x.2).toNat) hx
   exact⟨⟨a1,a2⟩,YHE p1 b1,YHE p2 b2⟩
  ·simp only[if_neg c,Nat.pow_zero,Nat.one_pow,YIu]
   obtain⟨p1,p2⟩:=YeI (e:=x.2.toNat) hx
   exact⟨⟨YHE p1 a1,YHE p2 a2⟩,b1,b2⟩
theorem S_le{g:Nat->Nat}{B:Nat}(H:∀n,1<=n->n<4611686018427387904->g n<=B):∀(l:List (Int×Int)),(∀x,x∈l->okU x)->upS g l<=l.length*(B*3000000000000000)/\dnS g l<=l.length*(B*3000000000000000)
 | [],_=>by simp [upS,dnS]
 |x::l,hl=>by
  obtain⟨a1,a2⟩:=S_le H l fun y hy=>hl y (YHu _ hy)
  have hx:=hl x (YHw ..)
  obtain⟨n1,n2,_⟩:=Yc5 hx
  obtain⟨_,_,x3,x4⟩:=hx
  have h1:=YHE (H _ n1 n2) (show x.2.toNat<=3000000000000000 by omega)
  have h2:=YHE (H _ n1 n2) (show(-x.2).toNat<=3000000000000000 by omega)
  rw[upS,dnS,YH8,YHT,YIu]
  constructor
  ·split <;> omega
  ·split <;> omega
theorem YED{n:Nat}(h1:1<=n)(h2:n<4611686018427387904):(qN n).1<=(qN n).2/\(qN n).2<=17179869184:=by
 have hs:=Yn5 h1 h2
 have hk:lgK n<62:=YeC (by decide) h2
 refine⟨(Nat.pow_le_pow_iff_right (by decide)).1 (YHC hs.1 hs.2),?_⟩
 unfold qN
 split
 ·show lgK n*268435456<=_;omega
 ·have:=(YgL 9223372036854775808 true 28 (n*2^(63-lgK n)) (n*2^(63-lgK n)) (lgK n)).2
  rw[show(2:Nat)^28=268435456 from rfl]at this
  omega
theorem YDW{n p:Nat}(h1:1<=n)(h2:n<4611686018427387904):(lN n p).1<=(lN n p).2/\(lN n p).2<=64*2^p:=by
 have hs:=Yf2 (p:=p) h1 h2
 have hk:lgK n<62:=YeC (by decide) h2
 refine⟨(Nat.pow_le_pow_iff_right (by decide)).1 (YHC hs.1 hs.2),?_⟩
 unfold lN
 split
 ·exact YHs _ (by omega)
 ·exact YHC (YgL _ false p _ _ (lgK n)).2 (YHs _ (by omega))
theorem Ykc{g h:Nat->Nat}(H:∀n,1<=n->n<4611686018427387904->g n<=h n):∀(l:List (Int×Int)),(∀x,x∈l->okU x)->upS g l<=upS h l/\dnS g l<=dnS h l
 | [],_=>by simp [upS,dnS]
 |x::l,hl=>by
  obtain⟨a1,a2⟩:=Ykc H l fun y hy=>hl y (YHu _ hy)
  obtain⟨n1,n2,_⟩:=Yc5 (hl x (YHw ..))
  have h1:=YHs x.2.toNat (H _ n1 n2)
  have h2:=YHs (-x.2).toNat (H _ n1 n2)
  rw[upS,dnS,upS,dnS]
  constructor
  ·split <;> omega
  ·split <;> omega
def Yaq(a:Int×Int):Int:=a.1*18446744073709551616+a.2
theorem Ytw{M t:Int}(hM:0<M):t/M*M+t%M=t:=Int.ediv_mul_add_emod ..
theorem YeH{a:Int×Int}{x y:Int}(ha:okL a)(h0:0<=x*y)(h:Yaq a+x*y<340282366920938463463374607431768211456):Yaq (YdO a x y)=Yaq a+x*y:=by
 obtain⟨⟨a0,a1⟩,b0,b1⟩:=ha
 unfold Yaq at h⊢
 unfold YdO
 generalize x*y=t at*
 have e1:=Ytw (M:=18446744073709551616) (t:=t) (by decide)
 have e2:=Ytw (M:=18446744073709551616) (t:=a.2+t%18446744073709551616) (by decide)
 have r1:=Int.emod_nonneg t (show(18446744073709551616:Int)≠0 by decide)
 have r2:=Int.emod_lt_of_pos t (show(0:Int)<18446744073709551616 by decide)
 have r3:=Int.emod_nonneg (a.2+t%18446744073709551616) (show(18446744073709551616:Int)≠0 by decide)
 have r4:=Int.emod_lt_of_pos (a.2+t%18446744073709551616) (show(0:Int)<18446744073709551616 by decide)
 have q1:0<=t/18446744073709551616:=Int.ediv_nonneg h0 (by decide)
 have q2:0<=(a.2+t%18446744073709551616)/18446744073709551616:=Int.ediv_nonneg (by omega) (by decide)
 generalize t%18446744073709551616=lo at*
 generalize t/18446744073709551616=hi at*
 generalize(a.2+lo)%18446744073709551616=r at*
 generalize(a.2+lo)/18446744073709551616=c at*
 rw[YHJ (a.1+hi) (by omega),YHJ (a.1+hi+c) (by omega)]
 omega
theorem Ylc{a b:Int×Int}(ha:okL a)(hb:okL b):YhI a b=decide (Yaq b<Yaq a):=by
 obtain⟨⟨a0,a1⟩,a2,a3⟩:=ha
 obtain⟨⟨b0,b1⟩,b2,b3⟩:=hb
 unfold YhI Yaq
 by_cases c:b.1<a.1
 ·rw[decide_eq_true c,Bool.true_or,decide_eq_true (by omega)]
 ·rw[decide_eq_false c,Bool.false_or]
  by_cases d:a.1=b.1
  ·rw[decide_eq_true d,Bool.true_and,d]
   by_cases e:b.2<a.2
   ·rw[decide_eq_true e,decide_eq_true (by omega)]
   ·rw[decide_eq_false e,decide_eq_false (by omega)]
  ·rw[decide_eq_false d,Bool.false_and,decide_eq_false (by omega)]
theorem YnK:∀(l:List (Int×Int))(s:Gss),s.ok->(∀x,x∈l->okU x)->
 Yaq s.u0+(upS (fun n=>(qN n).1) l:Nat)<340282366920938463463374607431768211456->Yaq s.u1+(upS (fun n=>(qN n).2) l:Nat)<340282366920938463463374607431768211456->
 Yaq s.d0+(dnS (fun n=>(qN n).1) l:Nat)<340282366920938463463374607431768211456->Yaq s.d1+(dnS (fun n=>(qN n).2) l:Nat)<340282366920938463463374607431768211456->
 (l.foldl gssS s).ok/\Yaq (l.foldl gssS s).u0=Yaq s.u0+(upS (fun n=>(qN n).1) l:Nat)/\Yaq (l.foldl gssS s).u1=Yaq s.u1+(upS (fun n=>(qN n).2) l:Nat)/\
   Yaq (l.foldl gssS s).d0=Yaq s.d0+(dnS (fun n=>(qN n).1) l:Nat)/\Yaq (l.foldl gssS s).d1=Yaq s.d1+(dnS (fun n=>(qN n).2) l:Nat)
 | [],s,hs,_,_,_,_,_=>by simpa [upS,dnS]using hs
 |x::l,s,hs,hl,h1,h2,h3,h4=>by
  have hx:=hl x (YHw ..)
  obtain⟨n1,n2,n3⟩:=Yc5 hx
  have hq:Ya3 x.1=Yrn (qN x.1.toNat):=by
   conv=>lhs;rw[n3]
   exact Ys4 n1 n2
  obtain⟨k1,k2,k3,k4⟩:=hs
  have ih:=YnK l (gssS s x) (YrP s x ⟨k1,k2,k3,k4⟩) fun y hy=>hl y (YHu _ hy)
  rw[upS,Int.natCast_add]at h1 h2
  rw[dnS,Int.natCast_add]at h3 h4
  rw[YHX,upS,upS,dnS,dnS,Int.natCast_add,Int.natCast_add,Int.natCast_add,Int.natCast_add]
  by_cases c:x.2<0
  ·rw[if_pos c]at h1 h2 h3 h4
   simp only[if_pos c]
   have c0:¬0<=x.2:=by omega
   have hm:∀z:Nat,(z:Int)*(-x.2)=((z*(-x.2).toNat:Nat):Int):=fun z=>by rw[YIj];congr 1;omega
   have hz:∀z:Nat,0<=(z:Int)*(-x.2):=fun z=>YIe (by omega) (by omega)
   have e:gssS s x= { s with d0:=YdO s.d0 ((qN x.1.toNat).1:Nat) (-x.2),d1:=YdO s.d1 ((qN x.1.toNat).2:Nat) (-x.2)}:=by rw[gssS,if_neg c0,hq];rfl
   have p0:=YeH (x:=((qN x.1.toNat).1:Nat)) (y:= -x.2) k3 (hz _) (by rw[hm];omega)
   have p1:=YeH (x:=((qN x.1.toNat).2:Nat)) (y:= -x.2) k4 (hz _) (by rw[hm];omega)
   rw[hm]at p0 p1
   rw[e]at ih⊢
   simp only at ih h1 h2 h3 h4
   rw[p0,p1]at ih
   obtain⟨i0,i1,i2,i3,i4⟩:=ih (by omega) (by omega) (by omega) (by omega)
   exact⟨i0,by omega,by omega,by omega,by omega⟩
  ·rw[if_neg c]at h1 h2 h3 h4
   simp only[if_neg c]
   have c0:0<=x.2:=by omega
   have hm:∀z:Nat,(z:Int)*x.2=((z*x.2.toNat:Nat):Int):=fun z=>by rw[YIj];congr 1;omega
   have hz:∀z:Nat,0<=(z:Int)*x.2:=fun z=>YIe (by omega) (by omega)
   have e:gssS s x= { s with u0:=YdO s.u0 ((qN x.1.toNat).1:Nat) x.2,u1:=YdO s.u1 ((qN x.1.toNat).2:Nat) x.2}:=by rw[gssS,if_pos c0,hq];rfl
   have p0:=YeH (x:=((qN x.1.toNat).1:Nat)) (y:=x.2) k1 (hz _) (by rw[hm];omega)
   have p1:=YeH (x:=((qN x.1.toNat).2:Nat)) (y:=x.2) k2 (hz _) (by rw[hm];omega)
   rw[hm]at p0 p1
   rw[e]at ih⊢
   simp only at ih h1 h2 h3 h4
   rw[p0,p1]at ih
   obtain⟨i0,i1,i2,i3,i4⟩:=ih (by omega) (by omega) (by omega) (by omega)
   exact⟨i0,by omega,by omega,by omega,by omega⟩
theorem YnL{l:List (Int×Int)}(hl:∀x,x∈l->okU x)(hn:l.length<=100):YgM l=
 if dnS (fun n=>(qN n).2) l<upS (fun n=>(qN n).1) l then(1,true)else if upS (fun n=>(qN n).2) l<dnS (fun n=>(qN n).1) l then(-1,true)else(0,false):=by
 obtain⟨a1,a2⟩:=S_le (g:=fun n=>(qN n).2) (fun n h1 h2=>(YED h1 h2).2) l hl
 obtain⟨b1,b2⟩:=Ykc (g:=fun n=>(qN n).1) (h:=fun n=>(qN n).2) (fun n h1 h2=>(YED h1 h2).1) l hl
 have hb:l.length*(17179869184*3000000000000000)<=100*(17179869184*3000000000000000):=YHs _ hn
 have z:Yaq (0,0)=0:=rfl
 have h0:gss0.ok:=by simp [Gss.ok,gss0,okL]
 obtain⟨⟨k1,k2,k3,k4⟩,v1,v2,v3,v4⟩:=YnK l gss0 h0 hl (by show Yaq (0,0)+_<_;omega) (by show Yaq (0,0)+_<_;omega) (by show Yaq (0,0)+_<_;omega) (by show Yaq (0,0)+_<_;omega)
 have v1:Yaq (l.foldl gssS gss0).u0=(upS (fun n=>(qN n).1) l:Nat):=by rw[v1];show Yaq (0,0)+_=_;omega
 have v2:Yaq (l.foldl gssS gss0).u1=(upS (fun n=>(qN n).2) l:Nat):=by rw[v2];show Yaq (0,0)+_=_;omega
 have v3:Yaq (l.foldl gssS gss0).d0=(dnS (fun n=>(qN n).1) l:Nat):=by rw[v3];show Yaq (0,0)+_=_;omega
 have v4:Yaq (l.foldl gssS gss0).d1=(dnS (fun n=>(qN n).2) l:Nat):=by rw[v4];show Yaq (0,0)+_=_;omega
 unfold YgM
 simp only
 rw[Ylc k1 k4,Ylc k3 k2,v1,v2,v3,v4]
 simp only[Int.ofNat_lt,decide_eq_true_eq]
theorem Yly{p:Nat}(hp:p<=2048):∀(l:List (Int×Int))(s:Bnd)(e:Nat),(∀x,x∈l->okU x)->e<=32*512->
 s.ul+upS (fun n=>(lN n p).1) l<2^e->s.uh+upS (fun n=>(lN n p).2) l<2^e->s.dl+dnS (fun n=>(lN n p).1) l<2^e->s.dh+dnS (fun n=>(lN n p).2) l<2^e->
 l.foldl (Ydj p) s=⟨s.ul+upS (fun n=>(lN n p).1) l,s.uh+upS (fun n=>(lN n p).2) l,s.dl+dnS (fun n=>(lN n p).1) l,s.dh+dnS (fun n=>(lN n p).2) l⟩
 | [],s,e,_,_,_,_,_,_=>by simp [upS,dnS]
 |x::l,s,e,hl,he,h1,h2,h3,h4=>by
  have hx:=hl x (YHw ..)
  obtain⟨n1,n2,n3⟩:=Yc5 hx
  have hq:logF x.1 p=lN x.1.toNat p:=by
   conv=>lhs;rw[n3]
   exact Yz2 n1 n2 hp
  have ih:=Yly hp l (Ydj p s x) e (fun y hy=>hl y (YHu _ hy)) he
  rw[upS]at h1 h2
  rw[dnS]at h3 h4
  rw[YHX,upS,upS,dnS,dnS]
  by_cases c:x.2<0
  ·rw[if_pos c]at h1 h2 h3 h4
   simp only[if_pos c]
   have e:Ydj p s x= { s with dl:=s.dl+(lN x.1.toNat p).1*(-x.2).toNat,dh:=s.dh+(lN x.1.toNat p).2*(-x.2).toNat}:=by
    rw[Ydj,if_pos c,hq]
    rw[Yie (e:=e) (by omega) he,Yie (e:=e) (by omega) he,Ygh (e:=e) (by omega) he,Ygh (e:=e) (by omega) he]
   rw[e]at ih⊢
   simp only at ih
   rw[ih (by omega) (by omega) (by omega) (by omega)]
   simp only[Bnd.mk.injEq]
   omega
  ·rw[if_neg c]at h1 h2 h3 h4
   simp only[if_neg c]
   have e:Ydj p s x= { s with ul:=s.ul+(lN x.1.toNat p).1*x.2.toNat,uh:=s.uh+(lN x.1.toNat p).2*x.2.toNat}:=by
    rw[Ydj,if_neg c,hq]
    rw[Yie (e:=e) (by omega) he,Yie (e:=e) (by omega) he,Ygh (e:=e) (by omega) he,Ygh (e:=e) (by omega) he]
   rw[e]at ih⊢
   simp only at ih
   rw[ih (by omega) (by omega) (by omega) (by omega)]
   simp only[Bnd.mk.injEq]
   omega
theorem YtE{l:List (Int×Int)}{p:Nat}(hp:p<=2048)(hl:∀x,x∈l->okU x)(hn:l.length<=100):Ych l p=⟨upS (fun n=>(lN n p).1) l,upS (fun n=>(lN n p).2) l,dnS (fun n=>(lN n p).1) l,dnS (fun n=>(lN n p).2) l⟩:=by
 obtain⟨a1,a2⟩:=S_le (g:=fun n=>(lN n p).2) (B:=64*2^p) (fun n h1 h2=>(YDW h1 h2).2) l hl
 obtain⟨b1,b2⟩:=Ykc (g:=fun n=>(lN n p).1) (h:=fun n=>(lN n p).2) (fun n h1 h2=>(YDW h1 h2).1) l hl
 have hb:l.length*(64*2^p*3000000000000000)<=100*(64*2^p*3000000000000000):=YHs _ hn
 have hp2:100*(64*2^p*3000000000000000)<2^(p+65):=by
  have:(2:Nat)^(p+65)=36893488147419103232*2^p:=by rw[YHz,YHq]
  have:=Nat.one_le_two_pow (n:=p)
  omega
 unfold Ych
 rw[Yly hp l ⟨0,0,0,0⟩ (p+65) hl (by omega) (by simp only;omega) (by simp only;omega) (by simp only;omega) (by simp only;omega)]
 simp only[YIb]
def encB(x:Nat):List SV:=[.int .i64 x]
def hitF(out:List Nat)(n:Nat):Nat:=Yb9 (fun i=>decide (1<Nat.gcd (out.getD i 0) n)) out.length 0
def Ycs:Nat->List Nat->List Nat->List Nat
 |0,_,out=>out
 |f+1,wait,out=>
  if wait.length=0 then out
  else if wait.getD (wait.length-1) 0=1 then Ycs f (wait.take (wait.length-1)) out
  else if hitF out (wait.getD (wait.length-1) 0)<out.length then
   Ycs f (wait.take (wait.length-1)++[Nat.gcd (out.getD (hitF out (wait.getD (wait.length-1) 0)) 0) (wait.getD (wait.length-1) 0),out.getD (hitF out (wait.getD (wait.length-1) 0)) 0/Nat.gcd (out.getD (hitF out (wait.getD (wait.length-1) 0)) 0) (wait.getD (wait.length-1) 0),wait.getD (wait.length-1) 0/Nat.gcd (out.getD (hitF out (wait.getD (wait.length-1) 0)) 0) (wait.getD (wait.length-1) 0)])
    (out.take (hitF out (wait.getD (wait.length-1) 0))++out.drop (hitF out (wait.getD (wait.length-1) 0)+1))
  else Ycs f (wait.take (wait.length-1)) (out++[wait.getD (wait.length-1) 0])
def Ybd(out:List Nat)(x:Int×Int):List Nat:=Ycs 3000 [x.1.toNat] out
def YiF(l:List (Int×Int)):List Nat:=l.foldl Ybd []
def YA:List Nat->Nat
 | []=>1
 |x::l=>x*YA l
theorem YaA:∀(a b:List Nat),YA (a++b)=YA a*YA b
 | [],b=>by simp [YA]
 |x::a,b=>by rw[List.cons_append,YA,YA,YaA a b,YHt]
theorem Yhb:∀{l:List Nat},(∀x,x∈l->1<=x)->1<=YA l
 | [],_=>by decide
 |x::l,h=>by
  have h1:=Yhb (l:=l) fun y hy=>h y (YHu _ hy)
  have h2:=h x (YHw ..)
  rw[YA]
  exact Nat.mul_pos h2 h1
theorem YdJ{w:List Nat}(h:w.length≠0):w=w.take (w.length-1)++[w.getD (w.length-1) 0]:=by
 have:=YbP (l:=w) (i:=w.length-1) (by omega)
 rw[show w.length-1+1=w.length by omega,YIq]at this
 exact this
theorem Yom{w:List Nat}{i:Nat}(h:i<w.length):w=w.take i++w.getD i 0::w.drop (i+1):=by
 have h1:=List.take_append_drop i w
 have h2:w.drop i=w.getD i 0::w.drop (i+1):=by
  rw[List.drop_eq_getElem_cons h,YHo,YH2 h];rfl
 rw[h2]at h1
 exact h1.symm
structure DrOk (B f:Nat) (wait out:List Nat):Prop where
 wp:∀x,x∈wait->1<=x/\x<=1099511627776
 op:∀x,x∈out->2<=x/\x<=1099511627776
 pb:Yo (YA out*YA wait)<=B
 mu:3*Yo (YA out*YA wait)+wait.length<=f
theorem DrOk.pop{B f:Nat}{wait out:List Nat}(h:DrOk B f wait out)(hw:wait.length≠0)(h1:wait.getD (wait.length-1) 0=1):∃g,f=g+1/\DrOk B g (wait.take (wait.length-1)) out:=by
 have hm:=h.mu
 have hpb:=h.pb
 refine⟨f-1,by omega,?_⟩
 have e:=YdJ hw
 have e2:YA wait=YA (wait.take (wait.length-1)):=by
  conv=>lhs;rw[e]
  rw[YaA,h1];simp [YA]
 refine⟨fun x hx=>h.wp x (List.mem_of_mem_take hx),h.op,by rw[<-e2];exact hpb,?_⟩
 rw[<-e2,YHV]
 omega
theorem DrOk.push{B f:Nat}{wait out:List Nat}(h:DrOk B f wait out)(hw:wait.length≠0)(h1:wait.getD (wait.length-1) 0≠1):∃g,f=g+1/\DrOk B g (wait.take (wait.length-1)) (out++[wait.getD (wait.length-1) 0]):=by
 have hm:=h.mu
 have hn:=h.wp _ (Yh (l:=wait) (i:=wait.length-1) (by omega))
 have hn':1<=wait.getD (wait.length-1) 0/\wait.getD (wait.length-1) 0<=1099511627776:=hn
 have hpb:=h.pb
 have e:=YdJ hw
 have e2:YA out*YA wait=YA (out++[wait.getD (wait.length-1) 0])*YA (wait.take (wait.length-1)):=by
  conv=>lhs;rw[e]
  rw[YaA,YaA]
  simp only[YA,Nat.mul_one]
  rw[YHq (YA (wait.take _)),YHt]
 refine⟨f-1,by omega,⟨fun x hx=>h.wp x (List.mem_of_mem_take hx),fun x hx=>?_,by rw[<-e2];exact hpb,?_⟩⟩
 ·rcases YHO.1 hx with hx|hx
  ·exact h.op x hx
  ·rw[YHZ]at hx
   subst hx
   omega
 rw[<-e2,YHV]
 omega
theorem YoY{a b:Nat}(h:a<=b):Yo a<=Yo b:=bitsN_le.2 (YIi h (Ydn b))
theorem DrOk.hit{B f:Nat}{wait out:List Nat}(h:DrOk B f wait out)(hw:wait.length≠0){i:Nat}(hi:i<out.length)(hg:1<Nat.gcd (out.getD i 0) (wait.getD (wait.length-1) 0)):
 ∃g,f=g+1/\DrOk B g (wait.take (wait.length-1)++[Nat.gcd (out.getD i 0) (wait.getD (wait.length-1) 0),out.getD i 0/Nat.gcd (out.getD i 0) (wait.getD (wait.length-1) 0),wait.getD (wait.length-1) 0/Nat.gcd (out.getD i 0) (wait.getD (wait.length-1) 0)]) (out.take i++out.drop (i+1)):=by
 have hm:=h.mu
 have hn:1<=wait.getD (wait.length-1) 0/\wait.getD (wait.length-1) 0<=1099511627776:=h.wp _ (Yh (l:=wait) (i:=wait.length-1) (by omega))
 have hb:2<=out.getD i 0/\out.getD i 0<=1099511627776:=h.op _ (Yh (l:=out) (i:=i) hi)
 have e:=YdJ hw
 have e':=Yom hi
 generalize wait.getD (wait.length-1) 0=n at*
 generalize out.getD i 0=b at*
 have d1:=Nat.gcd_dvd_left b n
 have d2:=Nat.gcd_dvd_right b n
 generalize Nat.gcd b n=g at*
 obtain⟨b1,rfl⟩:=d1
 obtain⟨n1,rfl⟩:=d2
 rw[Nat.mul_div_cancel_left _ (by omega),Nat.mul_div_cancel_left _ (by omega)]
 have hb1:1<=b1:=Nat.pos_of_ne_zero fun hh=>by rw[hh,Nat.mul_zero]at hb;omega
 have hn1:1<=n1:=Nat.pos_of_ne_zero fun hh=>by rw[hh,Nat.mul_zero]at hn;omega
 have gb:g<=g*b1:=Nat.le_mul_of_pos_right _ hb1
 have bb:b1<=g*b1:=Nat.le_mul_of_pos_left _ (by omega)
 have nb:n1<=g*n1:=Nat.le_mul_of_pos_left _ (by omega)
 have hpt:1<=YA (out.take i++out.drop (i+1))*YA (wait.take (wait.length-1)):=by
  refine Nat.mul_pos (Yhb fun x hx=>?_) (Yhb fun x hx=>(h.wp x (List.mem_of_mem_take hx)).1)
  rcases YHO.1 hx with hx|hx
  ·have:=(h.op x (List.mem_of_mem_take hx)).1;omega
  ·have:=(h.op x (YIm hx)).1;omega
 have eP:YA out*YA wait=g*(YA (out.take i++out.drop (i+1))*YA (wait.take (wait.length-1)++[g,b1,n1])):=by
  conv=>lhs;rw[e,e']
  simp only[YaA,YA,Nat.mul_one]
  generalize YA (out.take i)=A
  generalize YA (out.drop (i+1))=B
  generalize YA (wait.take (wait.length-1))=C
  simp only[YHt,YHY,YHq]
 have hp1:1<=YA (out.take i++out.drop (i+1))*YA (wait.take (wait.length-1)++[g,b1,n1]):=by
  rw[YaA (wait.take _),<-YHt]
  refine Nat.mul_pos hpt ?_
  simp only[YA,Nat.mul_one]
  exact Nat.mul_pos (by omega) (Nat.mul_pos hb1 hn1)
 have hP:Yo (YA (out.take i++out.drop (i+1))*YA (wait.take (wait.length-1)++[g,b1,n1]))+1<=Yo (YA out*YA wait):=by
  generalize hQ:YA (out.take i++out.drop (i+1))*YA (wait.take (wait.length-1)++[g,b1,n1])=Q at*
  rw[eP]
  have h2:2*Q<=g*Q:=YHs _ (by omega)
  have h3:=YhY (a:=g*Q) (by omega)
  have h4:Yo Q<=Yo (g*Q/2):=YoY (by omega)
  omega
 have hpb:=h.pb
 refine⟨f-1,by omega,⟨fun x hx=>?_,fun x hx=>?_,by omega,?_⟩⟩
 ·rcases YHO.1 hx with hx|hx
  ·exact h.wp x (List.mem_of_mem_take hx)
  ·simp only[YHI,List.not_mem_nil,or_false]at hx
   rcases hx with rfl|rfl|rfl <;> omega
 ·rcases YHO.1 hx with hx|hx
  ·exact h.op x (List.mem_of_mem_take hx)
  ·exact h.op x (YIm hx)
 ·rw[YHM,YHV]
  simp only[YH8,List.length_nil]
  omega
theorem Yrf(a b:Nat):Yo (a*b)<=Yo a+Yo b:=by
 rw[bitsN_le,YHz]
 exact Nat.mul_lt_mul_of_lt_of_le (Ydn a) (Nat.le_of_lt (Ydn b)) (YH _)
theorem DrOk.start{i N:Nat}{out:List Nat}(hN0:1<=N)(hN1:N<=1000000000001)(ho:∀x,x∈out->2<=x/\x<=1099511627776)(hb:Yo (YA out)<=40*i+1)(hi:i<20):DrOk (40*(i+1)+1) 3000 [N] out:=by
 have h1:Yo N<=40:=bitsN_le.2 (by omega)
 have h2:Yo (YA out*YA [N])<=40*(i+1)+1:=by
  have:=Yrf (YA out) (YA [N])
  have e:YA [N]=N:=by simp [YA]
  rw[e]at this⊢
  omega
 refine⟨fun x hx=>?_,ho,h2,?_⟩
 ·rw[YHZ]at hx
  subst hx
  omega
 ·simp only[YH8,List.length_nil]
  omega
def v120:VF:=⟨73,[.tmp 2],(ZR [u1 2 .mov [.cn .nil]] (ZR [u1 3 .mov [.cn .nil]] (.seq (ZR [Zm 11 0,Zl 12 11,Zi 13 0] (.block 0 (.loop (ZR [Zr 14 .lss 13 12] (.seq (ZC 14 .skip (.exit 0)) (.seq (.block 1 (ZR [Zx 15 2 11 13,Zt 16 2 15,Zn 5,Zs 2 5 16] (.scope (ZR [Za 17 0 5,Zf 18 1 17,u1 19 (.buildSlice 1 1 [(.int .i64 0)] [(0,1)]) [.tm 18],Zm 6 19] (.seq .skip (.block 2 (.loop (.seq (ZR [Zm 20 6,Zl 21 20,Zq 22 .gtr 21 0] (ZC 22 .skip (.exit 2))) (.block 3 (ZR [Zm 23 6,Zm 24 6,Zl 25 24,u1 26 (.ari .sub) [.tm 25,.cn (.int .i64 1)],Zx 27 1 23 26,Zf 28 1 27,Zm 7 28] (ZR [Zm 29 6,Zm 30 6,Zl 31 30,u1 32 (.ari .sub) [.tm 31,.cn (.int .i64 1)],u1 33 (.slice 1 false true) [.tm 29,.tm 32],Zm 6 33] (.seq (ZR [Zm 34 7,Zq 35 .eql 34 1] (ZC 35 (.exit 3) .skip)) (.seq (ZR [Zm 36 3,Zl 37 36,Zi 38 0] (.block 4 (.loop (ZR [Zr 39 .lss 38 37] (.seq (ZC 39 .skip (.exit 4)) (.seq (.block 5 (ZR [Zm 40 38,Zx 41 1 36 38,Zf 42 1 41,Zm 8 40,Zm 9 42] (ZR [Zm 43 9,Zm 44 7,Zd 45 136 43 44,Zm 10 45] (ZR [Zm 46 10,Zq 47 .gtr 46 1] (ZC 47 (.seq (.draw [] [Zu 48 3,Zu 49 8,w1 50 (.slice 1 false true) [.tm 48,.tm 49],Zu 51 3,Zu 52 8,w1 53 (.ari .add) [.tm 52,.cn (.int .i64 1)],w1 54 (.slice 1 true false) [.tm 51,.tm 53],w1 55 (.append 1 8 [(.int .i64 0)]) [.tm 50,.tm 54],Zu 3 55]) (.seq (.draw [] [Zu 56 6,Zu 57 10,Zu 58 9,Zu 59 10,w1 60 .quo [.tm 58,.tm 59],Zu 61 7,Zu 62 10,w1 63 .quo [.tm 61,.tm 62],w1 64 (.buildSlice 1 3 [(.int .i64 0)] [(0,1),(1,1),(2,1)]) [.tm 57,.tm 60,.tm 63],w1 65 (.append 1 8 [(.int .i64 0)]) [.tm 56,.tm 64],Zu 6 65]) (.exit 3))) .skip))))) (.region [Zp 66 38 1,Zm 38 66]))))))) (.region [Zm 67 3,Zm 68 7,u1 69 (.buildSlice 1 1 [(.int .i64 0)] [(0,1)]) [.tm 68],u1 70 (.append 1 8 [(.int .i64 0)]) [.tm 67,.tm 69],Zm 3 70])))))))))))))) (.region [Zp 71 13 1,Zm 13 71]))))))) (ZR [Zm 72 3,Zm 2 72] .ret))))⟩
theorem YBy:Ye YHk Tryz.f120=some v120:=by kernel_rfl
def baseC:Ctr:={ alias:=false,of:=fun l=>match l with
 | [.vs _ _ n sz get]=> .ex (List (Int×Int)) fun l=> .pre (lsP 2 enc2 n sz get l/\(∀x,x∈l->okT x)/\n<=20) (.all Bool fun y=> .fin (.vs true y (YiF l).length 1 (fun k=>encB ((YiF l).getD k 0))) [])
 |_=>noC}
def RA8:Env:={ ct:=fun n=>match n with|136=>some gcdC|_=>none,fn:=fun _=>none,meth:=fun _ _=>none}
theorem Yj3:RA8.ct 136=some gcdC:=rfl
theorem YCL:Yn YHk RA8:=by
 refine⟨fun f c h=>?_,fun f vf h=>?_,(fun _ _ _ h=>by cases h),by kernel_rfl,(fun _ h=>by cases h),(fun _ _ h=>by cases h)⟩
 ·simp only[RA8]at h
  split at h
  ·cases h;exact⟨gcd_c,Tryz.f136,Tryz.func136,by kernel_rfl,by kernel_rfl⟩
  ·cases h
 ·cases h
structure DSt where
 f:Nat
 W:List Nat
 n:Nat
 out:List Nat
 yw:Bool
 yo:Bool
theorem YrG{f:Nat}:∀{wait out:List Nat},(Ycs f wait out).length<=out.length+f:=by
 induction f with
 |zero=>intro wait out;rw[Ycs];omega
 |succ f ih=>
  intro wait out
  rw[Ycs]
  split
  ·omega
  ·split
   ·have:= @ih (wait.take (wait.length-1)) out;omega
   ·split
    ·rename_i hh
     refine YHC ih ?_
     rw[YHM,YHV,YIg]
     omega
    ·refine YHC ih ?_
     rw[YHM]
     simp only[YH8,List.length_nil]
     omega
theorem YDl:baseC.ok YHk 120:=by
 refine Yb Tryz.func120 YBy YCL 800 baseC fun args k h=>?_
 simp only[baseC]at h
 split at h
 ·rename_i tt z n sz get
  obtain⟨l,⟨⟨rfl,rfl,hg⟩,hl,hn⟩,h⟩:=h
  refine⟨[.vs tt z l.length 2 (fun k=>enc2 (l.getD k default))],⟨⟨id,rfl,rfl,rfl,hg⟩,trivial⟩,?_⟩
  dsimp only[v120,enc2,go_sem,reduceIte,YHf]
  simp only[Yc,YHf,YHh,reduceCtorEq,YHg]
  refine Loop.keep [0,10,0] (Nat×List Nat×Bool) (fun s=>[(3,.own 0 0 s.2.1.length 1),(13,.int .i64 s.1)]) (fun s=>[(0,.own s.2.2 1 s.2.1.length (fun k=>encB (s.2.1.getD k 0)))]) [.gone] (fun s=>s.1<=l.length/\s.2.1=(l.take s.1).foldl Ybd []/\(∀x,x∈s.2.1->2<=x/\x<=1099511627776)/\Yo (YA s.2.1)<=40*s.1+1/\s.2.1.length<=3000*s.1/\(s.2.2=true->s.2.1.length=0)) (fun s=>l.length-s.1) ?_ ?_
  ·refine⟨(0,[],true),⟨by simp only;omega,rfl,⟨fun x hx=>absurd hx (by simp),by decide,YHr _,fun _=>rfl⟩⟩,?_⟩
   dsimp only[List.length_nil,go_sem,reduceIte,YHf]
   simp only[Ya]
   simp
  ·rintro⟨i,out,yo⟩ ⟨hi,hG,hok,hbp,hlen,hyo⟩
   dsimp only at hi hG hok hbp hlen hyo
   dsimp only[enc2,YHj,go_sem,reduceIte,YHf]
   simp only[Yc,YHf,YHh,reduceCtorEq,YHg]
   refine⟨fun hlt=>?_,fun hge=>?_⟩
   ·have hx:=hl _ (Yh (by omega:i<l.length))
    have hstep:(l.take (i+1)).foldl Ybd []=Ybd out (l.getD i default):=by
     rw[Ym (by omega),<-hG]
    generalize l.getD i default=x at hx hstep⊢
    obtain⟨q0,q1,q2,q3⟩:=hx
    obtain⟨N,hN⟩:∃N:Nat,x.1=(N:Int):=⟨x.1.toNat,by omega⟩
    have hR:Ybd out x=Ycs 3000 [N] out:=by rw[Ybd,hN,YHj]
    obtain⟨R,hRR⟩:∃R,R=Ybd out x:=⟨_,rfl⟩
    rw[<-hRR]at hR hstep
    rw[hN]
    have hmu:DrOk (40*(i+1)+1) 3000 [N] out:=DrOk.start (by omega) (by omega) hok hbp (by omega)
    refine⟨⟨by omega,by omega⟩,by decide,?_⟩
    refine Loop.keep [0,10,0,0] DSt (fun s=>[(3,.own 0 0 s.out.length 1),(6,.own 2 0 s.n 1)]) (fun s=>[(0,.own s.yo 1 s.out.length (fun k=>encB (s.out.getD k 0))),(2,.own s.yw 1 s.W.length (fun k=>encB (s.W.getD k 0)))]) [] (fun s=>s.n<=s.W.length/\DrOk (40*(i+1)+1) s.f (s.W.take s.n) s.out/\R=Ycs s.f (s.W.take s.n) s.out/\s.out.length+s.f<=3000*(i+1)/\(s.yo=true->s.out.length=0)) (fun s=>s.f) ?_ ?_
    ·refine⟨⟨3000,[N],1,out,false,yo⟩,⟨YHr _,hmu,hR,by simp only;omega,hyo⟩,?_⟩
     dsimp only[List.length_nil,YH8,go_sem,reduceIte,YHf]
     simp only[Ya]
     refine⟨by decide,fun k hk=>⟨⟨rfl,rfl⟩,trivial⟩,fun k hk=>?_⟩
     obtain rfl:k=0:=by omega
     exact⟨⟨rfl,rfl⟩,trivial⟩
    ·rintro⟨f,W,n,out,yw,yo⟩ ⟨hnW,hmu,hR,hlen,hyo⟩
     dsimp only at hnW hmu hR hlen hyo
     dsimp only[Yj3,gcdC,encB,YHj,go_sem,reduceIte,YHf]
     simp only[Yc,YHf,YHh,reduceCtorEq,YHg]
     have hwl:(W.take n).length=n:=by rw[YHV];omega
     refine⟨fun hpos=>?_,fun hz=>?_⟩
     ·have hwn:(W.take n).length≠0:=by omega
      have hgl:(W.take n).getD ((W.take n).length-1) 0=W.getD (n-1) 0:=by
       rw[hwl,YHo,YHo,YH3,if_pos (by omega)]
      have htl:(W.take n).take ((W.take n).length-1)=W.take (n-1):=by
       rw[hwl,List.take_take];congr 1;omega
      obtain⟨g,rfl⟩:∃g,f=g+1:=⟨f-1,by have:=hmu.mu;omega⟩
      have hnf:n<=70000:=by have:=hmu.mu;omega
      rw[YP (by omega) (by omega),YHj]
      rw[Ycs,if_neg hwn,hgl,htl]at hR
      obtain⟨v,hv⟩:∃v,v=W.getD (n-1) 0:=⟨_,rfl⟩
      have hvr:1<=v/\v<=1099511627776:=by
       have:=hmu.wp _ (Yh (l:=W.take n) (i:=(W.take n).length-1) (by omega))
       rw[show(W.take n).getD ((W.take n).length-1) default=W.getD (n-1) 0 from hgl,<-hv]at this
       exact this
      refine⟨⟨by omega,by omega⟩,by omega,⟨by omega,by omega⟩,fun h1=>?_,fun h1=>?_⟩
      ·have h1':W.getD (n-1) 0=1:=by omega
       obtain⟨g',hg',hd⟩:=hmu.pop hwn (by rw[hgl];exact h1')
       obtain rfl:g=g':=by omega
       rw[if_pos h1']at hR
       rw[htl]at hd
       refine⟨⟨g,W,n-1,out,yw,yo⟩,⟨by simp only;omega,hd,hR,by simp only;omega,hyo⟩,by simp only;omega,?_⟩
       simp only[Ya]
       exact⟨by decide,by decide⟩
      ·have h1':W.getD (n-1) 0≠1:=by omega
       rw[if_neg h1']at hR
       rw[<-hv]at hR h1'⊢
       refine Loop.keep [0,2,2,0,3,0,0,22,0] Nat (fun t=>[(38,.int .i64 t)]) (fun t=>[]) [] (fun t=>t<=out.length/\∀j,j<t->¬1<Nat.gcd (out.getD j 0) v) (fun t=>out.length-t) ?_ ?_
       ·refine⟨0,⟨by omega,fun j hj=>by omega⟩,?_⟩
        dsimp only[go_sem,reduceIte,YHf]
        simp only[Ya]
        exact⟨by decide,by decide,by decide,rfl⟩
       ·rintro t ⟨ht,hno⟩
        dsimp only[Yj3,gcdC,encB,YHj,go_sem,reduceIte,YHf]
        simp only[Yc,YHf,YHh,reduceCtorEq,YHg]
        refine⟨fun hlt2=>?_,fun hge2=>?_⟩
        ·have hb:2<=out.getD t 0/\out.getD t 0<=1099511627776:=hmu.op _ (Yh (l:=out) (i:=t) (by omega))
         have w1:IntKind.i64.wrap ((t:Int)+1)=((t+1:Nat):Int):=by rw[YHi _ (by omega)];simp
         rw[w1,YHj]
         refine⟨⟨by omega,by omega⟩,by omega,out.getD t 0,v,⟨rfl,rfl,by omega,by omega⟩,fun hgt=>?_,fun hng=>?_⟩
         ·have hgt':1<Nat.gcd (out.getD t 0) v:=by omega
          have hh:hitF out v=t:=YkX (fun j hj=>decide_eq_false (hno j hj)) (by omega) (fun _=>decide_eq_true hgt')
          obtain⟨g',hg',hd⟩:=hmu.hit hwn (i:=t) (by omega) (by rw[hgl,<-hv];exact hgt')
          obtain rfl:g=g':=by omega
          rw[hh,if_pos (by omega)]at hR
          rw[hgl,htl,<-hv]at hd
          obtain⟨b,hbd⟩:∃b,b=out.getD t 0:=⟨_,rfl⟩
          rw[<-hbd]at hR hd hb hgt hgt'⊢
          obtain⟨G,hG'⟩:∃G,G=Nat.gcd b v:=⟨_,rfl⟩
          rw[<-hG']at hR hd hgt hgt'⊢
          have e1:IntKind.i64.wrap ((b:Int).tdiv (G:Int))=((b/G:Nat):Int):=by
           have:(b:Int).tdiv (G:Int)=((b/G:Nat):Int):=IntWalk.up_tdiv rfl rfl
           have h2:b/G<=b:=Nat.div_le_self _ _
           rw[this]
           generalize b/G=q at h2⊢
           exact YHi _ (by omega)
          have e2:IntKind.i64.wrap ((v:Int).tdiv (G:Int))=((v/G:Nat):Int):=by
           have:(v:Int).tdiv (G:Int)=((v/G:Nat):Int):=IntWalk.up_tdiv rfl rfl
           have h2:v/G<=v:=Nat.div_le_self _ _
           rw[this]
           generalize v/G=q at h2⊢
           exact YHi _ (by omega)
          rw[e1,e2]
          have hsub:Yhr out.length (t+1)=out.length-(t+1):=by unfold Yhr;rfl
          rw[hsub]
          have hWt:(W.take (n-1)++[G,b/G,v/G]).length=n-1+3:=by rw[YHM,YHV];simp only[YH8,List.length_nil];omega
          have hol:(out.take t++out.drop (t+1)).length=t+(out.length-(t+1)):=by rw[YHM,YHV,YIg];omega
          refine⟨⟨by omega,by omega⟩,⟨by omega,by omega⟩,by unfold Y3;omega,by omega,by omega,by decide,⟨by unfold Y3;omega,fun k hk=>?_⟩,⟨g,W.take (n-1)++[G,b/G,v/G],n-1+3,out.take t++out.drop (t+1),yw&&decide False,yo&&decide (out.length-(t+1)=0)⟩,⟨?_,?_,?_,?_,?_⟩,by simp only;omega,?_⟩
          ·match k,hk with
           |0,_=>exact⟨rfl,trivial,trivial⟩
           |1,_=>exact⟨rfl,trivial,trivial⟩
           |2,_=>exact⟨rfl,trivial,trivial⟩
          ·simp only;omega
          ·simp only;rw[<-hWt,YIq];exact hd
          ·simp only;rw[<-hWt,YIq];exact hR
          ·simp only;omega
          ·simp only
           intro hy
           rw[YHn]at hy
           have:=hyo hy.1
           omega
          ·simp only[hol,hWt]
           simp only[Ya]
           refine⟨by decide,fun k hk=>?_,fun k hk=>?_⟩
           ·rw[YbK]
            by_cases hkt:k<t
            ·rw[if_pos hkt,YHo (l:=_++_),YH6 (by rw[YHV];omega),YH3,if_pos hkt,<-YHo]
             exact⟨⟨rfl,rfl⟩,trivial⟩
            ·rw[if_neg hkt,YHo (l:=_++_),List.getElem?_append_right (by rw[YHV];omega),YHV,YIn,<-YHo,show t+1+(k-min t out.length)=t+1+(k-t)by omega]
             exact⟨⟨rfl,rfl⟩,trivial⟩
           ·by_cases hkt:k<n-1
            ·rw[if_pos hkt,YHo (l:=_++_),YH6 (by rw[YHV];omega),YH3,if_pos hkt,<-YHo]
             exact⟨⟨rfl,rfl⟩,trivial⟩
            ·rw[if_neg hkt,YHo (l:=_++_),List.getElem?_append_right (by rw[YHV];omega),YHV,show k-min (n-1) W.length=k-(n-1)by omega]
             obtain⟨q,hq⟩:∃q,q=k-(n-1):=⟨_,rfl⟩
             rw[<-hq]
             have hq3:q<3:=by omega
             match q,hq3 with
             |0,_=>exact⟨⟨rfl,rfl⟩,trivial⟩
             |1,_=>exact⟨⟨rfl,rfl⟩,trivial⟩
             |2,_=>exact⟨⟨rfl,rfl⟩,trivial⟩
         ·refine⟨t+1,⟨by omega,fun j hj=>?_⟩,by omega,?_⟩
          ·rcases YHA j t with h'|h'
           ·exact hno j h'
           ·obtain rfl:j=t:=by omega
            exact fun hh=>hng (by omega)
          ·simp only[Ya]
           exact⟨by decide,by decide,by decide⟩
        ·obtain rfl:t=out.length:=by omega
         have hh:hitF out v=out.length:=YkX (fun j hj=>decide_eq_false (hno j hj)) (YHr _) (fun hlt=>absurd hlt (Nat.lt_irrefl _))
         obtain⟨g',hg',hd⟩:=hmu.push hwn (by rw[hgl,<-hv];exact h1')
         obtain rfl:g=g':=by omega
         rw[hh,if_neg (Nat.lt_irrefl _)]at hR
         rw[hgl,htl,<-hv]at hd
         have hol:(out++[v]).length=out.length+1:=by rw[YHM];rfl
         refine⟨by decide,⟨by unfold Y3;omega,fun k hk=>?_⟩,⟨g,W,n-1,out++[v],yw,yo&&decide False⟩,⟨by simp only;omega,hd,hR,by simp only;omega,?_⟩,by simp only;omega,?_⟩
         ·obtain rfl:k=0:=by omega
          exact⟨rfl,trivial,trivial⟩
         ·simp
         ·simp only[hol]
          simp only[Ya]
          refine⟨by decide,fun k hk=>?_⟩
          by_cases hkt:k<out.length
          ·rw[if_pos hkt,YHo (l:=_++_),YH6 hkt,<-YHo]
           exact⟨⟨rfl,rfl⟩,trivial⟩
          ·obtain rfl:k=out.length:=by omega
           rw[if_neg hkt,YHo (l:=_++_),List.getElem?_append_right (YHr _),Nat.sub_self]
           exact⟨⟨rfl,rfl⟩,trivial⟩
     ·obtain rfl:n=0:=by omega
      rw[List.take_zero]at hR hmu
      have hRo:R=out:=by
       rw[hR]
       cases f with
       |zero=>rfl
       |succ f=>rw[Ycs,if_pos List.length_nil]
      have hpb:=hmu.pb
      rw[show YA out*YA []=YA out from Nat.mul_one _]at hpb
      refine⟨(i+1,out,yo),⟨by simp only;omega,by rw[hstep,hRo],hmu.op,hpb,by simp only;omega,hyo⟩,by simp only;omega,?_⟩
      rw[YHi ((i:Int)+1) (by omega)]
      simp only[Ya]
      exact⟨by decide,by simp⟩
   ·obtain rfl:i=l.length:=by omega
    rw[YIq]at hG
    have hG:YiF l=out:=hG.symm
    rw[hG]at h
    refine YE (show k (.vs true yo out.length 1 (fun k=>encB (out.getD k 0))) []from h yo) ?_ (fun _=>by simp [Yt,encB,Ys])
    have e:expo [HO.own yo 1 out.length fun k=>encB (out.getD k 0)] (SV.own 0 0 out.length 1)= .vs true yo out.length 1 (fun k=>encB (out.getD k 0)):=by
     simp [expo,view,YaS,viewN,getH,YlJ,encB]
    rw[e]
    exact YC _ trivial
 ·exact h.1.elim
def v99:VF:=⟨39,[.tmp 2],(ZR [u1 2 .mov [.cn (.bool false)]] (.seq (ZR [Zm 9 0,Zc 10 120 9,Zl 11 10,Zi 12 0] (.block 0 (.loop (ZR [Zr 13 .lss 12 11] (.seq (ZC 13 .skip (.exit 0)) (.seq (.block 1 (ZR [Zx 14 1 10 12,Zf 15 1 14,Zm 4 15] (ZR [Zi 5 0] (.seq (ZR [Zm 16 0,Zl 17 16,Zi 18 0] (.block 2 (.loop (ZR [Zr 19 .lss 18 17] (.seq (ZC 19 .skip (.exit 2)) (.seq (.block 3 (ZR [Zx 20 2 16 18,Zt 21 2 20,Zn 7,Zs 2 7 21] (ZR [Za 22 0 7,Zf 23 1 22,Zm 8 23] (.block 4 (.loop (.seq (ZR [Zm 24 8,Zm 25 4,u1 26 .rem [.tm 24,.tm 25],Zq 27 .eql 26 0] (ZC 27 .skip (.exit 4))) (.seq (.block 5 (.region [Zm 31 5,Za 32 1 7,Zf 33 1 32,Zo 34 .add 31 33,Zm 5 34])) (.region [Zm 28 8,Zm 29 4,u1 30 .quo [.tm 28,.tm 29],Zm 8 30])))))))) (.region [Zp 35 18 1,Zm 18 35]))))))) (ZR [Zm 36 5,Zq 37 .neq 36 0] (ZC 37 (ZR [u1 2 .mov [.cn (.bool false)]] .ret) .skip)))))) (.region [Zp 38 12 1,Zm 12 38]))))))) (ZR [u1 2 .mov [.cn (.bool true)]] .ret)))⟩
theorem YG5:Ye YHk Tryz.f99=some v99:=by kernel_rfl
def divL:Nat->Int->Int->Int->Int->Int
 |0,_,_,_,s=>s
 |f+1,b,n,num,s=>if n.tmod b=0 then divL f b (IntKind.i64.wrap (n.tdiv b)) num (IntKind.i64.wrap (s+num))else s
def sumB(l:List (Int×Int))(b:Nat):Int:=l.foldl (fun s x=>divL 64 b x.1 x.2 s) 0
def oneF(l:List (Int×Int)):Bool:=(YiF l).all fun b=>decide (sumB l b=0)
theorem YcT{B:Nat}:∀{f:Nat}{wait out:List Nat},DrOk B f wait out->(∀x,x∈Ycs f wait out->2<=x/\x<=1099511627776)/\Yo (YA (Ycs f wait out))<=B
 |0,wait,out,h=>by
  rw[Ycs]
  have hw:wait=[]:=List.length_eq_zero_iff.1 (by have:=h.mu;omega)
  have:=h.pb
  rw[hw,show YA out*YA []=YA out from Nat.mul_one _]at this
  exact⟨h.op,this⟩
 |f+1,wait,out,h=>by
  rw[Ycs]
  by_cases hw:wait.length=0
  ·rw[if_pos hw]
   have hw:wait=[]:=List.length_eq_zero_iff.1 hw
   have:=h.pb
   rw[hw,show YA out*YA []=YA out from Nat.mul_one _]at this
   exact⟨h.op,this⟩
  ·rw[if_neg hw]
   by_cases h1:wait.getD (wait.length-1) 0=1
   ·rw[if_pos h1]
    obtain⟨g,hg,hd⟩:=h.pop hw h1
    obtain rfl:f=g:=by omega
    exact YcT hd
   ·rw[if_neg h1]
    by_cases h2:hitF out (wait.getD (wait.length-1) 0)<out.length
    ·rw[if_pos h2]
     have hs:=(YcC (f:=fun i=>decide (1<Nat.gcd (out.getD i 0) (wait.getD (wait.length-1) 0))) out.length 0).2.2.2 (by simpa [hitF]using h2)
     obtain⟨g,hg,hd⟩:=h.hit hw h2 (of_decide_eq_true hs)
     obtain rfl:f=g:=by omega
     exact YcT hd
    ·rw[if_neg h2]
     obtain⟨g,hg,hd⟩:=h.push hw h1
     obtain rfl:f=g:=by omega
     exact YcT hd
theorem Ygm{l:List (Int×Int)}(hl:∀x,x∈l->okT x)(hn:l.length<=20):∀x,x∈YiF l->2<=x/\x<=1099511627776:=by
 have key:∀i,i<=l.length->(∀x,x∈(l.take i).foldl Ybd []->2<=x/\x<=1099511627776)/\Yo (YA ((l.take i).foldl Ybd []))<=40*i+1:=fun i=>by
  induction i with
  |zero=>exact fun _=>⟨fun x hx=>absurd hx (by simp),by simp [YA];decide⟩
  |succ i ih=>
   intro hi
   obtain⟨h1,h2⟩:=ih (by omega)
   have hx:=hl _ (Yh (by omega:i<l.length))
   rw[Ym (by omega)]
   obtain⟨q0,q1,q2,q3⟩:=hx
   exact YcT (DrOk.start (by omega) (by omega) h1 h2 (by omega))
 have:=(key l.length (YHr _)).1
 rwa [YIq]at this
theorem Yq6(l:List (Int×Int)):(YiF l).length<=3000*l.length:=by
 have key:∀(l:List (Int×Int))(out:List Nat),(l.foldl Ybd out).length<=out.length+3000*l.length:=fun l=>by
  induction l with
  |nil=>intro out;simp
  |cons x l ih=>
   intro out
   have h1:=ih (Ybd out x)
   have h2:(Ybd out x).length<=out.length+3000:=YrG
   rw[YHX,YH8]
   omega
 have h:=key l []
 rw[List.length_nil,YIb]at h
 exact h
def oneC:Ctr:={ alias:=false,of:=fun l=>match l with
 | [.vs _ _ n sz get]=> .ex (List (Int×Int)) fun l=> .pre (lsP 2 enc2 n sz get l/\(∀x,x∈l->okT x)/\n<=20) (.fin (.bool (oneF l)) [])
 |_=> .pre False (.fin (.bool false) [])}
def RA9:Env:={ ct:=fun n=>match n with|120=>some baseC|_=>none,fn:=fun _=>none,meth:=fun _ _=>none}
theorem Yj4:RA9.ct 120=some baseC:=rfl
theorem YCM:Yn YHk RA9:=by
 refine⟨fun f c h=>?_,fun f vf h=>?_,(fun _ _ _ h=>by cases h),by kernel_rfl,(fun _ h=>by cases h),(fun _ _ h=>by cases h)⟩
 ·simp only[RA9]at h
  split at h
  ·cases h;exact⟨YDl,Tryz.f120,Tryz.func120,by kernel_rfl,by kernel_rfl⟩
  ·cases h
 ·cases h
theorem YEp:oneC.ok YHk 99:=by
 refine Yb Tryz.func99 YG5 YCM 500 oneC fun args k h=>?_
 simp only[oneC]at h
 split at h
 ·rename_i tt z n sz get
  obtain⟨l,⟨⟨rfl,rfl,hg⟩,hl,hn⟩,h⟩:=h
  refine⟨[.vs tt z l.length 2 (fun k=>enc2 (l.getD k default))],⟨⟨id,rfl,rfl,rfl,hg⟩,trivial⟩,?_⟩
  dsimp only[v99,Yj4,baseC,enc2,go_sem,reduceIte,YHf]
  simp only[Yc,YHf,YHh,reduceCtorEq,YHg]
  refine⟨l,⟨⟨rfl,rfl,fun k hk=>Yd _⟩,hl,hn⟩,fun y=>?_⟩
  have hbr:=Ygm hl hn
  have hbl:=Yq6 l
  obtain⟨B,hB⟩:∃B,B=YiF l:=⟨_,rfl⟩
  rw[<-hB]at hbr hbl⊢
  have hone:oneF l=B.all fun b=>decide (sumB l b=0):=by rw[hB];rfl
  refine Loop.keep [0,9,0] Nat (fun i=>[(12,.int .i64 i)]) (fun _=>[]) [] (fun i=>i<=B.length/\((B.take i).all fun b=>decide (sumB l b=0))=true) (fun i=>B.length-i) ?_ ?_
  ·refine⟨0,⟨by omega,rfl⟩,?_⟩
   dsimp only[go_sem,reduceIte,YHf]
   simp only[Ya]
   rfl
  ·rintro i ⟨hi,hall⟩
   dsimp only[Yj4,baseC,encB,enc2,YHj,go_sem,reduceIte,YHf]
   simp only[Yc,YHf,YHh,reduceCtorEq,YHg]
   refine⟨fun hlt=>⟨⟨by omega,by omega⟩,?_⟩,fun hge=>?_⟩
   ·have hb:2<=B.getD i 0/\B.getD i 0<=1099511627776:=hbr _ (Yh (l:=B) (i:=i) (by omega))
    have hsucc:((B.take (i+1)).all fun b=>decide (sumB l b=0))=decide (sumB l (B.getD i 0)=0):=by
     rw[YjP (by omega),hall,Bool.true_and];rfl
    have hmemb:B.getD i 0∈B:=Yh (l:=B) (i:=i) (by omega)
    obtain⟨b,hbe⟩:∃b,b=B.getD i 0:=⟨_,rfl⟩
    rw[<-hbe]at hb hsucc hmemb⊢
    refine Loop.keep [0,3,5,0,0,3,0] (Nat×Int) (fun s=>[(5,.int .i64 s.2),(18,.int .i64 s.1)]) (fun _=>[]) [] (fun s=>s.1<=l.length/\s.2=(l.take s.1).foldl (fun s x=>divL 64 b x.1 x.2 s) 0) (fun s=>l.length-s.1) ?_ ?_
    ·refine⟨(0,0),⟨by simp only;omega,rfl⟩,?_⟩
     dsimp only[go_sem,reduceIte,YHf]
     simp only[Ya]
     rfl
    ·rintro⟨t,S⟩ ⟨ht,hS⟩
     dsimp only at ht hS
     dsimp only[enc2,YHj,go_sem,reduceIte,YHf]
     simp only[Yc,YHf,YHh,reduceCtorEq,YHg]
     refine⟨fun hlt2=>⟨⟨by omega,by omega⟩,?_⟩,fun hge2=>?_⟩
     ·have hx:=hl _ (Yh (by omega:t<l.length))
      have hst:(l.take (t+1)).foldl (fun s x=>divL 64 b x.1 x.2 s) 0=divL 64 b (l.getD t default).1 (l.getD t default).2 S:=by
       rw[Ym (by omega),<-hS]
      generalize l.getD t default=x at hx hst⊢
      obtain⟨q0,q1,q2,q3⟩:=hx
      obtain⟨R,hR⟩:∃R,R=divL 64 b x.1 x.2 S:=⟨_,rfl⟩
      rw[<-hR]at hst
      refine Loop.keep [0,3,2,2,0,0,3,0,0] (Nat×Int×Int) (fun s=>[(5,.int .i64 s.2.2),(8,.int .i64 s.2.1)]) (fun _=>[]) [] (fun s=>R=divL s.1 b s.2.1 x.2 s.2.2/\1<=s.2.1/\s.2.1<2^s.1/\s.2.1<=1000000000001) (fun s=>s.1) ?_ ?_
      ·refine⟨(64,x.1,S),⟨hR,q0,by simp only;omega,q1⟩,?_⟩
       dsimp only[go_sem,reduceIte,YHf]
       simp only[Ya]
       decide
      ·rintro⟨f,n,S'⟩ ⟨hf,n0,n1,n2⟩
       dsimp only at hf n0 n1 n2
       dsimp only[go_sem,reduceIte,YHf]
       simp only[Yc,YHf,YHh,reduceCtorEq,YHg]
       obtain⟨m,rfl⟩:=YHv (by omega:0<=n)
       obtain⟨g,rfl⟩:∃g,f=g+1:=by
        cases f with
        |zero=>simp at n1;omega
        |succ g=>exact⟨g,rfl⟩
       rw[divL]at hf
       refine⟨by omega,fun hc=>⟨by omega,?_⟩,fun hc=>?_⟩
       ·rw[if_pos hc]at hf
        have e1:(m:Int).tmod (b:Int)=((m%b:Nat):Int):=IntWalk.up_tmod rfl rfl
        have e2:(m:Int).tdiv (b:Int)=((m/b:Nat):Int):=IntWalk.up_tdiv rfl rfl
        rw[e1]at hc
        have hdm:=YH5 m b
        rw[show m%b=0 by omega,Nat.add_zero]at hdm
        have hq1:1<=m/b:=Nat.pos_of_ne_zero fun hh=>by rw[hh,Nat.mul_zero]at hdm;omega
        have hq2:2*(m/b)<=m:=by
         have:2*(m/b)<=b*(m/b):=YHs _ hb.1
         omega
        rw[e2]at hf⊢
        generalize m/b=q at hq1 hq2 hf⊢
        have eq:IntKind.i64.wrap (q:Int)=(q:Int):=YHi _ (by omega)
        rw[eq]at hf⊢
        have n1':m<2^g*2:=by rw[<-YHR];exact_mod_cast n1
        refine⟨(g,q,IntKind.i64.wrap (S'+x.2)),⟨hf,by simp only;omega,?_,by simp only;omega⟩,by simp only;omega,?_⟩
        ·show(q:Int)<2^g
         have:q<2^g:=by omega
         exact_mod_cast this
        ·simp only[Ya]
         decide
       ·rw[if_neg hc]at hf
        refine⟨(t+1,S'),⟨by simp only;omega,by rw[hst,hf]⟩,by simp only;omega,?_⟩
        rw[YHi ((t:Int)+1) (by omega)]
        simp only[Ya]
        simp
     ·obtain rfl:t=l.length:=by omega
      rw[YIq]at hS
      have hS:S=sumB l b:=hS
      refine⟨fun hc=>?_,fun hc=>⟨i+1,⟨by omega,?_⟩,by omega,?_⟩⟩
      ·have:oneF l=false:=by
        rw[hone,List.all_eq_false]
        exact⟨b,hmemb,by rw[<-hS];simpa using hc⟩
       rw[this]at h
       exact Yi h
      ·rw[hsucc,<-hS];exact decide_eq_true hc
      ·rw[YHi ((i:Int)+1) (by omega)]
       simp only[Ya]
       simp
   ·obtain rfl:i=B.length:=by omega
    rw[YIq]at hall
    rw[hone,hall]at h
    exact Yi h
 ·exact h.1.elim
inductive Spn (L:List Nat):Nat->Prop
 |one:Spn L 1
 |mul {x y:Nat}:x∈L->Spn L y->Spn L (x*y)
theorem Spn.mem{L:List Nat}{x:Nat}(h:x∈L):Spn L x:=by
 have:=Spn.mul h Spn.one
 rwa [Nat.mul_one]at this
theorem Spn.mul2{L:List Nat}{x y:Nat}(hx:Spn L x)(hy:Spn L y):Spn L (x*y):=by
 induction hx with
 |one=>rwa [YIu]
 |mul h _ ih=>rw[YHt];exact .mul h ih
theorem Spn.sub{L L':List Nat}(h:∀x,x∈L->Spn L' x){y:Nat}(hy:Spn L y):Spn L' y:=by
 induction hy with
 |one=>exact .one
 |mul hx _ ih=>exact(h _ hx).mul2 ih
def Cop(r:List Nat):Prop:=r.Pairwise fun a b=>Nat.gcd a b=1
theorem Yeq{B:Nat}:∀{f:Nat}{wait out:List Nat},DrOk B f wait out->Cop out->Cop (Ycs f wait out)/\∀y,Spn (out++wait) y->Spn (Ycs f wait out) y
 |0,wait,out,h,hc=>by
  have hw:wait=[]:=List.length_eq_zero_iff.1 (by have:=h.mu;omega)
  rw[Ycs,hw,List.append_nil]
  exact⟨hc,fun _ h=>h⟩
 |f+1,wait,out,h,hc=>by
  rw[Ycs]
  by_cases hw:wait.length=0
  ·rw[if_pos hw]
   have hw:wait=[]:=List.length_eq_zero_iff.1 hw
   rw[hw,List.append_nil]
   exact⟨hc,fun _ h=>h⟩
  ·rw[if_neg hw]
   have e:=YdJ hw
   by_cases h1:wait.getD (wait.length-1) 0=1
   ·rw[if_pos h1]
    obtain⟨g,hg,hd⟩:=h.pop hw h1
    obtain rfl:f=g:=by omega
    obtain⟨k1,k2⟩:=Yeq hd hc
    refine⟨k1,fun y hy=>k2 y (hy.sub fun x hx=>?_)⟩
    rw[e,YHO,YHO,YHZ]at hx
    rcases hx with hx|hx|hx
    ·exact .mem (List.mem_append_left _ hx)
    ·exact .mem (List.mem_append_right _ hx)
    ·rw[hx,h1];exact .one
   ·rw[if_neg h1]
    have hsp:=YcC (f:=fun i=>decide (1<Nat.gcd (out.getD i 0) (wait.getD (wait.length-1) 0))) out.length 0
    have hn:1<=wait.getD (wait.length-1) 0:=(h.wp _ (Yh (l:=wait) (i:=wait.length-1) (by omega))).1
    by_cases h2:hitF out (wait.getD (wait.length-1) 0)<out.length
    ·rw[if_pos h2]
     have hs:=hsp.2.2.2 (by simpa [hitF]using h2)
     obtain⟨g,hg,hd⟩:=h.hit hw h2 (of_decide_eq_true hs)
     obtain rfl:f=g:=by omega
     have e':=Yom h2
     generalize hitF out (wait.getD (wait.length-1) 0)=i at*
     have hsub:List.Sublist (out.take i++out.drop (i+1)) out:=by
      conv=>rhs;rw[e']
      exact(List.sublist_cons_self _ _).append_left _
     obtain⟨k1,k2⟩:=Yeq hd (List.Pairwise.sublist hsub hc)
     refine⟨k1,fun y hy=>k2 y (hy.sub fun x hx=>?_)⟩
     generalize hL:out.take i++out.drop (i+1)++(wait.take (wait.length-1)++[Nat.gcd (out.getD i 0) (wait.getD (wait.length-1) 0),out.getD i 0/Nat.gcd (out.getD i 0) (wait.getD (wait.length-1) 0),wait.getD (wait.length-1) 0/Nat.gcd (out.getD i 0) (wait.getD (wait.length-1) 0)])=L
     have mL:∀z,z∈out.take i\/z∈out.drop (i+1)\/z∈wait.take (wait.length-1)\/z=Nat.gcd (out.getD i 0) (wait.getD (wait.length-1) 0)\/z=out.getD i 0/Nat.gcd (out.getD i 0) (wait.getD (wait.length-1) 0)\/z=wait.getD (wait.length-1) 0/Nat.gcd (out.getD i 0) (wait.getD (wait.length-1) 0)->Spn L z:=fun z hz=>by
      refine .mem ?_
      rw[<-hL]
      simp only[YHO,YHI,List.not_mem_nil,or_false]
      rcases hz with hz|hz|hz|hz|hz|hz
      ·exact .inl (.inl hz)
      ·exact .inl (.inr hz)
      ·exact .inr (.inl hz)
      ·exact .inr (.inr (.inl hz))
      ·exact .inr (.inr (.inr (.inl hz)))
      ·exact .inr (.inr (.inr (.inr hz)))
     rcases YHO.1 hx with hx|hx
     ·rw[e']at hx
      rcases YHO.1 hx with hx|hx
      ·exact mL _ (.inl hx)
      ·rcases YHI.1 hx with hx|hx
       ·rw[hx]
        have:=(mL _ (.inr (.inr (.inr (.inl rfl))))).mul2 (mL _ (.inr (.inr (.inr (.inr (.inl rfl))))))
        rwa [Nat.mul_div_cancel' (Nat.gcd_dvd_left _ _)]at this
       ·exact mL _ (.inr (.inl hx))
     ·rw[e]at hx
      rcases YHO.1 hx with hx|hx
      ·exact mL _ (.inr (.inr (.inl hx)))
      ·rw[YHZ]at hx
       rw[hx]
       have:=(mL _ (.inr (.inr (.inr (.inl rfl))))).mul2 (mL _ (.inr (.inr (.inr (.inr (.inr rfl))))))
       rwa [Nat.mul_div_cancel' (Nat.gcd_dvd_right _ _)]at this
    ·rw[if_neg h2]
     obtain⟨g,hg,hd⟩:=h.push hw h1
     obtain rfl:f=g:=by omega
     have hcop:Cop (out++[wait.getD (wait.length-1) 0]):=by
      refine List.pairwise_append.2 ⟨hc,List.pairwise_singleton _ _,fun a ha b hb=>?_⟩
      rw[YHZ]at hb
      rw[hb]
      obtain⟨j,hj,hja⟩:=YQ ha
      have:=hsp.2.2.1 j (by omega) (by show j<hitF out _;omega)
      have:=of_decide_eq_false this
      rw[show out.getD j 0=a from hja]at this
      have:=Nat.gcd_pos_of_pos_right a hn
      omega
     obtain⟨k1,k2⟩:=Yeq hd hcop
     refine⟨k1,fun y hy=>k2 y (hy.sub fun x hx=>?_)⟩
     rw[e,YHO,YHO,YHZ]at hx
     refine .mem ?_
     rw[YHO,YHO,YHZ]
     rcases hx with hx|hx|hx
     ·exact .inl (.inl hx)
     ·exact .inr hx
     ·exact .inl (.inr hx)
theorem Ynb{l:List (Int×Int)}(hl:∀x,x∈l->okT x)(hn:l.length<=20):Cop (YiF l)/\∀x,x∈l->Spn (YiF l) x.1.toNat:=by
 have key:∀i,i<=l.length->((∀x,x∈(l.take i).foldl Ybd []->2<=x/\x<=1099511627776)/\Yo (YA ((l.take i).foldl Ybd []))<=40*i+1)/\Cop ((l.take i).foldl Ybd [])/\∀x,x∈l.take i->Spn ((l.take i).foldl Ybd []) x.1.toNat:=fun i=>by
  induction i with
  |zero=>exact fun _=>⟨⟨fun x hx=>absurd hx (by simp),by simp [YA];decide⟩,List.Pairwise.nil,fun x hx=>absurd hx (by simp)⟩
  |succ i ih=>
   intro hi
   obtain⟨⟨h1,h2⟩,h3,h4⟩:=ih (by omega)
   have hx:=hl _ (Yh (by omega:i<l.length))
   rw[Ym (by omega),YbP (by omega)]
   obtain⟨q0,q1,q2,q3⟩:=hx
   have hd:=DrOk.start (N:=(l.getD i default).1.toNat) (by omega) (by omega) h1 h2 (by omega)
   obtain⟨d1,d2⟩:=Yeq hd h3
   refine⟨YcT hd,d1,fun y hy=>?_⟩
   rcases YHO.1 hy with hy|hy
   ·exact d2 _ ((h4 y hy).sub fun z hz=> .mem (List.mem_append_left _ hz))
   ·rw[YHZ]at hy
    rw[hy]
    exact d2 _ (.mem (List.mem_append_right _ (YHZ.2 rfl)))
 have:=(key l.length (YHr _)).2
 rwa [YIq]at this
def vl:Nat->Nat->Nat->Nat
 |0,_,_=>0
 |f+1,b,x=>if x%b=0 then vl f b (x/b)+1 else 0
theorem Ymw{b:Nat}(hb:2<=b):∀(f x:Nat),1<=x->x<2^f->∀e,b^e∣x↔e<=vl f b x
 |0,x,h1,h2,_=>by simp at h2;omega
 |f+1,x,h1,h2,e=>by
  rw[vl]
  by_cases c:x%b=0
  ·rw[if_pos c]
   obtain⟨y,rfl⟩:=Nat.dvd_of_mod_eq_zero c
   have hy:1<=y:=Nat.pos_of_ne_zero fun h=>by rw[h,Nat.mul_zero]at h1;omega
   rw[Nat.mul_div_cancel_left _ (by omega)]
   have hy2:y<2^f:=by
    have:2*y<=b*y:=YHs _ hb
    rw[YHR]at h2;omega
   cases e with
   |zero=>simp
   |succ e=>
    rw[YHR,YHq,Nat.mul_dvd_mul_iff_left (by omega),Ymw hb f y hy hy2]
    omega
  ·rw[if_neg c]
   cases e with
   |zero=>simp
   |succ e=>
    refine⟨fun h=>absurd (Nat.mod_eq_zero_of_dvd (Nat.dvd_trans ⟨b^e,by rw[YHR,YHq]⟩ h)) c,fun h=>by omega⟩
theorem YG6{r:List Nat}(hc:Cop r)(h2:∀x,x∈r->2<=x){b c y:Nat}(hb:b∈r)(hcm:c∈r)(hy:1<=y)(hyl:c*y<2^64):vl 64 b (c*y)=vl 64 b y+if b=c then 1 else 0:=by
 have hb2:=h2 _ hb
 have hc2:=h2 _ hcm
 have hcy:1<=c*y:=Nat.mul_pos (by omega) hy
 have hy2:y<2^64:=YIi (Nat.le_mul_of_pos_left _ (by omega)) hyl
 have s1:=Ymw hb2 64 (c*y) hcy hyl
 have s2:=Ymw hb2 64 y hy hy2
 have ext:∀A B:Nat,(∀e,e<=A↔e<=B)->A=B:=fun A B h=>Nat.le_antisymm ((h A).1 (YHr _)) ((h B).2 (YHr _))
 refine ext _ _ fun e=>?_
 rw[<-s1 e]
 by_cases ebc:b=c
 ·rw[if_pos ebc,<-ebc]
  cases e with
  |zero=>simp
  |succ e=>
   rw[YHR,YHq,Nat.mul_dvd_mul_iff_left (by omega),s2 e]
   omega
 ·rw[if_neg ebc,Nat.add_zero,<-s2 e]
  have hg:Nat.gcd b c=1:=by
   obtain⟨i,hi,rfl⟩:=List.mem_iff_getElem.1 hb
   obtain⟨j,hj,rfl⟩:=List.mem_iff_getElem.1 hcm
   rcases Nat.lt_trichotomy i j with h|h|h
   ·exact List.pairwise_iff_getElem.1 hc i j hi hj h
   ·subst h;exact absurd rfl ebc
   ·rw[Nat.gcd_comm];exact List.pairwise_iff_getElem.1 hc j i hj hi h
  exact⟨fun h=>Nat.Coprime.dvd_of_dvd_mul_left (Nat.Coprime.pow_left e hg) h,fun h=>Nat.dvd_trans h (Nat.dvd_mul_left _ _)⟩
def PV(e:Nat->Nat):List Nat->Nat
 | []=>1
 |b::r=>b^e b*PV e r
theorem Ybf{e e':Nat->Nat}:∀{r:List Nat},(∀b,b∈r->e b=e' b)->PV e r=PV e' r
 | [],_=>rfl
 |b::r,h=>by rw[PV,PV,h b (YHw ..),Ybf fun x hx=>h x (YHu _ hx)]
theorem Ygf:∀(r:List Nat),PV (fun _=>0) r=1
 | []=>rfl
 |b::r=>by rw[PV,Ygf r];rfl
theorem YmK(e e':Nat->Nat):∀(r:List Nat),PV (fun b=>e b+e' b) r=PV e r*PV e' r
 | []=>rfl
 |b::r=>by rw[PV,PV,PV,YmK e e' r,YHz,Nat.mul_mul_mul_comm]
theorem YpW(e:Nat->Nat)(k:Nat):∀(r:List Nat),PV (fun b=>e b*k) r=PV e r^k
 | []=>by simp [PV]
 |b::r=>by rw[PV,PV,YpW e k r,YHQ,YIl]
theorem Yw1{c:Nat}:∀{r:List Nat},Cop r->(∀x,x∈r->2<=x)->c∈r->PV (fun b=>if b=c then 1 else 0) r=c
 |b::r,hc,h2,hm=>by
  obtain⟨g1,g2⟩:=List.pairwise_cons.1 hc
  have hb2:=h2 b (YHw ..)
  rw[PV]
  by_cases e:b=c
  ·subst e
   rw[if_pos rfl,Nat.pow_one]
   have:PV (fun x=>if x=b then 1 else 0) r=PV (fun _=>0) r:=Ybf fun x hx=>by
    refine if_neg fun hh=>?_
    have:=g1 x hx
    rw[hh,Nat.gcd_self]at this
    omega
   rw[this,Ygf,Nat.mul_one]
  ·rw[if_neg e,Nat.pow_zero,YIu]
   refine Yw1 g2 (fun x hx=>h2 x (YHu _ hx)) ?_
   rcases YHI.1 hm with h|h
   ·exact absurd h.symm e
   ·exact h
theorem PV_is{r:List Nat}(hc:Cop r)(h2:∀x,x∈r->2<=x){y:Nat}(hy:Spn r y):1<=y/\(y<2^64->PV (fun b=>vl 64 b y) r=y):=by
 induction hy with
 |one=>
  refine⟨YHr _,fun _=>?_⟩
  rw[Ybf (e':=fun _=>0) fun b hb=>?_,Ygf]
  have hb2:=h2 b hb
  rw[vl,if_neg (by rw[Nat.mod_eq_of_lt (by omega)];decide)]
 | @mul x y hx _ ih=>
   obtain⟨i1,i2⟩:=ih
   have hx2:=h2 x hx
   refine⟨Nat.mul_pos (by omega) i1,fun hlt=>?_⟩
   rw[Ybf fun b hb=>YG6 hc h2 hb hx i1 hlt,YmK,Yw1 hc h2 hx,i2 (YIi (Nat.le_mul_of_pos_left _ (by omega)) hlt),YHq]
theorem Yzm{b:Nat}(hb:2<=b)(hbl:b<=1099511627776){num:Int}(hn: -3000000000000000<=num/\num<=3000000000000000):∀(f x:Nat)(s:Int),x<4611686018427387904->f<=64-> -4500000000000000000+f*3000000000000000<=s->s<=4500000000000000000-f*3000000000000000->
 divL f (b:Int) (x:Int) num s=s+num*(vl f b x:Nat):=
 by
 intro f
 induction f with
 |zero=>intro x s _ _ _ _;simp [divL,vl]
 |succ f ih=>
  intro x s hx hf h1 h2
  rw[divL,vl]
  have e1:(x:Int).tmod (b:Int)=((x%b:Nat):Int):=rfl
  have e2:(x:Int).tdiv (b:Int)=((x/b:Nat):Int):=rfl
  rw[e1,e2]
  by_cases c:x%b=0
  ·have hq:x/b<=x:=Nat.div_le_self _ _
   rw[if_pos (by omega),if_pos c]
   generalize x/b=q at*
   rw[YHi _ (by omega),YHi (s+num) (by omega),ih q (s+num) (by omega) (by omega) (by omega) (by omega),Int.natCast_add,Int.mul_add]
   simp only[Int.natCast_one,Int.mul_one]
   omega
  ·rw[if_neg (by omega),if_neg c];simp
theorem YtC{b:Nat}(hb:2<=b)(hbl:b<=1099511627776):∀(l:List (Int×Int))(s:Int),(∀x,x∈l->okU x)->l.length<=100-> -4500000000000000000+(l.length+1)*192000000000000000<=s->s<=4500000000000000000-(l.length+1)*192000000000000000->
 l.foldl (fun s x=>divL 64 b x.1 x.2 s) s=s+(upS (vl 64 b) l:Nat)-(dnS (vl 64 b) l:Nat):=
 by
 intro l
 induction l with
 |nil=>intro s _ _ _ _;simp [upS,dnS]
 |cons x l ihl=>
  intro s hl hn h1 h2
  have hx:=hl x (YHw ..)
  obtain⟨n1,n2,n3⟩:=Yc5 hx
  obtain⟨_,_,x3,x4⟩:=hx
  rw[YH8]at hn h1 h2
  have hv:vl 64 b x.1.toNat<=64:=by
   have key:∀f y,vl f b y<=f:=fun f=>by
    induction f with
    |zero=>intro y;exact YHr _
    |succ f ih=>
     intro y
     rw[vl]
     split
     ·have:=ih (y/b);omega
     ·omega
   exact key 64 _
  have hd:divL 64 (b:Int) x.1 x.2 s=s+x.2*(vl 64 b x.1.toNat:Nat):=by
   conv=>lhs;rw[n3]
   exact Yzm hb hbl ⟨x3,x4⟩ 64 _ s n2 (by decide) (by omega) (by omega)
  have hb1:x.2*(vl 64 b x.1.toNat:Nat)<=3000000000000000*64:=by
   refine Int.le_trans (Int.mul_le_mul_of_nonneg_right x4 (by omega)) ?_
   exact YHU (by omega) (by decide)
  have hb2: -3000000000000000*64<=x.2*(vl 64 b x.1.toNat:Nat):=by
   refine Int.le_trans ?_ (Int.mul_le_mul_of_nonneg_right x3 (by omega))
   omega
  rw[YHX,hd,ihl _ (fun y hy=>hl y (YHu _ hy)) (by omega) (by omega) (by omega),upS,dnS]
  by_cases c:x.2<0
  ·rw[if_pos c,if_pos c]
   have:x.2*(vl 64 b x.1.toNat:Nat)= -((vl 64 b x.1.toNat*(-x.2).toNat:Nat):Int):=by
    rw[YIj,show(((-x.2).toNat:Nat):Int)= -x.2 by omega,Int.mul_neg,Int.neg_neg,Int.mul_comm]
   rw[this];omega
  ·rw[if_neg c,if_neg c]
   have:x.2*(vl 64 b x.1.toNat:Nat)=((vl 64 b x.1.toNat*x.2.toNat:Nat):Int):=by
    rw[YIj,show((x.2.toNat:Nat):Int)=x.2 by omega,Int.mul_comm]
   rw[this];omega
theorem P_is{r:List Nat}(hc:Cop r)(h2:∀x,x∈r->2<=x):∀(l:List (Int×Int)),(∀x,x∈l->okU x/\Spn r x.1.toNat)->
 upP l=PV (fun b=>upS (vl 64 b) l) r/\dnP l=PV (fun b=>dnS (vl 64 b) l) r
 | [],_=>by
   constructor
   ·exact(Ygf r).symm
   ·exact(Ygf r).symm
 |x::l,hl=>by
  obtain⟨i1,i2⟩:=P_is hc h2 l fun y hy=>hl y (YHu _ hy)
  obtain⟨hx,hs⟩:=hl x (YHw ..)
  obtain⟨n1,n2,n3⟩:=Yc5 hx
  have e:=(PV_is hc h2 hs).2 (by omega)
  rw[upP,dnP,i1,i2]
  by_cases c:x.2<0
  ·rw[if_pos c,if_pos c]
   constructor
   ·rw[YIu]
    exact Ybf fun b _=>by rw[upS,if_pos c,YIb]
   ·have:∀b,dnS (vl 64 b) (x::l)=vl 64 b x.1.toNat*(-x.2).toNat+dnS (vl 64 b) l:=fun b=>by rw[dnS,if_pos c]
    rw[Ybf fun b _=>this b,YmK,YpW,e]
  ·rw[if_neg c,if_neg c]
   constructor
   ·have:∀b,upS (vl 64 b) (x::l)=vl 64 b x.1.toNat*x.2.toNat+upS (vl 64 b) l:=fun b=>by rw[upS,if_neg c]
    rw[Ybf fun b _=>this b,YmK,YpW,e]
   ·rw[YIu]
    exact Ybf fun b _=>by rw[dnS,if_neg c,YIb]
theorem Yla{l:List (Int×Int)}(hl:∀x,x∈l->okU x)(hn:l.length<=20)(h:oneF l=true):upP l=dnP l:=by
 have hT:∀x,x∈l->okT x:=fun x hx=>YEo (hl x hx)
 obtain⟨hc,hs⟩:=Ynb hT hn
 have hr:=Ygm hT hn
 obtain⟨e1,e2⟩:=P_is hc (fun x hx=>(hr x hx).1) l fun x hx=>⟨hl x hx,hs x hx⟩
 rw[e1,e2]
 refine Ybf fun b hb=>?_
 have hb2:=hr b hb
 have h0:=of_decide_eq_true (List.all_eq_true.1 h b hb)
 unfold sumB at h0
 rw[YtC hb2.1 hb2.2 l 0 hl (by omega) (by omega) (by omega)]at h0
 omega
def v97:VF:=⟨39,[.tmp 2],(ZR [Zi 2 0] (.seq (ZR [Zm 9 0,Zc 10 117 9,Zm 8 10,Ze 11 0 8,Ze 12 1 8,Zm 3 11,Zm 4 12] (ZR [Zm 13 4] (ZC 13 (ZR [Zm 14 3,Zm 2 14] .ret) .skip))) (.seq (ZR [Zm 15 0,Zc 16 99 15] (ZC 16 (ZR [Zi 2 0] .ret) .skip)) (.seq (ZR [Zi 5 64] (.block 0 (.loop (.seq (ZR [Zm 17 5,Zq 18 .leq 17 2048] (ZC 18 .skip (.exit 0))) (.seq (.block 1 (ZR [Zm 22 0,Zm 23 5,Zd 24 118 22 23,Zm 21 24,Ze 25 0 21,Ze 26 1 21,u1 6 (.alloc [.nil,.nil]) [],u1 7 (.alloc [.nil,.nil]) [],Zs 2 6 25,Zs 2 7 26] (.block 2 (ZR [Za 28 0 6,Zf 29 1 28,Za 30 1 7,Zf 31 1 30,Zd 32 119 29 31,Zm 27 32] (ZC 27 (ZR [Zi 2 1] .ret) (ZR [Za 34 0 7,Zf 35 1 34,Za 36 1 6,Zf 37 1 36,Zd 38 119 35 37,Zm 33 38] (ZC 33 (ZR [Zi 2 (-1)] .ret) .skip))))))) (.region [Zm 19 5,u1 20 (.ari .mul) [.tm 19,.cn (.int .i64 2)],Zm 5 20])))))) (ZR [Zi 2 0] .ret)))))⟩
theorem YG3:Ye YHk Tryz.f97=some v97:=by kernel_rfl
def v94:VF:=⟨33,[.tmp 2],(ZR [Zi 2 0] (.seq (ZR [Zm 5 0,Zl 6 5,Zq 7 .gtr 6 16] (ZC 7 (ZR [Zi 2 3] .ret) .skip)) (.seq (ZR [Zm 8 0,Zl 9 8,Zi 10 0] (.block 0 (.loop (ZR [Zr 11 .lss 10 9] (.seq (ZC 11 .skip (.exit 0)) (.seq (.block 1 (ZR [Zx 12 2 8 10,Zt 13 2 12,Zn 4,Zs 2 4 13] (ZR [Za 14 0 4,Zf 15 1 14,Zq 16 .lss 15 1,Zm 17 16,Zj 18 17 false 0 4,Zh 19 17 false 1 18,u2 20 17 false (.cmp .gtr) [.tm 19,.cn (.int .i64 1000000000000)],u1 21 .or [.tm 17,.tm 20],Zm 22 21,Zj 23 22 false 1 4,Zh 24 22 false 1 23,u2 25 22 false (.cmp .lss) [.tm 24,.cn (.int .i64 (-1000000000))],u1 26 .or [.tm 22,.tm 25],Zm 27 26,Zj 28 27 false 1 4,Zh 29 27 false 1 28,u2 30 27 false (.cmp .gtr) [.tm 29,.cn (.int .i64 1000000000)],u1 31 .or [.tm 27,.tm 30]] (ZC 31 (ZR [Zi 2 2] .ret) .skip)))) (.region [Zp 32 10 1,Zm 10 32]))))))) (ZR [Zi 2 0] .ret))))⟩
theorem YG0:Ye YHk Tryz.f94=some v94:=by kernel_rfl
def Ycg:Nat->List (Int×Int)->Nat->Int
 |0,_,_=>0
 |f+1,l,p=>if(Ych l p).dh<(Ych l p).ul then 1 else if(Ych l p).uh<(Ych l p).dl then -1 else Ycg f l (2*p)
def Yed(l:List (Int×Int)):Int:=if(YgM l).2=true then(YgM l).1 else if oneF l=true then 0 else Ycg 6 l 64
def signC:Ctr:={ alias:=false,of:=fun l=>match l with
 | [.vs _ _ n sz get]=> .ex (List (Int×Int)) fun l=> .pre (lsP 2 enc2 n sz get l/\(∀x,x∈l->okT x)/\n<=20) (.fin (.int .i64 (Yed l)) [])
 |_=> .pre False (.fin (.int .i64 0) [])}
def okT0(x:Int×Int):Bool:=decide (x.1<1) || decide (1000000000000<x.1) || decide (x.2< -1000000000) || decide (1000000000<x.2)
def YhD(l:List (Int×Int)):Int:=if 16<l.length then 3 else if l.any okT0=true then 2 else 0
def chkTC:Ctr:={ alias:=false,of:=fun l=>match l with
 | [.vs _ _ n sz get]=> .ex (List (Int×Int)) fun l=> .pre (lsP 2 enc2 n sz get l/\n<=9223372036854775807) (.fin (.int .i64 (YhD l)) [])
 |_=>noC}
theorem YwL(l:List (Int×Int))(p:Nat):(Ych l p).ok:=by
 have key:∀(l:List (Int×Int))(s:Bnd),s.ok->(l.foldl (Ydj p) s).ok:=fun l=>by
  induction l with
  |nil=>intro s h;exact h
  |cons x l ih=>intro s h;exact ih _ (YjO p s x h)
 exact key l _ (by simp [Bnd.ok,nl_0])
def RB0:Env:={ ct:=fun n=>match n with|117=>some guessC|99=>some oneC|118=>some sumsC|119=>some aboveC|_=>none,fn:=fun _=>none,meth:=fun _ _=>none}
theorem Yqc:RB0.ct 117=some guessC:=rfl
theorem YuO:RB0.ct 99=some oneC:=rfl
theorem Yqd:RB0.ct 118=some sumsC:=rfl
theorem Yqe:RB0.ct 119=some aboveC:=rfl
theorem YCN:Yn YHk RB0:=by
 refine⟨fun f c h=>?_,fun f vf h=>?_,(fun _ _ _ h=>by cases h),by kernel_rfl,(fun _ h=>by cases h),(fun _ _ h=>by cases h)⟩
 ·simp only[RB0]at h
  split at h
  ·cases h;exact⟨YzF,Tryz.f117,Tryz.func117,by kernel_rfl,by kernel_rfl⟩
  ·cases h;exact⟨YEp,Tryz.f99,Tryz.func99,by kernel_rfl,by kernel_rfl⟩
  ·cases h;exact⟨YFz,Tryz.f118,Tryz.func118,by kernel_rfl,by kernel_rfl⟩
  ·cases h;exact⟨YlI,Tryz.f119,Tryz.func119,by kernel_rfl,by kernel_rfl⟩
  ·cases h
 ·cases h
theorem YFw:signC.ok YHk 97:=by
 refine Yb Tryz.func97 YG3 YCN 500 signC fun args k h=>?_
 simp only[signC]at h
 split at h
 ·rename_i tt z n sz get
  obtain⟨l,⟨⟨rfl,rfl,hg⟩,hl,hn⟩,h⟩:=h
  refine⟨[.vs tt z l.length 2 (fun k=>enc2 (l.getD k default))],⟨⟨id,rfl,rfl,rfl,hg⟩,trivial⟩,?_⟩
  dsimp only[v97,Yqc,YuO,guessC,oneC,enc2,go_sem,reduceIte,YHf]
  simp only[Yc,YHf,YHh,reduceCtorEq,YHg]
  have hself:lsP 2 enc2 l.length 2 (fun k=>[SV.int IntKind.i64 (l.getD k default).fst,SV.int IntKind.i64 (l.getD k default).snd]) l:=⟨rfl,rfl,fun k _=>Yd _⟩
  refine⟨l,⟨hself,hl,by omega⟩,by decide,by decide,fun hc=>?_,fun hc=>⟨l,⟨hself,hl,hn⟩,fun hd=>?_,fun hd=>?_⟩⟩
  ·rw[Yed,if_pos hc]at h;exact Yj h
  ·rw[Yed,if_neg (by rw[hc];decide),if_pos hd]at h;exact Yj h
  ·rw[Yed,if_neg (by rw[hc];decide),if_neg (by rw[hd];decide)]at h
   obtain⟨R,hR⟩:∃R,R=Ycg 6 l 64:=⟨_,rfl⟩
   rw[<-hR]at h
   refine Loop.keep [0] (Nat×Nat) (fun s=>[(5,.int .i64 s.2)]) (fun _=>[]) [] (fun s=>R=Ycg s.1 l s.2/\s.2*2^s.1=4096/\64<=s.2) (fun s=>s.1) ?_ ?_
   ·refine⟨(6,64),⟨hR,by decide,by decide⟩,?_⟩
    dsimp only[go_sem,reduceIte,YHf]
    simp only[Ya]
    rfl
   ·rintro⟨f,p⟩ ⟨hf,hp,hp64⟩
    dsimp only at hf hp hp64
    dsimp only[Yqd,Yqe,sumsC,aboveC,natS,go_sem,reduceIte,YHf]
    simp only[Yc,YHf,YHh,reduceCtorEq,YHg]
    obtain⟨k1,k2,k3,k4⟩:=YwL l p
    have hfd:p<=2048->∃g,f=g+1:=fun hpl=>by
     rcases YH4 f with h0|h0
     ·rw[h0,Nat.pow_zero,Nat.mul_one]at hp;omega
     ·exact⟨f-1,by omega⟩
    have hf0:¬p<=2048->f=0:=fun hpl=>by
     rcases YH4 f with h0|h0
     ·exact h0
     ·obtain⟨g,rfl⟩:∃g,f=g+1:=⟨f-1,by omega⟩
      rw[YHR]at hp
      have:1<=2^g:=YH g
      have:p*2<=p*(2^g*2):=YHx _ (by omega)
      omega
    refine⟨fun hc=>⟨l,p,⟨hself,hl,by omega,rfl,by omega⟩,fun y1 y2 y3 y4=>⟨by decide,by decide,(Ych l p).ul,(Ych l p).dh,⟨Yp k1,Yp k4⟩,fun hd=>?_,fun hd=>⟨(Ych l p).dl,(Ych l p).uh,⟨Yp k3,Yp k2⟩,fun he=>?_,fun he=>?_⟩⟩⟩,fun hc=>?_⟩
    ·obtain⟨g,rfl⟩:=hfd (by omega)
     rw[Ycg,if_pos hd]at hf
     rw[hf]at h;exact Yj h
    ·obtain⟨g,rfl⟩:=hfd (by omega)
     rw[Ycg,if_neg hd,if_pos he]at hf
     rw[hf]at h;exact Yj h
    ·obtain⟨g,rfl⟩:=hfd (by omega)
     rw[Ycg,if_neg hd,if_neg he]at hf
     rw[YHR]at hp
     have hp2:2*p*2^g=4096:=by rw[<-hp,YHq 2 p,YHt,YHq 2]
     refine⟨(g,2*p),⟨hf,hp2,by simp only;omega⟩,by simp only;omega,?_⟩
     rw[show IntKind.i64.wrap ((p:Int)*2)=((2*p:Nat):Int)by rw[YHi _ (by omega)];omega]
     simp only[Ya]
    ·obtain rfl:=hf0 (by omega)
     rw[Ycg]at hf
     rw[hf]at h;exact Yj h
 ·exact h.1.elim
def RB1:Env:={ ct:=fun _=>none,fn:=fun _=>none,meth:=fun _ _=>none}
theorem YCO:Yn YHk RB1:=by
 refine⟨fun f c h=>?_,fun f vf h=>?_,(fun _ _ _ h=>by cases h),by kernel_rfl,(fun _ h=>by cases h),(fun _ _ h=>by cases h)⟩
 ·cases h
 ·cases h
theorem YDz:chkTC.ok YHk 94:=by
 refine Yb Tryz.func94 YG0 YCO 500 chkTC fun args k h=>?_
 simp only[chkTC]at h
 split at h
 ·rename_i tt z n sz get
  obtain⟨l,⟨⟨rfl,rfl,hg⟩,hn⟩,h⟩:=h
  refine⟨[.vs tt z l.length 2 (fun k=>enc2 (l.getD k default))],⟨⟨id,rfl,rfl,rfl,hg⟩,trivial⟩,?_⟩
  dsimp only[v94,enc2,go_sem,reduceIte,YHf]
  simp only[Yc,YHf,YHh,reduceCtorEq,YHg]
  refine⟨fun hc=>?_,fun hc=>?_⟩
  ·rw[YhD,if_pos (by omega)]at h;exact Yj h
  ·rw[YhD,if_neg (by omega)]at h
   refine Loop.keep [0,7,0] Nat (fun i=>[(10,.int .i64 i)]) (fun _=>[]) [] (fun i=>i<=l.length/\(l.take i).any okT0=false) (fun i=>l.length-i) ?_ ?_
   ·refine⟨0,⟨by omega,rfl⟩,?_⟩
    dsimp only[go_sem,reduceIte,YHf]
    simp only[Ya]
    rfl
   ·rintro i ⟨hi,hall⟩
    dsimp only[enc2,YHj,go_sem,reduceIte,YHf]
    simp only[Yc,YHf,YHh,reduceCtorEq,YHg]
    refine⟨fun hlt=>⟨⟨by omega,by omega⟩,fun hc=>?_,fun hc=>⟨i+1,⟨by omega,?_⟩,by omega,?_⟩⟩,fun hge=>?_⟩
    ·have:l.any okT0=true:=YIt.2 ⟨_,Yh (by omega:i<l.length),hc⟩
     rw[if_pos this]at h
     exact Yj h
    ·rw[YjQ (by omega),hall,Bool.false_or];exact hc
    ·rw[YHi ((i:Int)+1) (by omega)]
     simp only[Ya]
     simp
    ·obtain rfl:i=l.length:=by omega
     rw[YIq]at hall
     rw[if_neg (by rw[hall];decide)]at h
     exact Yj h
 ·exact h.1.elim
def Und(l:List (Int×Int))(p:Nat):Prop:=upS (fun n=>(lN n p).1) l<=dnS (fun n=>(lN n p).2) l/\dnS (fun n=>(lN n p).1) l<=upS (fun n=>(lN n p).2) l
theorem Ysw{a b K:Nat}(h:a^K<b^K):a<b:=by
 refine Nat.lt_of_not_le fun hh=>?_
 have:=YHN hh K
 omega
theorem YaM{a b x y K:Nat}(ha:a^K<=2^x)(hb:2^y<=b^K)(h:x<y):a<b:=by
 refine Ysw (K:=K) ?_
 have:(2:Nat)^x<2^y:=(Nat.pow_lt_pow_iff_right (by decide)).2 h
 omega
theorem Yml{l:List (Int×Int)}(hl:∀x,x∈l->okU x)(hn:l.length<=20):∀(f p:Nat),1<=f->1<=p->p*2^f=4096->
 (Ycg f l p=1->dnP l<upP l)/\(Ycg f l p= -1->upP l<dnP l)/\(Ycg f l p=0->Und l 2048)/\(Ycg f l p=1\/Ycg f l p= -1\/Ycg f l p=0):=by
 intro f
 induction f with
 |zero=>intro p h;omega
 |succ f ih=>
  intro p _ hp1 hp
  have h1:=YH f
  rw[YHR]at hp
  have hp2:p<=2048:=by
   have:p*2<=p*(2^f*2):=YHx _ (by omega)
   omega
  have hs:=YtE (p:=p) hp2 hl (by omega)
  obtain⟨⟨a1,a2⟩,b1,b2⟩:=YbG (K:=2^p) (g:=fun n=>(lN n p).1) (h:=fun n=>(lN n p).2) (fun n k1 k2=>Yf2 k1 k2) l hl
  rw[Ycg,hs]
  dsimp only
  by_cases c1:dnS (fun n=>(lN n p).2) l<upS (fun n=>(lN n p).1) l
  ·rw[if_pos c1]
   exact⟨fun _=>YaM b2 a1 c1,fun h=>absurd h (by decide),fun h=>absurd h (by decide),Or.inl rfl⟩
  ·rw[if_neg c1]
   by_cases c2:upS (fun n=>(lN n p).2) l<dnS (fun n=>(lN n p).1) l
   ·rw[if_pos c2]
    exact⟨fun h=>absurd h (by decide),fun _=>YaM a2 b1 c2,fun h=>absurd h (by decide),Or.inr (Or.inl rfl)⟩
   ·rw[if_neg c2]
    rcases YH4 f with h0|h0
    ·subst h0
     have e:p=2048:=by rw[Nat.pow_zero]at hp;omega
     subst e
     exact⟨fun h=>absurd h (by rw[Ycg];decide),fun h=>absurd h (by rw[Ycg];decide),fun _=>⟨by omega,by omega⟩,Or.inr (Or.inr rfl)⟩
    ·exact ih (2*p) h0 (by omega) (by rw[<-hp,YHq 2 p,YHt,YHq 2])
theorem Ypq{l:List (Int×Int)}(hl:∀x,x∈l->okU x)(hn:l.length<=20):
 (Yed l=1->dnP l<upP l)/\(Yed l= -1->upP l<dnP l)/\(Yed l=0->oneF l=true\/Und l 2048)/\(Yed l=1\/Yed l= -1\/Yed l=0):=by
 have hg:=YnL hl (by omega)
 obtain⟨⟨a1,a2⟩,b1,b2⟩:=YbG (K:=2^28) (g:=fun n=>(qN n).1) (h:=fun n=>(qN n).2) (fun n k1 k2=>Yn5 k1 k2) l hl
 unfold Yed
 by_cases c1:dnS (fun n=>(qN n).2) l<upS (fun n=>(qN n).1) l
 ·rw[if_pos c1]at hg
  rw[hg,if_pos rfl]
  exact⟨fun _=>YaM b2 a1 c1,fun h=>absurd h (by decide),fun h=>absurd h (by decide),Or.inl rfl⟩
 ·rw[if_neg c1]at hg
  by_cases c2:upS (fun n=>(qN n).2) l<dnS (fun n=>(qN n).1) l
  ·rw[if_pos c2]at hg
   rw[hg,if_pos rfl]
   exact⟨fun h=>absurd h (by decide),fun _=>YaM a2 b1 c2,fun h=>absurd h (by decide),Or.inr (Or.inl rfl)⟩
  ·rw[if_neg c2]at hg
   rw[hg,if_neg (by decide)]
   by_cases c3:oneF l=true
   ·rw[if_pos c3]
    exact⟨fun h=>absurd h (by decide),fun h=>absurd h (by decide),fun _=>Or.inl c3,Or.inr (Or.inr rfl)⟩
   ·rw[if_neg c3]
    obtain⟨k1,k2,k3,k4⟩:=Yml hl hn 6 64 (by decide) (by decide) (by decide)
    exact⟨k1,k2,fun h=>Or.inr (k3 h),k4⟩
theorem YC1{g h w:Nat->Nat}{c:Nat}:∀(l:List (Int×Int)),(∀x,x∈l->h x.1.toNat<=g x.1.toNat+w x.1.toNat*c)->upS h l<=upS g l+upS w l*c/\dnS h l<=dnS g l+dnS w l*c
 | [],_=>by simp [upS,dnS]
 |x::l,H=>by
  obtain⟨i1,i2⟩:=YC1 l fun y hy=>H y (YHu _ hy)
  have hx:=H x (YHw ..)
  have key:∀e:Nat,h x.1.toNat*e<=g x.1.toNat*e+w x.1.toNat*e*c:=fun e=>by
   have h1:=YHs e hx
   rw[YHT]at h1
   rw[YHt (w x.1.toNat),YHq e c,<-YHt]
   exact h1
  rw[upS,upS,upS,dnS,dnS,dnS,YHT,YHT]
  constructor
  ·split
   ·rw[Nat.zero_mul];omega
   ·have:=key x.2.toNat;omega
  ·split
   ·have:=key (-x.2).toNat;omega
   ·rw[Nat.zero_mul];omega
theorem YwP{l:List (Int×Int)}{J:Nat}{w:Nat->Nat}(hJ:J<=2048)(hl:∀x,x∈l->okU x)(hw:∀x,x∈l->(lN x.1.toNat 2048).2<=(lN x.1.toNat 2048).1+w x.1.toNat*2^(2048-J))(h:Und l 2048):
 dnP l^(2^J)<=upP l^(2^J)*2^(upS w l+dnS w l):=by
 obtain⟨⟨a1,a2⟩,b1,b2⟩:=YbG (K:=2^2048) (g:=fun n=>(lN n 2048).1) (h:=fun n=>(lN n 2048).2) (fun n k1 k2=>Yf2 k1 k2) l hl
 obtain⟨s1,s2⟩:=YC1 (g:=fun n=>(lN n 2048).1) (h:=fun n=>(lN n 2048).2) (w:=w) (c:=2^(2048-J)) l hw
 obtain⟨_,h2⟩:=h
 obtain⟨c,hc⟩:∃c,c=2^(2048-J):=⟨_,rfl⟩
 obtain⟨K,hK⟩:∃K,K=(2:Nat)^2048:=⟨_,rfl⟩
 have hc0:c≠0:=by rw[hc];have:=YH (2048-J);omega
 have hKc:K=2^J*c:=by rw[hK,hc,<-YHz];congr 1;omega
 rw[<-hc]at s1 s2
 rw[<-hK]at a1 a2 b1 b2
 rw[<-Nat.pow_le_pow_iff_left hc0,YIl,<-YHQ,<-YHQ,<-hKc,<-YHQ,YHT]
 refine YHC b2 ?_
 refine YHC (YHL (by decide) (show _<=upS (fun n=>(lN n 2048).1) l+(upS w l*c+dnS w l*c)by omega)) ?_
 rw[YHz]
 exact YHs _ a1
theorem bern(Q:Nat):∀n,Q^n*(Q+n)<=Q*(Q+1)^n
 |0=>by simp
 |n+1=>by
  have ih:=bern Q n
  have h1:Q^(n+1)*(Q+(n+1))=Q*(Q^n*(Q+n))+Q*Q^n:=by
   rw[YHR,<-Nat.add_assoc,YIo,Nat.mul_one,YHq (Q^n) Q,YHt]
  have h2:Q*(Q+1)^(n+1)=Q*(Q*(Q+1)^n)+Q*(Q+1)^n:=by
   rw[YHR,YIo,Nat.mul_one,YIo,YHq ((Q+1)^n) Q]
  have h3:=YHx Q (YHN (show Q<=Q+1 by omega) n)
  have h4:=YHx Q ih
  omega
theorem YxS(Q:Nat)(hQ:0<Q):2*Q^Q<=(Q+1)^Q:=by
 have:=bern Q Q
 refine Nat.le_of_mul_le_mul_left (c:=Q) ?_ hQ
 have e:Q*(2*Q^Q)=Q^Q*(Q+Q):=by rw[YIo,Nat.two_mul,YIo,YHq Q]
 omega
def Near(M W J N m:Nat):Prop:=2^m*M<=N^(2^J)*M+2^m*W/\N^(2^J)*M<=2^m*(M+W)
theorem Near.mono{M W W' J N m:Nat}(h:Near M W J N m)(hw:W<=W'):Near M W' J N m:=by
 obtain⟨h1,h2⟩:=h
 have k1:=YHx (2^m) hw
 have k2:=YHx (2^m) (show M+W<=M+W' by omega)
 exact⟨by omega,by omega⟩
theorem Near.sq{M W J N m:Nat}(hM:0<M)(hW:W<=M)(h:Near M W J N m):Near M (3*W) (J+1) N (2*m):=by
 obtain⟨h1,h2⟩:=h
 unfold Near
 have e0:N^2^(J+1)=N^2^J*N^2^J:=by rw[YHR,YHQ,Nat.pow_two]
 rw[e0,Ydb]
 generalize N^2^J=X at*
 generalize 2^m=P at*
 constructor
 ·refine Nat.le_of_mul_le_mul_right (c:=M) ?_ hM
  have k1:P*(M-W)<=X*M:=by rw[Nat.mul_sub];omega
  have k2:=YHE k1 k1
  obtain⟨V,hV⟩:∃V,V=M-W:=⟨_,rfl⟩
  have hM2:M=V+W:=by omega
  rw[<-hV]at k2
  have e1:P*V*(P*V)=P*P*(V*V):=by simp only[YHt,YHY]
  have e2:(X*M)*(X*M)=X*X*M*M:=by simp only[YHt,YHY]
  have e3:P*P*M*M=P*P*(M*M):=by simp only[YHt]
  have e4:(X*X*M+P*P*(3*W))*M=X*X*M*M+P*P*(3*W*M):=by rw[YHT,YHt (P*P)]
  have e5:M*M<=V*V+3*W*M:=by
   rw[hM2,YHT,YIo,YIo,YIo]
   have:W*V=V*W:=YHq ..
   have h3:3*W*V=3*(W*V):=YHt ..
   have h4:3*W*W=3*(W*W):=YHt ..
   omega
  have e6:=YHx (P*P) e5
  rw[YIo]at e6
  omega
 ·refine Nat.le_of_mul_le_mul_right (c:=M) ?_ hM
  have k2:=YHE h2 h2
  have e1:P*(M+W)*(P*(M+W))=P*P*((M+W)*(M+W)):=by simp only[YHt,YHY]
  have e2:(X*M)*(X*M)=X*X*M*M:=by simp only[YHt,YHY]
  have e3:P*P*(M+3*W)*M=P*P*((M+3*W)*M):=by simp only[YHt]
  have e5:(M+W)*(M+W)<=(M+3*W)*M:=by
   rw[YHT,YIo,YIo,YHT]
   have h3:3*W*M=3*(W*M):=YHt ..
   have h4:M*W=W*M:=YHq ..
   have h5:=YHx W hW
   omega
  have e6:=YHx (P*P) e5
  omega
theorem YzD(M:Nat)(hM:0<M):∀(J f A B S N w:Nat),J<=f->2^S*A<=N*M->N*M<=2^S*B->M<=A->A<=B->B<=2*M->B<=A+w->
 (gl M false f A B S).2<=(gl M false f A B S).1+2^(f-J)\/∃j m,j<=J/\Near M (4^j*(w+2)) j N m:=by
 intro J
 induction J with
 |zero=>
  intro f A B S N w _ _ _ _ _ _ _
  obtain⟨h1,h2⟩:=YgL M false f A B S
  rw[YHT,YIu]at h2
  left
  rw[Nat.sub_zero]
  omega
 |succ J ih=>
  intro f A B S N w hf h1 h2 ha hab hb hw
  obtain⟨f,rfl⟩:∃g,f=g+1:=⟨f-1,by omega⟩
  have hA:A*A/M*M<=A*A:=Nat.div_mul_le_self _ _
  have hA':A*A<(A*A/M+1)*M:=by
   have:=YH5 (A*A) M
   have h3:=YIk (A*A) hM
   rw[YHT,YIu,YHq (A*A/M)];omega
  have hB:B*B<=cdiv (B*B) M*M:=Ybg _ _ hM
  have k1:=YxQ hM h1 hA
  have k2:=Ytx hM h2 hB
  have hA1:M<=A*A/M:=(YH7 hM).2 (YHE ha ha)
  have hAB:A*A/M<=cdiv (B*B) M:=Ydq (YHE hab hab)
  have hB1:cdiv (B*B) M<=4*M:=YaK (by
   have:=YHE hb hb
   have e:4*M*M=2*M*(2*M):=by rw[Nat.mul_mul_mul_comm,YHt]
   omega)
  have hW:cdiv (B*B) M<=A*A/M+(4*w+2):=YaK (by
   obtain⟨v,rfl⟩:∃v,B=A+v:=⟨B-A,by omega⟩
   have e:(A+v)*(A+v)=A*A+v*(A+(A+v)):=by
    rw[YIo,YHT A v A,YIo v A,YHq (A+v) v]
    omega
   have e2:v*(A+(A+v))<=w*(4*M):=YHE (by omega) (by omega)
   have e3:(A*A/M+(4*w+2))*M=(A*A/M+1)*M+w*(4*M)+M:=by
    rw[YHT,YHT,YHT]
    have:4*w*M=w*(4*M):=by rw[YHq 4 w,YHt]
    omega
   omega)
  have lift:∀{j w':Nat},w'+2<=4*(w+2)->∀{m},j<=J->Near M (4^j*(w'+2)) j (N*N) m->∃j m,j<=J+1/\Near M (4^j*(w+2)) j N m:=fun {j w'} hw' {m} hj hn=>by
   refine⟨j+1,m,by omega,?_⟩
   have hm:4^j*(w'+2)<=4^(j+1)*(w+2):=by
    rw[YHR,YHt]
    exact YHx _ hw'
   have:=hn.mono hm
   unfold Near at this⊢
   rw[YsY]
   exact this
  rw[gl,Nat.add_sub_add_right]
  split
  ·split
   ·have:=ih f (A*A/M) (cdiv (B*B) M) (2*S) (N*N) (4*w+2) (by omega) (by rw[Ydb];exact k1) (by rw[Ydb];exact k2) hA1 hAB (by omega) hW
    rcases this with h| ⟨j,m,hj,hn⟩
    ·exact Or.inl h
    ·exact Or.inr (lift (by omega) hj hn)
   ·right
    refine⟨1,2*S+1,by omega,?_⟩
    unfold Near
    rw[Nat.pow_one,Nat.pow_two,Nat.pow_one,YHR,Ydb]
    have g1:2^S*2^S*(2*M)<=2^S*2^S*(A*A/M+(4*w+2)):=YHx _ (by omega)
    have g2:2^S*2^S*cdiv (B*B) M<=2^S*2^S*(2*M+(4*w+2)):=YHx _ (by omega)
    generalize 2^S*2^S=P at*
    rw[YIo]at g1 g2
    have e1:P*2*M=P*(2*M):=YHt ..
    have e2:P*2*(4*(w+2))=P*(4*w+2)+P*(4*w+14):=by rw[YHt,<-YIo];congr 1;omega
    have e3:P*2*(M+4*(w+2))=P*(2*M)+(P*(4*w+2)+P*(4*w+14)):=by rw[YIo,e1,e2]
    exact⟨by omega,by omega⟩
  ·rw[if_neg (by simp)]
   have c1:A*A/M/2*2<=A*A/M:=Nat.div_mul_le_self _ _
   have c2:cdiv (B*B) M<=cdiv (cdiv (B*B) M) 2*2:=Ybg _ _ (by decide)
   have e3:∀x,2^(2*S+1)*x=2^S*2^S*(x*2):=fun x=>by rw[YHR,Ydb,YHt,YHq 2 x]
   have:=ih f (A*A/M/2) (cdiv (cdiv (B*B) M) 2) (2*S+1) (N*N) (2*w+2) (by omega) (by rw[e3];exact YHC (YHx _ c1) k1) (by rw[e3];exact YHC k2 (YHx _ c2)) (by omega) (Ydq hAB) (YaK (by omega)) (YaK (by omega))
   rcases this with h| ⟨j,m,hj,hn⟩
   ·exact Or.inl h
   ·exact Or.inr (lift (by omega) hj hn)
theorem Near.up{M N:Nat}(hM:0<M):∀(d j W m:Nat),4^d*W<=M->Near M W j N m->∃m',Near M (4^d*W) (j+d) N m'
 |0,j,W,m,_,h=>⟨m,by rw[Nat.pow_zero,YIu];exact h⟩
 |d+1,j,W,m,hW,h=>by
  have e:4^(d+1)*W=4*(4^d*W):=by rw[YHR,YHq (4^d) 4,YHt]
  rw[e]at hW
  obtain⟨m',h'⟩:=Near.up hM d j W m (by omega) h
  exact⟨2*m',by rw[e];exact(Near.sq hM (by omega) h').mono (by omega)⟩
def Yc2(J n:Nat):Prop:=(lN n 2048).2<=(lN n 2048).1+2^(2048-J)
theorem YsG{n J:Nat}(h1:1<=n)(h2:n<4611686018427387904)(hJ:J<=500):Yc2 J n\/(Ybz (n:Int)=false/\∃m,Near (2^4160) (2^2160) J n m):=by
 unfold Yc2 lN
 by_cases c:Ybz (n:Int)=true
 ·rw[if_pos c]
  left;exact Nat.le_add_right _ _
 ·rw[if_neg c]
  have hk:lgK n<62:=YeC (by decide) h2
  obtain⟨m1,m2,m3⟩:=mant (D:=2*2048+64) h1 (by omega)
  rw[show 2*2048+64=4160 from rfl]at*
  have hM:=YH 4160
  have:=YzD (2^4160) hM J 2048 _ _ (lgK n) n 0 (by omega) (Nat.le_of_eq m3) (Nat.le_of_eq m3.symm) m1 (YHr _) (Nat.le_of_lt m2) (by omega)
  rcases this with h| ⟨j,m,hj,hn⟩
  ·exact Or.inl h
  ·right
   have e4:∀a,(4:Nat)^a=2^(2*a):=fun a=>by rw[show 4=2^2 from rfl,<-YHQ]
   have hle:∀e,1001<=e->4^(J-j)*(4^j*(0+2))<=2^e:=fun e he=>by
    rw[<-YHt,<-YHz,show J-j+j=J by omega,e4,show 0+2=2^1 from rfl,<-YHz]
    exact YHL (by decide) (by omega)
   obtain⟨m',h'⟩:=Near.up hM (J-j) j _ m (hle 4160 (by decide)) hn
   rw[show j+(J-j)=J by omega]at h'
   exact⟨by simpa using c,m',h'.mono (hle 2160 (by decide))⟩
def RtJ(R J x y m:Nat):Prop:=x^(2^J)<=2^m*R^(2^J)/\2^m*R^(2^J)<=y^(2^J)
theorem RtJ.next{R J x y m c d:Nat}(hR:0<R)(h:RtJ R J x y m)(hc:RtJ R J c d 1):RtJ R J (x*c/R) (y*d/R+1) (m+1):=by
 obtain⟨h1,h2⟩:=h
 obtain⟨c1,c2⟩:=hc
 rw[Nat.pow_one]at c1 c2
 unfold RtJ
 generalize 2^J=Q at*
 have hRQ:0<R^Q:=YIv hR
 rw[YHR]
 generalize 2^m=P at*
 constructor
 ·refine Nat.le_of_mul_le_mul_right (c:=R^Q) ?_ hRQ
  have k1:(x*c/R*R)^Q<=(x*c)^Q:=YHN (Nat.div_mul_le_self _ _) _
  rw[YIl,YIl]at k1
  have k2:=YHE h1 c1
  have e:P*R^Q*(2*R^Q)=P*2*R^Q*R^Q:=by simp only[YHt,YHY]
  omega
 ·refine Nat.le_of_mul_le_mul_right (c:=R^Q) ?_ hRQ
  have k0:y*d<=(y*d/R+1)*R:=by
   have:=YH5 (y*d) R
   have h3:=YIk (y*d) hR
   rw[YHT,YIu,YHq (y*d/R)];omega
  have k1:(y*d)^Q<=((y*d/R+1)*R)^Q:=YHN k0 _
  rw[YIl,YIl]at k1
  have k2:=YHE h2 c2
  have e:P*R^Q*(2*R^Q)=P*2*R^Q*R^Q:=by simp only[YHt,YHY]
  omega
theorem Yr8{n p q:Nat}(h1:1<=n)(h2:n<4611686018427387904)(hp:p<=q):(lN n p).1*2^(q-p)<=(lN n q).1/\(lN n q).2<=(lN n p).2*2^(q-p):=by
 unfold lN
 by_cases c:Ybz (n:Int)=true
 ·rw[if_pos c,if_pos c]
  have e:lgK n*2^p*2^(q-p)=lgK n*2^q:=by
   rw[YHt,<-YHz];congr 2;omega
  simp only
  rw[e];exact⟨YHr _,YHr _⟩
 ·rw[if_neg c,if_neg c]
  have hk:lgK n<62:=YeC (by decide) h2
  have eM:(2:Nat)^(2*q+64)=2^(2*p+64)*2^(2*(q-p)):=by
   rw[<-YHz];congr 1;omega
  have eA:n*2^(2*q+64-lgK n)=2^(2*(q-p))*(n*2^(2*p+64-lgK n)):=by
   rw[show 2*q+64-lgK n=2*(q-p)+(2*p+64-lgK n)by omega,YHz,YHY]
  have:=YkL (2^(2*p+64)) (2^(2*(q-p))) false (YH _) (YH _) (q-p) p (n*2^(2*p+64-lgK n)) (n*2^(2*p+64-lgK n)) (lgK n) _ _ (Nat.le_of_eq eA.symm) (YHr _) (Nat.le_of_eq eA)
  rw[<-eM,show p+(q-p)=q by omega]at this
  exact this
theorem YlG(g:Nat->Nat)(c:Nat):∀l:List (Int×Int),upS (fun n=>g n*c) l=upS g l*c/\dnS (fun n=>g n*c) l=dnS g l*c
 | []=>by simp [upS,dnS]
 |x::l=>by
  obtain⟨a,b⟩:=YlG g c l
  rw[upS,dnS,upS,dnS,a,b]
  constructor
  ·split
   ·simp
   ·rw[YHT,Nat.mul_right_comm]
  ·split
   ·rw[YHT,Nat.mul_right_comm]
   ·simp
def hiN(n:Nat):Nat:=(lN n 2048).2
def loN(n:Nat):Nat:=(lN n 2048).1
def KB:Nat:=2^2048
def DD:Nat:=2^(2048-100)
def C48:Nat:=2^(2048-48)
theorem YeD{n:Nat}(h1:1<=n)(h2:n<4611686018427387904):2^loN n<=n^KB/\n^KB<=2^hiN n:=by
 have h:=Yf2 (p:=2048) h1 h2
 unfold loN hiN KB
 exact h
theorem Yn4{a b c:Nat}(h:a=b+c):(2:Nat)^a=2^b*2^c:=by rw[h,YHz]
theorem KB_is:KB=2^100*DD/\C48=2^52*DD:=by
 have e1:2048=100+(2048-100):=rfl
 have e2:2048-48=52+(2048-100):=rfl
 have h1:=Yn4 e1
 have h2:=Yn4 e2
 unfold KB C48 DD
 exact⟨h1,h2⟩
theorem YsE{n:Nat}(h:Yc2 48 n):hiN n<=loN n+C48:=by
 unfold hiN loN C48
 exact h
attribute [irreducible] KB DD C48
theorem Ynp{l:List (Int×Int)}(hl:∀x,x∈l->okU x){p:Nat}{lo hi:Nat->Nat}(hlo:∀n,1<=n->n<4611686018427387904->lo n*2^p<=loN n)(hhi:∀n,1<=n->n<4611686018427387904->hiN n<=hi n*2^p)
 (h:upS hi l<dnS lo l):upS hiN l<dnS loN l:=by
 have a:=(Ykc (g:=hiN) (h:=fun n=>hi n*2^p) hhi l hl).1
 have b:=(Ykc (g:=fun n=>lo n*2^p) (h:=loN) hlo l hl).2
 rw[(YlG hi _ l).1]at a
 rw[(YlG lo _ l).2]at b
 have:=Nat.mul_lt_mul_of_pos_right h (YH p)
 omega
theorem Yts{l:List (Int×Int)}(hl:∀x,x∈l->okU x)(hn:l.length<=20):∀(f p:Nat),1<=f->1<=p->p*2^f=4096->Ycg f l p= -1->upS hiN l<dnS loN l:=by
 intro f
 induction f with
 |zero=>intro p h;omega
 |succ f ih=>
  intro p _ hp1 hp
  have h1:=YH f
  rw[YHR]at hp
  have hp2:p<=2048:=by
   have:p*2<=p*(2^f*2):=YHx _ (by omega)
   omega
  have hs:=YtE (p:=p) hp2 hl (by omega)
  rw[Ycg,hs]
  dsimp only
  by_cases c1:dnS (fun n=>(lN n p).2) l<upS (fun n=>(lN n p).1) l
  ·rw[if_pos c1]
   exact fun h=>absurd h (by decide)
  ·rw[if_neg c1]
   by_cases c2:upS (fun n=>(lN n p).2) l<dnS (fun n=>(lN n p).1) l
   ·intro _
    exact Ynp hl (p:=2048-p) (fun n a b=>(Yr8 a b hp2).1) (fun n a b=>(Yr8 a b hp2).2) c2
   ·rw[if_neg c2]
    rcases YH4 f with h0|h0
    ·subst h0
     exact fun h=>absurd h (by rw[Ycg];decide)
    ·exact ih (2*p) h0 (by omega) (by rw[<-hp,YHq 2 p,YHt,YHq 2])
theorem YwA{l:List (Int×Int)}(hl:∀x,x∈l->okU x)(hn:l.length<=20)(h:Yed l= -1):upS hiN l<dnS loN l:=by
 have hg:=YnL hl (by omega)
 unfold Yed at h
 by_cases c1:dnS (fun n=>(qN n).2) l<upS (fun n=>(qN n).1) l
 ·rw[if_pos c1]at hg
  rw[hg,if_pos rfl]at h
  exact absurd h (by decide)
 ·rw[if_neg c1]at hg
  by_cases c2:upS (fun n=>(qN n).2) l<dnS (fun n=>(qN n).1) l
  ·exact Ynp hl (p:=2048-28) (fun n a b=>(YkV a b (by decide)).1) (fun n a b=>(YkV a b (by decide)).2) c2
  ·rw[if_neg c2]at hg
   rw[hg,if_neg (by decide)]at h
   by_cases c3:oneF l=true
   ·rw[if_pos c3]at h
    exact absurd h (by decide)
   ·rw[if_neg c3]at h
    exact Yts hl hn 6 64 (by decide) (by decide) (by decide) h
theorem YA7{l:List (Int×Int)}(hl:∀x,x∈l->okU x)(hn:l.length<=20):0<=Yed l↔dnS loN l<=upS hiN l:=by
 obtain⟨g1,g2,g3,g4⟩:=Ypq hl hn
 constructor
 ·intro h
  refine Nat.le_of_not_lt fun hlt=>?_
  obtain⟨⟨a1,a2⟩,b1,b2⟩:=YbG (K:=KB) (g:=loN) (h:=hiN) (fun n k1 k2=>YeD k1 k2) l hl
  have hP:=YaM a2 b1 hlt
  rcases g4 with e|e|e
  ·have:=g1 e;omega
  ·omega
  ·rcases g3 e with o|o
   ·have:=Yla hl hn o;omega
   ·have:dnS loN l<=upS hiN l:=o.2
    omega
 ·intro h
  rcases g4 with e|e|e
  ·omega
  ·have:=YwA hl hn e;omega
  ·omega
theorem YpU{b:Nat}(e:Nat->Nat):∀{r:List Nat},(∀x,x∈r->Nat.gcd b x=1)->Nat.gcd b (PV e r)=1
 | [],_=>by simp [PV]
 |c::r,h=>by
  have h1:Nat.Coprime b c:=h c (YHw ..)
  have h2:Nat.Coprime b (PV e r):=YpU e fun x hx=>h x (YHu _ hx)
  exact Nat.Coprime.mul_right (Nat.Coprime.pow_right _ h1) h2
theorem YsW{b x y P P':Nat}(hb:2<=b)(h1:Nat.gcd b P=1)(hP:0<P)(h:b^x*P=b^y*P'):y<=x:=by
 refine Nat.le_of_not_lt fun hlt=>?_
 obtain⟨d,rfl⟩:∃d,y=x+(d+1):=⟨y-x-1,by omega⟩
 rw[YHz,YHt]at h
 have h2:=Nat.eq_of_mul_eq_mul_left (YIv (by omega)) h
 have h3:b∣P:=by rw[h2,YHR,Nat.mul_right_comm];exact Nat.dvd_mul_left ..
 have h4:b∣Nat.gcd b P:=Nat.dvd_gcd (Nat.dvd_refl b) h3
 rw[h1]at h4
 have:=Nat.le_of_dvd (by decide) h4
 omega
theorem YpV{e:Nat->Nat}:∀{r:List Nat},(∀x,x∈r->2<=x)->0<PV e r
 | [],_=>by simp [PV]
 |b::r,h=>Nat.mul_pos (YIv (by have:=h b (YHw ..);omega)) (YpV fun x hx=>h x (YHu _ hx))
theorem Yw0{e e':Nat->Nat}:∀{r:List Nat},Cop r->(∀x,x∈r->2<=x)->PV e r=PV e' r->∀b,b∈r->e b=e' b
 | [],_,_,_,b,hb=>by cases hb
 |c::r,hc,h2,h,b,hb=>by
  obtain⟨g1,g2⟩:=List.pairwise_cons.1 hc
  have h2':∀x,x∈r->2<=x:=fun x hx=>h2 x (YHu _ hx)
  have hc2:=h2 c (YHw ..)
  rw[PV,PV]at h
  have l1:=YsW hc2 (YpU e g1) (YpV h2') h
  have l2:=YsW hc2 (YpU e' g1) (YpV h2') h.symm
  have he:e c=e' c:=Nat.le_antisymm l2 l1
  rw[he]at h
  have h3:=Nat.eq_of_mul_eq_mul_left (YIv (by omega)) h
  rcases YHI.1 hb with rfl|hb
  ·exact he
  ·exact Yw0 g2 h2' h3 b hb
theorem YAi{l:List (Int×Int)}(hl:∀x,x∈l->okU x)(hn:l.length<=20):oneF l=true↔upP l=dnP l:=by
 refine⟨Yla hl hn,fun h=>?_⟩
 have hT:∀x,x∈l->okT x:=fun x hx=>YEo (hl x hx)
 obtain⟨hc,hs⟩:=Ynb hT hn
 have hr:=Ygm hT hn
 obtain⟨e1,e2⟩:=P_is hc (fun x hx=>(hr x hx).1) l fun x hx=>⟨hl x hx,hs x hx⟩
 rw[e1,e2]at h
 refine List.all_eq_true.2 fun b hb=>decide_eq_true ?_
 have hb2:=hr b hb
 unfold sumB
 rw[YtC hb2.1 hb2.2 l 0 hl (by omega) (by omega) (by omega),Yw0 hc (fun x hx=>(hr x hx).1) h b hb]
 omega
theorem pw_lt{a b:Nat}(h:a<b):(2:Nat)^a<2^b:=(Nat.pow_lt_pow_iff_right (by decide)).2 h
theorem YEC{a b:Nat}(h:2+a<=b):4*(2:Nat)^a<=2^b:=by
 rw[show(4:Nat)=2^2 from rfl,<-YHz];exact YHL (by decide) h
theorem RtJ.up{R J x y m:Nat}(d:Nat)(h:RtJ R J x y m):RtJ R (J+d) x y (m*2^d):=by
 obtain⟨h1,h2⟩:=h
 unfold RtJ
 have k1:=YHN h1 (2^d)
 have k2:=YHN h2 (2^d)
 rw[YIl,<-YHQ,<-YHQ,<-YHQ,<-YHz]at k1 k2
 exact⟨k1,k2⟩
theorem RtJ.le{R J x y m B:Nat}(h:RtJ R J x y m)(hm:m<=B*2^J):x<=2^B*R:=by
 have hQ:=YH J
 rw[<-Nat.pow_le_pow_iff_left (show 2^J≠0 by omega),YIl,<-YHQ]
 exact YHC h.1 (YHs _ (YHL (by decide) hm))
def sq(n:Nat)(f:Nat->Bool):Bool:=Nat.rec (f 0) (fun k _=>f (Nat.succ k)) n
theorem YAd{J n m m0:Nat}(h:Near (2^4160) (2^2160) J n m)(h0:2^m0<=n^(2^J)):m0<=m:=by
 obtain⟨_,h2⟩:=h
 have hMW:=pw_lt (show 2160<4160 by decide)
 generalize(2:Nat)^4160=M at*
 generalize(2:Nat)^2160=W at*
 have k1:=YHs M h0
 have k2:2^m*(M+W)<2^m*(2*M):=Nat.mul_lt_mul_of_pos_left (by omega) (YH m)
 have k3:2^m0*M<2^(m+1)*M:=by rw[YHR,YHt];omega
 have:=(Nat.pow_lt_pow_iff_right (by decide)).1 (Nat.lt_of_mul_lt_mul_right k3)
 omega
theorem Yv8{J J' n:Nat}(h:Yc2 J n)(h1:J<=J')(h2:J'<=2048):(lN n 2048).2<=(lN n 2048).1+2^(J'-J)*2^(2048-J'):=by
 rw[<-YHz,show J'-J+(2048-J')=2048-J by omega]
 exact h
theorem Yr3:∀q,q<62->Ybz ((2^q:Nat):Int)=true:=by decide
def tbP(y:Nat):Nat:=Nat.land (Nat.shiftRight 1552518092300708935148979488462502555256886017116696611139052038026050952686376886330878408828646477950487730697131067577313551987760641208724272968810637556384559195242754483468764431187533836104348593828980831103427008259450020416 (Nat.mul 3 y)) 7
def pw16(k:Nat):Nat->Nat->Bool:=
 Nat.rec (fun A B=>bif Nat.blt 79228162514264337593543950336 A then Nat.blt B 158456325028528675187087900672 else false) (fun _ ih A B=>(fun X=>(fun y=>(fun s=>ih (Nat.shiftRight X s) (Nat.succ (Nat.shiftRight (Nat.pow B 16) s))) (bif Nat.blt y 256 then Nat.add 1440 (tbP y)else Nat.add 1448 (tbP (Nat.shiftRight y 8)))) (Nat.shiftRight X 1536)) (Nat.pow A 16)) k
def Ywa(k e n:Nat):Bool:=(fun A=>pw16 k A A) (Nat.shiftLeft n e)
def Yr(k e a c:Nat):Bool:=Nat.rec true (fun i ih=>bif Ywa k e (Nat.add a (Nat.mul 2 i))then ih else false) c
theorem YAa{X a b c:Nat}(h:c=a+b):X*2^a*2^b=X*2^c:=by rw[h,YHz,YHt]
theorem YAx:∀(k A B N S:Nat),pw16 k A B=true->2^S*A<=N*2^96->N*2^96<=2^S*B->
 ∃S',2^S'*(2^96+1)<=N^(16^k)*2^96/\N^(16^k)*2^96+2^S'<=2^S'*2^97:=by
 intro k
 induction k with
 |zero=>
  intro A B N S h h1 h2
  have h:(bif Nat.blt 79228162514264337593543950336 A then Nat.blt B 158456325028528675187087900672 else false)=true:=h
  cases hb:Nat.blt 79228162514264337593543950336 A with
  |false=>rw[hb]at h;cases h
  |true=>
   rw[hb]at h
   have g1:2^96+1<=A:=Nat.le_of_ble_eq_true hb
   have g2:B+1<=2^97:=Nat.le_of_ble_eq_true h
   rw[Nat.pow_zero,Nat.pow_one]
   refine⟨S,YHC (YHx _ g1) h1,?_⟩
   have g3:=YHx (2^S) g2
   rw[YIo,Nat.mul_one]at g3
   exact YHC (Nat.add_le_add_right h2 _) g3
 |succ k ih=>
  intro A B N S h h1 h2
  obtain⟨t,ht⟩:∃t,(bif Nat.blt (A^16 >>> 1536) 256 then Nat.add 1440 (tbP (A^16 >>> 1536))else Nat.add 1448 (tbP ((A^16 >>> 1536) >>> 8)))=1440+t:=by
   cases Nat.blt (A^16 >>> 1536) 256
   ·exact⟨8+tbP ((A^16 >>> 1536) >>> 8),Nat.add_assoc 1440 8 _⟩
   ·exact⟨tbP (A^16 >>> 1536),rfl⟩
  have h:pw16 k (A^16 >>> (bif Nat.blt (A^16 >>> 1536) 256 then Nat.add 1440 (tbP (A^16 >>> 1536))else Nat.add 1448 (tbP ((A^16 >>> 1536) >>> 8)))) (B^16 >>> (bif Nat.blt (A^16 >>> 1536) 256 then Nat.add 1440 (tbP (A^16 >>> 1536))else Nat.add 1448 (tbP ((A^16 >>> 1536) >>> 8)))+1)=true:=h
  rw[ht,Nat.shiftRight_eq_div_pow,Nat.shiftRight_eq_div_pow]at h
  have e16:N^(16^(k+1))=(N^16)^(16^k):=by rw[YHR,YHq,YHQ]
  rw[e16]
  have p1:=YHN h1 16
  have p2:=YHN h2 16
  rw[YIl,YIl,<-YHQ,<-YHQ]at p1 p2
  have q1:A^16/2^(1440+t)*2^(1440+t)<=A^16:=Nat.div_mul_le_self _ _
  have q2:B^16<=(B^16/2^(1440+t)+1)*2^(1440+t):=by
   have h3:=YIk (B^16) (YH (1440+t))
   have:=YH5 (B^16) (2^(1440+t))
   rw[YHT,YIu,YHq (B^16/2^(1440+t))];omega
  have e1:∀z,2^(S*16+t)*z*2^1440=2^(S*16)*(z*2^(1440+t)):=fun z=>by
   rw[YHz,YHz 2 1440 t]
   simp only[YHt,YHY,YHq]
  have e2:=YAa (X:=N^16) (a:=96) (b:=1440) (c:=96*16) (by decide)
  refine ih _ _ (N^16) (S*16+t) h ?_ ?_
  ·refine Nat.le_of_mul_le_mul_right (c:=2^1440) ?_ (YH 1440)
   rw[e1,e2]
   exact YHC (YHx _ q1) p1
  ·refine Nat.le_of_mul_le_mul_right (c:=2^1440) ?_ (YH 1440)
   rw[e1,e2]
   exact YHC p2 (YHx _ q2)
def farJ(J n:Nat):Prop:=∀m,¬Near (2^4160) (2^2160) J n m
theorem YDK{M W P N S:Nat}(hMW:4*(W*2^P)<=M)(hW:0<W)(h1:2^S*(2^P+1)<=N*2^P)(h2:N*2^P+2^S<=2^S*2^(P+1))(m:Nat)(g1:2^m*M<=N*M+2^m*W)(g2:N*M<=2^m*(M+W)):False:=by
 have hS:=YH S
 have hP:=YH P
 rcases YHA S m with h|h
 ·have hm:2*2^S<=2^m:=by rw[<-Nat.pow_succ'];exact YHL (by decide) h
  rw[YHR]at h2
  generalize 2^m=Q at*
  generalize 2^S=T at*
  generalize 2^P=R at*
  --Q (M-W) R <=T (2 R-1) M
  have k1:=YHs R g1
  have k2:=YHs M h2
  have e1:(N*M+Q*W)*R=N*R*M+Q*(W*R):=by rw[YHT,Nat.mul_right_comm,YHt Q]
  have e2:(N*R+T)*M=N*R*M+T*M:=YHT ..
  have e3:T*(R*2)*M=2*T*(R*M):=by simp only[YHt,YHY,YHq]
  have e4:Q*M*R=Q*(R*M):=by rw[YHt,YHq M]
  have hWR:W*R<=R*M:=by
   have a:W*R*1<=W*R*4:=YHx _ (by decide)
   have b:1*M<=R*M:=YHs M hP
   omega
  obtain⟨V,hV⟩:∃V,R*M=W*R+V:=⟨R*M-W*R,by omega⟩
  have k3:Q*V+T*M<=2*T*(W*R+V):=by
   have:Q*(W*R+V)=Q*(W*R)+Q*V:=YIo ..
   rw[hV]at e3 e4
   omega
  have k4:=YHs V hm
  have e5:2*T*(W*R+V)=2*T*(W*R)+2*T*V:=YIo ..
  have k5:=YHx T hMW
  have e6:T*(4*(W*R))=2*(2*T*(W*R)):=by rw[YHY,YHt 2 T];omega
  have k6:0<2*T*(W*R):=Nat.mul_pos (by omega) (Nat.mul_pos hW hP)
  omega
 ·have hm:2^m<=2^S:=YHL (by decide) h
  generalize 2^m=Q at*
  generalize 2^S=T at*
  generalize 2^P=R at*
  have k1:=YHs R (YHC g2 (YHs _ hm))
  have k2:=YHs M h1
  have e1:N*M*R=N*R*M:=Nat.mul_right_comm ..
  have e2:T*(R+1)*M=T*(R*M)+T*M:=by rw[YHt,YHT,YIu,YIo]
  have e3:T*(M+W)*R=T*(R*M)+T*(W*R):=by rw[YHt,YHT,YIo,YHq M]
  have k3:T*M<=T*(W*R):=by omega
  have:=Nat.le_of_mul_le_mul_left k3 hS
  have:0<W*R:=Nat.mul_pos hW hP
  omega
theorem Yzy{a b c:Nat}(h:2+a+b<=c):4*(2^a*2^b)<=2^c:=by
 rw[<-YHz]
 exact YEC (by omega)
theorem Ywb{k e n:Nat}(he:e<=96)(h:Ywa k e n=true):farJ (4*k) n:=by
 have h:pw16 k (n <<< e) (n <<< e)=true:=h
 rw[Nat.shiftLeft_eq]at h
 have e0:2^(96-e)*(n*2^e)=n*2^96:=by
  rw[YHY,<-YHz];congr 2;omega
 obtain⟨S,h1,h2⟩:=YAx k _ _ n (96-e) h (Nat.le_of_eq e0) (Nat.le_of_eq e0.symm)
 have e1:(16:Nat)^k=2^(4*k):=by rw[YHQ]
 rw[e1]at h1 h2
 intro m hm
 exact YDK (M:=2^4160) (W:=2^2160) (P:=96) (Yzy (by decide)) (YH 2160) h1 h2 m hm.1 hm.2
theorem Ywv{k e a:Nat}(he:e<=96):∀c,Yr k e a c=true->∀i,i<c->farJ (4*k) (a+2*i):=by
 intro c
 induction c with
 |zero=>intro _ i hi;omega
 |succ c ih=>
  intro h i hi
  have h:(bif Ywa k e (a+2*c)then Yr k e a c else false)=true:=h
  cases hb:Ywa k e (a+2*c)with
  |false=>rw[hb]at h;cases h
  |true=>
   rw[hb]at h
   rcases Nat.lt_or_eq_of_le (Nat.le_of_lt_succ hi)with h1|h1
   ·exact ih h i h1
   ·rw[h1];exact Ywb he hb
def AllO(k:Nat):Nat->List (Nat×Nat)->Prop
 |_,[]=>True
 |a,x::r=>(x.1<=96/\Yr k x.1 a x.2=true)/\AllO k (a+2*x.2) r
def YwI(l:List (Nat×Nat)):Nat:=l.foldr (fun x s=>x.2+s) 0
theorem YpA{k:Nat}:∀(l:List (Nat×Nat))(a:Nat),AllO k a l->∀i,i<YwI l->farJ (4*k) (a+2*i)
 | [],a,_,i,hi=>by simp [YwI]at hi
 |x::r,a,h,i,hi=>by
  have e:YwI (x::r)=x.2+YwI r:=rfl
  rw[e]at hi
  rcases YHA i x.2 with h1|h1
  ·exact Ywv h.1.1 x.2 h.1.2 i h1
  ·have:=YpA r _ h.2 (i-x.2) (by omega)
   rw[show a+2*x.2+2*(i-x.2)=a+2*i by omega]at this
   exact this
theorem Yzu{J n:Nat}(hn:1<=n)(h:farJ J n):farJ J (2*n):=by
 intro m hm
 have hlo:2^J<=m:=YAd hm (by rw[YIl];exact Nat.le_mul_of_pos_right _ (YIv hn))
 obtain⟨m',rfl⟩:∃m',m=2^J+m':=⟨m-2^J,by omega⟩
 refine h m' ?_
 obtain⟨h1,h2⟩:=hm
 rw[YIl,YHz]at h1 h2
 unfold Near
 have hQ:=YH (2^J)
 generalize(2:Nat)^4160=M at*
 generalize(2:Nat)^2160=W at*
 generalize 2^2^J=Q at*
 generalize n^2^J=X at*
 generalize 2^m'=R at*
 constructor
 ·refine Nat.le_of_mul_le_mul_left (c:=Q) ?_ hQ
  rw[YIo]
  simp only[<-YHt]at h1⊢
  exact h1
 ·refine Nat.le_of_mul_le_mul_left (c:=Q) ?_ hQ
  simp only[<-YHt]at h2⊢
  exact h2
theorem YAe{J B:Nat}(h:∀i,2*i+3<=B->farJ J (2*i+3)):∀n,1<=n->n<=B->(∃q,n=2^q)\/farJ J n:=by
 intro n
 induction n using Nat.strongRecOn with
 |_ n ih=>
  intro h1 hB
  by_cases ho:n%2=0
  ·obtain⟨j,rfl⟩:∃j,n=2*j:=⟨n/2,by omega⟩
   rcases ih j (by omega) (by omega) (by omega)with⟨q,hq⟩ |hf
   ·exact Or.inl ⟨q+1,by rw[YHR,<-hq,YHq]⟩
   ·exact Or.inr (Yzu (by omega) hf)
  ·by_cases h3:n=1
   ·exact Or.inl ⟨0,h3⟩
   ·obtain⟨i,rfl⟩:∃i,n=2*i+3:=⟨(n-3)/2,by omega⟩
    exact Or.inr (h i hB)
theorem Yfa{J n:Nat}(hJ:J<=500)(h1:1<=n)(h2:n<2^61)(h:(∃q,n=2^q)\/farJ J n):Yc2 J n:=by
 rcases YsG h1 (Nat.lt_trans h2 (by decide)) hJ with hn| ⟨hp,m,hm⟩
 ·exact hn
 ·exfalso
  rcases h with⟨q,hq⟩ |h
  ·have hq2:q<61:=(Nat.pow_lt_pow_iff_right (show 1<2 by decide)).1 (by rw[<-hq];exact h2)
   rw[hq,Yr3 q (by omega)]at hp
   cases hp
  ·exact h m hm
theorem od_0:Yr 13 95 3 1=true:=by decide+kernel
theorem od_1:Yr 13 94 5 2=true:=by decide+kernel
theorem od_2:Yr 13 93 9 4=true:=by decide+kernel
theorem od_3:Yr 13 92 17 8=true:=by decide+kernel
theorem od_4:Yr 13 91 33 16=true:=by decide+kernel
theorem od_5:Yr 13 90 65 32=true:=by decide+kernel
theorem od_6:Yr 13 89 129 64=true:=by decide+kernel
theorem od_7:Yr 13 88 257 128=true:=by decide+kernel
theorem od_8:Yr 13 87 513 256=true:=by decide+kernel
theorem od_9:Yr 13 86 1025 512=true:=by decide+kernel
theorem od_10:Yr 13 85 2049 1024=true:=by decide+kernel
theorem od_11:Yr 13 84 4097 2048=true:=by decide+kernel
theorem od_12:Yr 13 83 8193 4096=true:=by decide+kernel
theorem od_13:Yr 13 82 16385 4096=true:=by decide+kernel
theorem od_14:Yr 13 82 24577 4096=true:=by decide+kernel
theorem od_15:Yr 13 81 32769 4096=true:=by decide+kernel
theorem od_16:Yr 13 81 40961 4096=true:=by decide+kernel
theorem od_17:Yr 13 81 49153 4096=true:=by decide+kernel
theorem od_18:Yr 13 81 57345 4096=true:=by decide+kernel
theorem od_19:Yr 13 80 65537 4096=true:=by decide+kernel
theorem od_20:Yr 13 80 73729 4096=true:=by decide+kernel
theorem od_21:Yr 13 80 81921 4096=true:=by decide+kernel
theorem od_22:Yr 13 80 90113 4096=true:=by decide+kernel
theorem od_23:Yr 13 80 98305 4096=true:=by decide+kernel
theorem od_24:Yr 13 80 106497 4096=true:=by decide+kernel
theorem od_25:Yr 13 80 114689 4096=true:=by decide+kernel
theorem od_26:Yr 13 80 122881 4096=true:=by decide+kernel
theorem od_27:Yr 13 79 131073 4096=true:=by decide+kernel
theorem od_28:Yr 13 79 139265 4096=true:=by decide+kernel
theorem od_29:Yr 13 79 147457 4096=true:=by decide+kernel
theorem od_30:Yr 13 79 155649 4096=true:=by decide+kernel
theorem od_31:Yr 13 79 163841 4096=true:=by decide+kernel
theorem od_32:Yr 13 79 172033 4096=true:=by decide+kernel
theorem od_33:Yr 13 79 180225 4096=true:=by decide+kernel
theorem od_34:Yr 13 79 188417 4096=true:=by decide+kernel
theorem od_35:Yr 13 79 196609 4096=true:=by decide+kernel
theorem od_36:Yr 13 79 204801 4096=true:=by decide+kernel
theorem od_37:Yr 13 79 212993 4096=true:=by decide+kernel
theorem od_38:Yr 13 79 221185 4096=true:=by decide+kernel
theorem od_39:Yr 13 79 229377 4096=true:=by decide+kernel
theorem od_40:Yr 13 79 237569 4096=true:=by decide+kernel
theorem od_41:Yr 13 79 245761 4096=true:=by decide+kernel
theorem od_42:Yr 13 79 253953 4096=true:=by decide+kernel
theorem od_43:Yr 13 78 262145 4096=true:=by decide+kernel
theorem od_44:Yr 13 78 270337 4096=true:=by decide+kernel
theorem od_45:Yr 13 78 278529 4096=true:=by decide+kernel
theorem od_46:Yr 13 78 286721 4096=true:=by decide+kernel
theorem od_47:Yr 13 78 294913 4096=true:=by decide+kernel
theorem od_48:Yr 13 78 303105 4096=true:=by decide+kernel
theorem od_49:Yr 13 78 311297 4096=true:=by decide+kernel
theorem od_50:Yr 13 78 319489 4096=true:=by decide+kernel
theorem od_51:Yr 13 78 327681 4096=true:=by decide+kernel
theorem od_52:Yr 13 78 335873 4096=true:=by decide+kernel
theorem od_53:Yr 13 78 344065 4096=true:=by decide+kernel
theorem od_54:Yr 13 78 352257 4096=true:=by decide+kernel
theorem od_55:Yr 13 78 360449 4096=true:=by decide+kernel
theorem od_56:Yr 13 78 368641 4096=true:=by decide+kernel
theorem od_57:Yr 13 78 376833 4096=true:=by decide+kernel
theorem od_58:Yr 13 78 385025 4096=true:=by decide+kernel
theorem od_59:Yr 13 78 393217 4096=true:=by decide+kernel
theorem od_60:Yr 13 78 401409 4096=true:=by decide+kernel
theorem od_61:Yr 13 78 409601 4096=true:=by decide+kernel
theorem od_62:Yr 13 78 417793 4096=true:=by decide+kernel
theorem od_63:Yr 13 78 425985 4096=true:=by decide+kernel
theorem od_64:Yr 13 78 434177 4096=true:=by decide+kernel
theorem od_65:Yr 13 78 442369 4096=true:=by decide+kernel
theorem od_66:Yr 13 78 450561 4096=true:=by decide+kernel
theorem od_67:Yr 13 78 458753 4096=true:=by decide+kernel
theorem od_68:Yr 13 78 466945 4096=true:=by decide+kernel
theorem od_69:Yr 13 78 475137 4096=true:=by decide+kernel
theorem od_70:Yr 13 78 483329 4096=true:=by decide+kernel
theorem od_71:Yr 13 78 491521 4096=true:=by decide+kernel
theorem od_72:Yr 13 78 499713 4096=true:=by decide+kernel
theorem od_73:Yr 13 78 507905 4096=true:=by decide+kernel
theorem od_74:Yr 13 78 516097 4096=true:=by decide+kernel
theorem od_75:Yr 13 77 524289 4096=true:=by decide+kernel
theorem od_76:Yr 13 77 532481 4096=true:=by decide+kernel
theorem od_77:Yr 13 77 540673 4096=true:=by decide+kernel
theorem od_78:Yr 13 77 548865 4096=true:=by decide+kernel
theorem od_79:Yr 13 77 557057 4096=true:=by decide+kernel
theorem od_80:Yr 13 77 565249 4096=true:=by decide+kernel
theorem od_81:Yr 13 77 573441 4096=true:=by decide+kernel
theorem od_82:Yr 13 77 581633 4096=true:=by decide+kernel
theorem od_83:Yr 13 77 589825 4096=true:=by decide+kernel
theorem od_84:Yr 13 77 598017 992=true:=by decide+kernel
theorem YEl:AllO 13 3 [(95,1),(94,2),(93,4),(92,8),(91,16),(90,32),(89,64),(88,128),(87,256),(86,512),(85,1024),(84,2048),(83,4096),(82,4096),(82,4096),(81,4096),(81,4096),(81,4096),(81,4096),(80,4096),(80,4096),(80,4096),(80,4096),(80,4096),(80,4096),(80,4096),(80,4096),(79,4096),(79,4096),(79,4096),(79,4096),(79,4096),(79,4096),(79,4096),(79,4096),(79,4096),(79,4096),(79,4096),(79,4096),(79,4096),(79,4096),(79,4096),(79,4096),(78,4096),(78,4096),(78,4096),(78,4096),(78,4096),(78,4096),(78,4096),(78,4096),(78,4096),(78,4096),(78,4096),(78,4096),(78,4096),(78,4096),(78,4096),(78,4096),(78,4096),(78,4096),(78,4096),(78,4096),(78,4096),(78,4096),(78,4096),(78,4096),(78,4096),(78,4096),(78,4096),(78,4096),(78,4096),(78,4096),(78,4096),(78,4096),(77,4096),(77,4096),(77,4096),(77,4096),(77,4096),(77,4096),(77,4096),(77,4096),(77,4096),(77,992)]:=⟨⟨by decide,od_0⟩,⟨by decide,od_1⟩,⟨by decide,od_2⟩,⟨by decide,od_3⟩,⟨by decide,od_4⟩,⟨by decide,od_5⟩,⟨by decide,od_6⟩,⟨by decide,od_7⟩,⟨by decide,od_8⟩,⟨by decide,od_9⟩,⟨by decide,od_10⟩,⟨by decide,od_11⟩,⟨by decide,od_12⟩,⟨by decide,od_13⟩,⟨by decide,od_14⟩,⟨by decide,od_15⟩,⟨by decide,od_16⟩,⟨by decide,od_17⟩,⟨by decide,od_18⟩,⟨by decide,od_19⟩,⟨by decide,od_20⟩,⟨by decide,od_21⟩,⟨by decide,od_22⟩,⟨by decide,od_23⟩,⟨by decide,od_24⟩,⟨by decide,od_25⟩,⟨by decide,od_26⟩,⟨by decide,od_27⟩,⟨by decide,od_28⟩,⟨by decide,od_29⟩,⟨by decide,od_30⟩,⟨by decide,od_31⟩,⟨by decide,od_32⟩,⟨by decide,od_33⟩,⟨by decide,od_34⟩,⟨by decide,od_35⟩,⟨by decide,od_36⟩,⟨by decide,od_37⟩,⟨by decide,od_38⟩,⟨by decide,od_39⟩,⟨by decide,od_40⟩,⟨by decide,od_41⟩,⟨by decide,od_42⟩,⟨by decide,od_43⟩,⟨by decide,od_44⟩,⟨by decide,od_45⟩,⟨by decide,od_46⟩,⟨by decide,od_47⟩,⟨by decide,od_48⟩,⟨by decide,od_49⟩,⟨by decide,od_50⟩,⟨by decide,od_51⟩,⟨by decide,od_52⟩,⟨by decide,od_53⟩,⟨by decide,od_54⟩,⟨by decide,od_55⟩,⟨by decide,od_56⟩,⟨by decide,od_57⟩,⟨by decide,od_58⟩,⟨by decide,od_59⟩,⟨by decide,od_60⟩,⟨by decide,od_61⟩,⟨by decide,od_62⟩,⟨by decide,od_63⟩,⟨by decide,od_64⟩,⟨by decide,od_65⟩,⟨by decide,od_66⟩,⟨by decide,od_67⟩,⟨by decide,od_68⟩,⟨by decide,od_69⟩,⟨by decide,od_70⟩,⟨by decide,od_71⟩,⟨by decide,od_72⟩,⟨by decide,od_73⟩,⟨by decide,od_74⟩,⟨by decide,od_75⟩,⟨by decide,od_76⟩,⟨by decide,od_77⟩,⟨by decide,od_78⟩,⟨by decide,od_79⟩,⟨by decide,od_80⟩,⟨by decide,od_81⟩,⟨by decide,od_82⟩,⟨by decide,od_83⟩,⟨by decide,od_84⟩,trivial⟩
theorem YsF{J J' n:Nat}(h:Yc2 J n)(hJ:J'<=J):Yc2 J' n:=by
 unfold Yc2 at*
 exact YHC h (Nat.add_le_add_left (YHL (by decide) (by omega)) _)
theorem YnT{n:Nat}(h1:1<=n)(h2:n<600000):Yc2 48 n:=by
 have h:Yc2 52 n:=by
  refine Yfa (by decide) h1 (by omega) (YAe (J:=4*13) (B:=599999) (fun i hi=>?_) n h1 (by omega))
  have:=YpA _ 3 YEl i (YIa (show i<299999 by omega) (by decide))
  rw[Nat.add_comm 3]at this
  exact this
 exact YsF h (by decide)
def v67:VF:=⟨54,[.tmp 6,.tmp 7,.tmp 8],(ZR [u1 5 .box [.tm 2],Zi 6 0,u1 7 .mov [.cn (.bool false)],Zi 8 0] (.seq (ZR [Zm 13 1,Zc 14 94 13,Zm 9 14] (ZR [Zm 15 9,Zq 16 .neq 15 0] (ZC 16 (ZR [Zm 17 9,Zi 6 0,u1 7 .mov [.cn (.bool false)],Zm 8 17] .ret) .skip))) (.seq (ZR [Zf 18 1 5,Zq 19 .lss 18 1,Zm 20 19,Zh 21 20 false 1 5,u2 22 20 false (.cmp .gtr) [.tm 21,.cn (.int .i64 1000000)],u1 23 .or [.tm 20,.tm 22],Zm 24 23,Zg 25 24 false 0,u2 26 24 false (.cmp .lss) [.tm 25,.cn (.int .i64 1)],u1 27 .or [.tm 24,.tm 26],Zm 28 27,Zg 29 28 false 0,u2 30 28 false (.cmp .gtr) [.tm 29,.cn (.int .i64 1000000000000)],u1 31 .or [.tm 28,.tm 30]] (ZC 31 (ZR [Zi 6 0,u1 7 .mov [.cn (.bool false)],Zi 8 2] .ret) .skip)) (.seq (.drawT [(10,.box [.nil])] (.ops [Zu 32 1] (.ops [Zu 34 0] (.ops [Zv 35 1 5] (.ops [w1 36 (.build [(.int .i64 0),(.int .i64 0)] [(0,1),(1,1)]) [.tm 34,.tm 35]] (.ops [] (.br (.ops [⟨u1 33 (.append 2 16 [(.int .i64 0),(.int .i64 0)]) [.cn .nil,.tm 32],[.tm 0,.tm 34,.tm 5,.tm 35,.tm 34,.tm 35,.tm 36]⟩] (.ops [w1 37 (.buildSlice 2 1 [(.int .i64 0),(.int .i64 0)] [(0,2)]) [.tm 36]] (.ops [w1 38 (.append 2 16 [(.int .i64 0),(.int .i64 0)]) [.tm 33,.tm 37]] (.ops [ZS 1 10 38] .leaf)))) (.ops [w1 37 (.buildSlice 2 1 [(.int .i64 0),(.int .i64 0)] [(0,2)]) [.tm 36]] (.ops [⟨u1 33 (.append 2 16 [(.int .i64 0),(.int .i64 0)]) [.cn .nil,.tm 32],[.tm 0,.tm 34,.tm 5,.tm 35,.tm 34,.tm 35,.tm 36]⟩] (.ops [w1 38 (.append 2 16 [(.int .i64 0),(.int .i64 0)]) [.tm 33,.tm 37]] (.ops [ZS 1 10 38] .leaf))))))))))) (ZR [u1 39 (.mkfn (.func 95) 0) [.tm 10,.tm 5],u1 11 (.alloc [(.val .nilFunc)]) [],Zs 1 11 39] (ZR [u1 40 (.mkfn (.func 96) 0) [.tm 11],Zm 12 40] (.seq (ZR [Zm 41 12,u1 42 .callv [.tm 41,.cn (.int .i64 1000000000001)]] (ZC 42 (ZR [Zi 6 0,u1 7 .mov [.cn (.bool false)],Zi 8 7] .ret) .skip)) (ZR [Zm 43 12,u1 44 (.call 98) [.cn (.int .i64 0),.cn (.int .i64 1000000000001),.tm 43],Zm 6 44] (ZR [Zm 45 6,Zm 46 6,Zq 47 .gtr 46 0,Zm 48 47,Zh 49 48 true 1 11,Zg 50 48 true 6,u2 51 48 true .callv [.tm 49,.tm 50],u2 52 48 true (.call 99) [.tm 51],u1 53 .and [.tm 48,.tm 52],Zm 6 45,Zm 7 53,Zi 8 0] .ret)))))))))⟩
theorem YGB:Ye YHk Tryz.f67=some v67:=by kernel_rfl
def v95:VF:=⟨17,[.tmp 4],(ZR [u1 4 .mov [.cn .nil]] (.seq (.draw [] [Zv 5 1 1,Zv 6 1 1,w1 7 .len [.tm 6],Zv 8 1 1,w1 9 .len [.tm 8],w1 10 (.slice3 2) [.tm 5,.tm 7,.tm 9],Zu 11 0,Zv 12 1 2,w1 13 .neg [.tm 12],w1 14 (.build [(.int .i64 0),(.int .i64 0)] [(0,1),(1,1)]) [.tm 11,.tm 13],w1 15 (.buildSlice 2 1 [(.int .i64 0),(.int .i64 0)] [(0,2)]) [.tm 14],w1 16 (.append 2 16 [(.int .i64 0),(.int .i64 0)]) [.tm 10,.tm 15],Zu 4 16]) .ret))⟩
theorem YG1:Ye YHk Tryz.f95=some v95:=by kernel_rfl
def v96:VF:=⟨13,[.tmp 3],(ZR [u1 3 .mov [.cn (.bool false)]] (ZR [Zm 4 0,Zq 5 .eql 4 0,Zm 6 5,Zh 7 6 false 1 1,Zg 8 6 false 0,u2 9 6 false .callv [.tm 7,.tm 8],u2 10 6 false (.call 97) [.tm 9],u2 11 6 false (.cmp .geq) [.tm 10,.cn (.int .i64 0)],u1 12 .or [.tm 6,.tm 11],Zm 3 12] .ret))⟩
theorem YG2:Ye YHk Tryz.f96=some v96:=by kernel_rfl
def v98:VF:=⟨24,[.tmp 6],(ZR [Zi 6 0] (.seq (.block 0 (.loop (.seq (ZR [Zm 8 1,Zm 9 0,Zo 10 .sub 8 9,Zq 11 .gtr 10 1] (ZC 11 .skip (.exit 0))) (.block 1 (ZR [Zm 12 0,Zm 13 1,Zm 14 0,Zo 15 .sub 13 14,u1 16 .quo [.tm 15,.cn (.int .i64 2)],Zo 17 .add 12 16,Zm 7 17] (ZR [Zm 18 2,Zm 19 7,u1 20 .callv [.tm 18,.tm 19]] (ZC 20 (.region [Zm 21 7,Zm 0 21]) (.region [Zm 22 7,Zm 1 22])))))))) (ZR [Zm 23 0,Zm 6 23] .ret)))⟩
theorem YG4:Ye YHk Tryz.f98=some v98:=by kernel_rfl
def bisL:Nat->(Int->Bool)->Int->Int->Int
 |0,_,a,_=>a
 |f+1,t,a,b=>if 1<b-a then(if t (a+(b-a)/2)=true then bisL f t (a+(b-a)/2) b else bisL f t a (a+(b-a)/2))else a
def atF(all:List (Int×Int))(den k:Int):List (Int×Int):=all++[(k, -den)]
def isF(all:List (Int×Int))(den k:Int):Bool:=decide (k=0) || decide (0<=Yed (atF all den k))
def Ywl(s:Int)(l:List (Int×Int))(den:Int):Int×Bool×Int:=
 if isF (l++[(s,den)]) den 1000000000001=true then(0,false,7)
 else(bisL 64 (isF (l++[(s,den)]) den) 0 1000000000001,decide (0<bisL 64 (isF (l++[(s,den)]) den) 0 1000000000001)&&oneF (atF (l++[(s,den)]) den (bisL 64 (isF (l++[(s,den)]) den) 0 1000000000001)),0)
def YiE(s den:Int):Bool:=decide (den<1) || (decide (1000000<den) || (decide (s<1) || decide (1000000000000<s)))
def Yfd(s:Int)(l:List (Int×Int))(den:Int):Int×Bool×Int:=
 if YhD l≠0 then(0,false,YhD l)else if YiE s den=true then(0,false,2)else Ywl s l den
theorem Yy0{s den:Int}(h:YiE s den=false):(1<=s/\s<=1000000000000)/\1<=den/\den<=1000000:=by
 simp only[YiE,YHp,decide_eq_false_iff_not]at h;omega
theorem Yru{l:List (Int×Int)}(h:YhD l=0):(∀x,x∈l->okT0 x=false)/\l.length<=16:=by
 unfold YhD at h
 split at h
 ·cases h
 ·split at h
  ·cases h
  ·rename_i h1 h2
   rw[YIp,YHP]at h2
   exact⟨fun x hx=>by simpa using h2 x hx,by omega⟩
def prodC:Ctr:={ alias:=false,of:=fun l=>match l with
 | [.int .i64 s,.vs _ _ n sz get,.int .i64 den]=> .ex (List (Int×Int)) fun l=> .pre (lsP 2 enc2 n sz get l/\1<=n/\n<=1000000000000) (.fin (.tup [.int .i64 (Yfd s l den).1,.bool (Yfd s l den).2.1,.int .i64 (Yfd s l den).2.2]) [])
 |_=>noC}
theorem YDj{l:List (Int×Int)}{s den kk:Int}{hp:List HO}{r:List SV->List SV}{i k:Nat}(hk:k<l.length+1+1):
 leXL (YaS false hp r (if k<l.length+1 then if k<l.length then [SV.int IntKind.i64 (l.getD k default).fst,SV.int IntKind.i64 (l.getD k default).snd]else Yq i (YT 2 (YM ((k-l.length)*2) [SV.int IntKind.i64 s,SV.int IntKind.i64 den]))else YT 2 (YM ((k-(l.length+1))*2) [SV.int IntKind.i64 kk,SV.int IntKind.i64 (-den)]))) (enc2 ((atF (l++[(s,den)]) den kk).getD k default)):=by
 unfold atF
 rw[List.append_assoc]
 by_cases h1:k<l.length
 ·rw[if_pos (by omega),if_pos h1,YHo (l:=_++_),YH6 h1,<-YHo]
  exact Yd _
 ·rw[YHo (l:=_++_),List.getElem?_append_right (by omega),if_neg h1]
  by_cases h2:k<l.length+1
  ·rw[if_pos h2,show k-l.length=0 by omega]
   exact Yd _
  ·rw[if_neg h2,show k-(l.length+1)=0 by omega,show k-l.length=1 by omega]
   exact Yd _
theorem Ywy{l:List (Int×Int)}{s den:Int}{i k a b:Nat}(hk:k<l.length+1):leL a b (if k<l.length then [SV.int IntKind.i64 (l.getD k default).fst,SV.int IntKind.i64 (l.getD k default).snd]else Yq i (YT 2 (YM ((k-l.length)*2) [SV.int IntKind.i64 s,SV.int IntKind.i64 den]))) (if k<l.length then [SV.int IntKind.i64 (l.getD k default).fst,SV.int IntKind.i64 (l.getD k default).snd]else Yq i (YT 2 (YM ((k-l.length)*2) [SV.int IntKind.i64 s,SV.int IntKind.i64 den]))):=by
 by_cases h1:k<l.length
 ·rw[if_pos h1];exact⟨⟨rfl,rfl⟩,⟨rfl,rfl⟩,trivial⟩
 ·rw[if_neg h1,show k-l.length=0 by omega];exact⟨⟨rfl,rfl⟩,⟨rfl,rfl⟩,trivial⟩
theorem YA5{s den:Int}{i k a b:Nat}(hk:k<1):leL a b (Yq i (YT 2 (YM (k*2) [SV.int IntKind.i64 s,SV.int IntKind.i64 den]))) (Yq i (YT 2 (YM (k*2) [SV.int IntKind.i64 s,SV.int IntKind.i64 den]))):=by
 obtain rfl:k=0:=by omega
 exact⟨⟨rfl,rfl⟩,⟨rfl,rfl⟩,trivial⟩
theorem YA6{l:List (Int×Int)}{s den kk dd:Int}{i k a b:Nat}(hk:k<l.length+1+1):leL a b (if k<l.length+1 then if k<l.length then [SV.int IntKind.i64 (l.getD k default).fst,SV.int IntKind.i64 (l.getD k default).snd]else Yq i (YT 2 (YM ((k-l.length)*2) [SV.int IntKind.i64 s,SV.int IntKind.i64 den]))else YT 2 (YM ((k-(l.length+1))*2) [SV.int IntKind.i64 kk,SV.int IntKind.i64 dd])) (if k<l.length+1 then if k<l.length then [SV.int IntKind.i64 (l.getD k default).fst,SV.int IntKind.i64 (l.getD k default).snd]else Yq i (YT 2 (YM ((k-l.length)*2) [SV.int IntKind.i64 s,SV.int IntKind.i64 den]))else YT 2 (YM ((k-(l.length+1))*2) [SV.int IntKind.i64 kk,SV.int IntKind.i64 dd])):=by
 by_cases h1:k<l.length+1
 ·rw[if_pos h1];exact Ywy h1
 ·rw[if_neg h1,show k-(l.length+1)=0 by omega];exact⟨⟨rfl,rfl⟩,⟨rfl,rfl⟩,trivial⟩
theorem YyY{l:List (Int×Int)}{s den kk:Int}{hp:List HO}{r:List SV->List SV}{i:Nat}:
 lsP 2 enc2 (l.length+1+1) 2 (fun k=>YaS false hp r (if k<l.length+1 then if k<l.length then [SV.int IntKind.i64 (l.getD k default).fst,SV.int IntKind.i64 (l.getD k default).snd]else Yq i (YT 2 (YM ((k-l.length)*2) [SV.int IntKind.i64 s,SV.int IntKind.i64 den]))else YT 2 (YM ((k-(l.length+1))*2) [SV.int IntKind.i64 kk,SV.int IntKind.i64 (-den)]))) (atF (l++[(s,den)]) den kk):=
 ⟨rfl,by simp [atF],fun k hk=>YDj hk⟩
theorem YyZ{l:List (Int×Int)}{s den kk:Int}(hl:∀x,x∈l->okT0 x=false)(hs:1<=s/\s<=1000000000000)(hd:1<=den/\den<=1000000)(hk:1<=kk/\kk<=1000000000001):∀x,x∈atF (l++[(s,den)]) den kk->okT x:=by
 intro x hx
 unfold atF at hx
 rw[YHO,YHO,YHZ,YHZ]at hx
 rcases hx with(hx|rfl) |rfl
 ·have:=hl x hx
  unfold okT0 at this
  simp only[YHp,decide_eq_false_iff_not]at this
  unfold okT
  omega
 ·simp only[okT];omega
 ·simp only[okT];omega
theorem Yq5{l:List (Int×Int)}{s den:Int}{i k:Nat}(hk:k<l.length+1):lenL (if k<l.length then [SV.int IntKind.i64 (l.getD k default).fst,SV.int IntKind.i64 (l.getD k default).snd]else Yq i (YT 2 (YM ((k-l.length)*2) [SV.int IntKind.i64 s,SV.int IntKind.i64 den])))=2/\ones (if k<l.length then [SV.int IntKind.i64 (l.getD k default).fst,SV.int IntKind.i64 (l.getD k default).snd]else Yq i (YT 2 (YM ((k-l.length)*2) [SV.int IntKind.i64 s,SV.int IntKind.i64 den]))):=by
 by_cases h1:k<l.length
 ·rw[if_pos h1];exact⟨rfl,trivial,trivial,trivial⟩
 ·rw[if_neg h1,show k-l.length=0 by omega];exact⟨rfl,trivial,trivial,trivial⟩
theorem Yju{a b:Int}{k:Nat}(hk:k<1):lenL (YT 2 (YM (k*2) [SV.int IntKind.i64 a,SV.int IntKind.i64 b]))=2/\ones (YT 2 (YM (k*2) [SV.int IntKind.i64 a,SV.int IntKind.i64 b])):=by
 obtain rfl:k=0:=by omega
 exact⟨rfl,trivial,trivial,trivial⟩
def RB2:Env:={ ct:=fun n=>match n with|94=>some chkTC|97=>some signC|99=>some oneC|_=>none,fn:=fun n=>match n with|95=>some v95|96=>some v96|98=>some v98|_=>none,meth:=fun _ _=>none}
theorem YuP:RB2.ct 94=some chkTC:=rfl
theorem YmP:RB2.ct 97=some signC:=rfl
theorem YuR:RB2.ct 99=some oneC:=rfl
theorem YmN:RB2.ct 95=none:=rfl
theorem YmQ:RB2.fn 95=some v95:=rfl
theorem YmO:RB2.ct 96=none:=rfl
theorem YmR:RB2.fn 96=some v96:=rfl
theorem YuQ:RB2.ct 98=none:=rfl
theorem YuS:RB2.fn 98=some v98:=rfl
theorem YCP:Yn YHk RB2:=by
 refine⟨fun f c h=>?_,fun f vf h=>?_,(fun _ _ _ h=>by cases h),by kernel_rfl,(fun _ h=>by cases h),(fun _ _ h=>by cases h)⟩
 ·simp only[RB2]at h
  split at h
  ·cases h;exact⟨YDz,Tryz.f94,Tryz.func94,by kernel_rfl,by kernel_rfl⟩
  ·cases h;exact⟨YFw,Tryz.f97,Tryz.func97,by kernel_rfl,by kernel_rfl⟩
  ·cases h;exact⟨YEp,Tryz.f99,Tryz.func99,by kernel_rfl,by kernel_rfl⟩
  ·cases h
 ·simp only[RB2]at h
  split at h
  ·cases h;exact⟨Tryz.f95,Tryz.func95,YG1,Tryz.f95,Tryz.func95,by kernel_rfl,by kernel_rfl⟩
  ·cases h;exact⟨Tryz.f96,Tryz.func96,YG2,Tryz.f96,Tryz.func96,by kernel_rfl,by kernel_rfl⟩
  ·cases h;exact⟨Tryz.f98,Tryz.func98,YG4,Tryz.f98,Tryz.func98,by kernel_rfl,by kernel_rfl⟩
  ·cases h
theorem Ykk{k:SV->List HO->Prop}{al:Bool}{hp:List HO}{κ κ':IntKind}{x e:Int}{b:Bool}(h:k (.tup [.int κ x,.bool b,.int κ' e]) []):Yz al k (.tup [.int κ x,.bool b,.int κ' e]) hp:=
 YE (show k _ []from h) (YC (.tup [.int κ x,.bool b,.int κ' e]) ⟨trivial,trivial,trivial,trivial⟩) (fun _=>by simp [Yt,Ys])
theorem YEA:prodC.ok YHk 67:=by
 refine Yb Tryz.func67 YGB YCP 800 prodC fun args k h=>?_
 simp only[prodC]at h
 split at h
 ·rename_i s tt z n sz get den
  obtain⟨l,⟨⟨rfl,rfl,hg⟩,hn1,hnb⟩,h⟩:=h
  refine⟨[.int .i64 s,.vs tt z l.length 2 (fun k=>enc2 (l.getD k default)),.int .i64 den],⟨⟨rfl,rfl⟩,⟨id,rfl,rfl,rfl,hg⟩,⟨rfl,rfl⟩,trivial⟩,?_⟩
  dsimp only[v67,YuP,chkTC,enc2,go_sem,reduceIte,YHf]
  simp only[Yc,YHf,YHh,reduceCtorEq,YHg]
  refine⟨l,⟨⟨rfl,rfl,fun k _=>Yd _⟩,by omega⟩,fun hh=>by rw[Yfd,if_pos hh]at h;exact Ykk h,fun hchk=>?_⟩
  obtain⟨hl,hn⟩:=Yru hchk
  rw[Yfd,if_neg (by rw[hchk];decide)]at h
  refine⟨fun hh=>?_,fun hb=>?_⟩
  ·rw[if_pos (show YiE s den=true by rw[YiE];simpa [Bool.or_assoc]using hh)]at h
   exact Ykk h
  have hb:YiE s den=false:=by rw[YiE];simpa [Bool.or_assoc]using hb
  rw[if_neg (by rw[hb];decide)]at h
  obtain⟨hs,hd⟩:=Yy0 hb
  have hnd:IntKind.i64.wrap (0-den)= -den:=by rw[YHi _ (by omega)];omega
  refine⟨⟨by unfold Y3;omega,by decide,⟨by unfold Y3;omega,fun k hk=>?_⟩,?_⟩,by decide,by unfold Y3;omega,⟨by unfold Y3;omega,fun k hk=>?_⟩,?_⟩
  all_goals (try exact Yju hk)
  all_goals
   dsimp only[YmO,YmR,v96,YmN,YmQ,v95,YmP,signC,go_sem,reduceIte,YHf]
   simp only[Yc,YHf,YHh,reduceCtorEq,YHg]
   rw[hnd]
   simp only[YHj]
   have hK:(1:Int)<=1000000000001/\(1000000000001:Int)<=1000000000001:=by decide
   refine⟨fun _=>⟨⟨by omega,by omega⟩,by decide,⟨by decide,by unfold Y3;omega,fun k hk=>Yq5 hk,fun k hk=>Yju hk⟩,atF (l++[(s,den)]) den 1000000000001,fun _=>⟨YyY,YyZ hl hs ⟨hd.1,hd.2⟩ hK,by omega⟩,fun hc=>?_,fun hc=>?_⟩,fun hh=>absurd hh (by decide)⟩
   ·have hc:isF (l++[(s,den)]) den 1000000000001=true:=hc
    rw[Ywl,if_pos hc]at h
    exact Ykk h
   ·have hc:isF (l++[(s,den)]) den 1000000000001=false:=hc
    rw[Ywl,if_neg (by rw[hc];decide)]at h
    dsimp only[YuQ,YuS,v98,go_sem,reduceIte,YHf]
    simp only[Yc,YHf,YHh,reduceCtorEq,YHg]
    obtain⟨t,ht⟩:∃t,t=isF (l++[(s,den)]) den:=⟨_,rfl⟩
    obtain⟨R,hR⟩:∃R,R=bisL 64 t 0 1000000000001:=⟨_,rfl⟩
    rw[<-ht,<-hR]at h
    refine Loop.keep [2] (Nat×Int×Int) (fun s=>[(0,.int .i64 s.2.1),(1,.int .i64 s.2.2)]) (fun _=>[]) [] (fun s=>R=bisL s.1 t s.2.1 s.2.2/\0<=s.2.1/\s.2.1<s.2.2/\s.2.2<=1000000000001/\s.2.2-s.2.1<=2^s.1) (fun s=>s.1) ?_ ?_
    ·refine⟨(64,0,1000000000001),⟨hR,by decide,by decide,by decide,by decide⟩,?_⟩
     dsimp only[go_sem,reduceIte,YHf]
     simp only[Ya]
     repeat' apply YHB
     all_goals first|decide| (intro k hk;first|exact Ywy hk|exact YA5 hk|exact YA6 hk)
    ·rintro⟨f,lo,hi⟩ ⟨hf,b0,b1,b2,b3⟩
     dsimp only at hf b0 b1 b2 b3
     dsimp only[YmO,YmR,v96,YmN,YmQ,v95,YmP,YuR,signC,oneC,go_sem,reduceIte,YHf]
     simp only[Yc,YHf,YHh,reduceCtorEq,YHg]
     rw[hnd]
     simp only[YHj]
     have ed:IntKind.i64.wrap (hi-lo)=hi-lo:=YHi _ (by omega)
     have e2:IntKind.i64.wrap ((hi-lo).tdiv 2)=(hi-lo)/2:=by
      rw[Int.tdiv_eq_ediv_of_nonneg (by omega),YHi _ (by omega)]
     have e3:IntKind.i64.wrap (lo+(hi-lo)/2)=lo+(hi-lo)/2:=YHi _ (by omega)
     rw[ed,e2,e3]
     refine⟨fun hc1=>?_,fun hc1=>?_⟩
     ·obtain⟨m,hm⟩:∃m,m=lo+(hi-lo)/2:=⟨_,rfl⟩
      rw[<-hm]
      obtain⟨g,rfl⟩:∃g,f=g+1:=by
       cases f with
       |zero=>simp at b3;omega
       |succ g=>exact⟨g,rfl⟩
      rw[bisL,if_pos hc1,<-hm]at hf
      have b4:hi-lo<=2^g*2:=by rw[<-Int.pow_succ];exact b3
      have hm0:¬m=0:=by omega
      refine⟨by decide,fun _=>⟨⟨by omega,by omega⟩,by decide,⟨by decide,by unfold Y3;omega,fun k hk=>Yq5 hk,fun k hk=>Yju hk⟩,atF (l++[(s,den)]) den m,fun _=>⟨YyY,YyZ hl hs ⟨hd.1,hd.2⟩ (by omega),by omega⟩,fun hd1=>?_,fun hd1=>?_⟩,fun hh=>absurd hh hm0⟩
      ·have hd1:t m=true:=by rw[ht];exact hd1
       rw[if_pos hd1]at hf
       refine⟨(g,m,hi),⟨hf,by simp only;omega,by simp only;omega,b2,by simp only;omega⟩,by simp only;omega,?_⟩
       simp only[Ya]
       repeat' apply YHB
       all_goals first|decide| (intro k hk;first|exact Ywy hk|exact YA5 hk|exact YA6 hk)
      ·have hd1:t m=false:=by rw[ht];exact hd1
       rw[if_neg (by rw[hd1];decide)]at hf
       refine⟨(g,lo,m),⟨hf,by simp only;omega,by simp only;omega,by simp only;omega,by simp only;omega⟩,by simp only;omega,?_⟩
       simp only[Ya]
       repeat' apply YHB
       all_goals first|decide| (intro k hk;first|exact Ywy hk|exact YA5 hk|exact YA6 hk)
     ·have hRlo:R=lo:=by
       cases f with
       |zero=>exact hf
       |succ g=>rw[hf,bisL,if_neg hc1]
      subst hRlo
      refine⟨fun hp=>⟨⟨by omega,by omega⟩,by decide,⟨by decide,by unfold Y3;omega,fun k hk=>Yq5 hk,fun k hk=>Yju hk⟩,atF (l++[(s,den)]) den R,fun _=>⟨YyY,YyZ hl hs ⟨hd.1,hd.2⟩ (by omega),by omega⟩,Ykk h⟩,fun hp=>⟨fun hh=>absurd hh hp,?_⟩⟩
      rw[decide_eq_false hp,Bool.false_and]at h⊢
      exact Ykk h
 ·exact h.1.elim
theorem YqQ{k:SV->List HO->Prop}{al:Bool}{hp:List HO}{x y:Int}(h:k (.agg [.int .i64 x,.int .i64 y]) []):Yz al k (.agg [.int .i64 x,.int .i64 y]) hp:=
 YE (show k _ []from h) (YC (.agg [.int .i64 x,.int .i64 y]) ⟨trivial,trivial,trivial⟩) (fun _=>by simp [Yt,Ys])
theorem YsX{a b:Nat}(h:2^a<=2^b):a<=b:=(Nat.pow_le_pow_iff_right (show 1<2 by decide)).1 h
theorem YvH:∀n m:Nat,n^4=2^m->∃q,n=2^q:=by
 intro n
 induction n using Nat.strongRecOn with
 |_ n ih=>
  intro m h
  by_cases h1:n<=1
  ·refine⟨0,?_⟩
   rcases(show n=0\/n=1 by omega)with rfl|rfl
   ·have:=YH m
    simp at h
    omega
   ·rfl
  ·have hm:4<=m:=by
    refine Nat.le_of_not_lt fun hh=>?_
    have a:=YHN (show 2<=n by omega) 4
    have b:(2:Nat)^m<2^4:=(Nat.pow_lt_pow_iff_right (by decide)).2 hh
    omega
   obtain⟨d,rfl⟩:∃d,m=d+4:=⟨m-4,by omega⟩
   rw[YHz]at h
   have hev:n%2=0:=by
    refine Classical.byContradiction fun ho=>?_
    obtain⟨j,rfl⟩:∃j,n=2*j+1:=⟨n/2,by omega⟩
    have e:(2*j+1)^4=2*(8*j^4+16*j^3+12*j^2+4*j)+1:=by grind
    omega
   obtain⟨j,rfl⟩:∃j,n=2*j:=⟨n/2,by omega⟩
   rw[YIl]at h
   have h2:j^4=2^d:=by omega
   obtain⟨q,hq⟩:=ih j (by omega) d h2
   exact⟨q+1,by rw[hq,YHR,YHq]⟩
theorem Yl1{n x y d m:Nat}(hx:x=y+d)(hd:250<=d)(h2:n<2^41)(hm:Near (2^x) (2^y) 2 n m):∃q,n=2^q:=by
 obtain⟨a,b⟩:=hm
 have hW:=YH y
 have e:(2:Nat)^x=2^y*2^d:=by rw[hx,YHz]
 rw[e]at a b
 have h4:n^2^2=n^4:=rfl
 rw[h4]at a b
 have hn4:n^4<2^164:=by
  have:=Nat.pow_lt_pow_left h2 (show 4≠0 by decide)
  rwa [<-YHQ]at this
 have hD:(2:Nat)^250<=2^d:=YHL (by decide) hd
 have h3:(2:Nat)^165*2^85=2^250:=rfl
 generalize hN:n^4=N at*
 generalize 2^y=W at*
 generalize hDD:(2:Nat)^d=D at*
 generalize hR:(2:Nat)^m=R at*
 have a':R*D<=N*D+R:=by
  refine Nat.le_of_mul_le_mul_left (c:=W) ?_ hW
  grind
 have b':N*D<=R*D+R:=by
  refine Nat.le_of_mul_le_mul_left (c:=W) ?_ hW
  grind
 have hRs:R<2^165:=by
  refine Nat.lt_of_not_le fun hh=>?_
  have k1:=YHs D (show N+1<=2^164 from hn4)
  have k2:=YHs D hh
  have k3:2*R<=R*D:=by
   have:2<=D:=by omega
   rw[YHq R D];exact YHs R this
  have e1:(N+1)*D=N*D+D:=by rw[YHT,YIu]
  have e2:(2:Nat)^165*D=2*(2^164*D):=by rw[YHR,Nat.mul_right_comm,YHq 2]
  have:0<D:=by omega
  omega
 have c1:R<=N:=by
  refine Nat.le_of_not_lt fun hh=>?_
  have:=YHs D (show N+1<=R from hh)
  rw[YHT,YIu]at this
  omega
 have c2:N<=R:=by
  refine Nat.le_of_not_lt fun hh=>?_
  have:=YHs D (show R+1<=N from hh)
  rw[YHT,YIu]at this
  omega
 exact YvH n m (by rw[hN,hR];omega)
theorem YAb{n:Nat}(h1:1<=n)(h2:n<2^41):Yc2 2 n:=by
 by_cases h:∃q,n=2^q
 ·exact Yfa (by decide) h1 (Nat.lt_trans h2 (by decide)) (Or.inl h)
 ·exact Yfa (by decide) h1 (Nat.lt_trans h2 (by decide)) (Or.inr fun m hm=>h (Yl1 (x:=4160) (y:=2160) (d:=2000) rfl (by decide) h2 hm))
def wP(n:Nat):Nat:=if n=2 then 0 else if n<600000 then 2^52 else 2^98
theorem YzP:Ybz ((2:Nat):Int)=true:=by decide
theorem lN_pw{n p:Nat}(h:Ybz (n:Int)=true):(lN n p).2=(lN n p).1:=by
 unfold lN
 rw[if_pos h]
theorem wP_ok{n:Nat}(h1:1<=n)(h2:n<2^41):hiN n<=loN n+wP n*DD:=by
 unfold wP
 split
 ·rename_i e
  subst e
  have e:hiN 2=loN 2:=lN_pw YzP
  rw[e]
  exact Nat.le_add_right _ _
 ·split
  ·rename_i h
   rw[<-KB_is.2]
   exact YsE (YnT h1 h)
  ·have:=Yv8 (J':=100) (YAb h1 h2) (by decide) (by decide)
   rw[show 100-2=98 from rfl]at this
   unfold hiN loN DD
   exact this
theorem YG8{n:Nat}(h1:1<=n)(h2:n<2^41):(lN n 2048).2<=(lN n 2048).1+wP n*2^(2048-100):=by
 have h:=wP_ok h1 h2
 unfold hiN loN DD at h
 exact h
theorem YhA(g:Nat->Nat):∀a b:List (Int×Int),upS g (a++b)=upS g a+upS g b/\dnS g (a++b)=dnS g a+dnS g b
 | [],b=>by simp [upS,dnS]
 |x::a,b=>by
  obtain⟨h1,h2⟩:=YhA g a b
  rw[List.cons_append,upS,dnS,upS,dnS,h1,h2]
  omega
theorem Yhz:∀a b:List (Int×Int),upP (a++b)=upP a*upP b/\dnP (a++b)=dnP a*dnP b
 | [],b=>by simp [upP,dnP]
 |x::a,b=>by
  obtain⟨h1,h2⟩:=Yhz a b
  rw[List.cons_append,upP,dnP,upP,dnP,h1,h2]
  simp only[YHt,and_self]
theorem at_S(g:Nat->Nat){l:List (Int×Int)}{s den k:Nat}(hd:1<=den):upS g (atF (l++[((s:Int),(den:Int))]) den k)=upS g l+g s*den/\dnS g (atF (l++[((s:Int),(den:Int))]) den k)=dnS g l+g k*den:=by
 unfold atF
 rw[(YhA g _ _).1,(YhA g _ _).2,(YhA g _ _).1,(YhA g _ _).2]
 have h1:¬((den:Int)<0):=by omega
 have h2:(-(den:Int))<0:=by omega
 simp only[upS,dnS,if_neg h1,if_pos h2,YHj,Int.neg_neg]
 omega
theorem at_P{l:List (Int×Int)}{s den k:Nat}(hd:1<=den):upP (atF (l++[((s:Int),(den:Int))]) den k)=upP l*s^den/\dnP (atF (l++[((s:Int),(den:Int))]) den k)=dnP l*k^den:=by
 unfold atF
 rw[(Yhz _ _).1,(Yhz _ _).2,(Yhz _ _).1,(Yhz _ _).2]
 have h1:¬((den:Int)<0):=by omega
 have h2:(-(den:Int))<0:=by omega
 simp only[upP,dnP,if_neg h1,if_pos h2,YHj,Int.neg_neg,Nat.mul_one,YIu,and_self]
def isS(l:List (Int×Int))(s den k:Nat):Prop:=dnS loN l+loN k*den<=upS hiN l+hiN s*den
theorem Yna{l:List (Int×Int)}{s den k:Nat}(hl:∀x,x∈l->okU x)(hs:1<=s/\s<=1000000000000)(hd:1<=den/\den<=1000000)(hk:1<=k/\k<=1000000000001):∀x,x∈atF (l++[((s:Int),(den:Int))]) den k->okU x:=by
 intro x hx
 simp only[atF,YHO,YHZ]at hx
 rcases hx with(hx|rfl) |rfl
 ·exact hl x hx
 ·unfold okU;simp only;omega
 ·unfold okU;simp only;omega
theorem isF_S{l:List (Int×Int)}{s den k:Nat}(hl:∀x,x∈l->okU x)(hn:l.length<=16)(hs:1<=s/\s<=1000000000000)(hd:1<=den/\den<=1000000)(hk:1<=k/\k<=1000000000001):isF (l++[((s:Int),(den:Int))]) den k=true↔isS l s den k:=by
 have h:=YA7 (Yna hl hs hd hk) (by simp [atF];omega)
 rw[(at_S hiN hd.1).1,(at_S loN hd.1).2]at h
 unfold isF isS
 rw[YHS,decide_eq_true_eq,decide_eq_true_eq,h]
 omega
def QJ:Nat:=2^100
theorem YuM:QJ=2^100:=rfl
theorem YEn{x:Int×Int}(h:okU x):x.1.toNat<2^41:=by
 have:=h.2.1
 omega
theorem YvP{l:List (Int×Int)}{s den k:Nat}(hl:∀x,x∈l->okU x)(hn:l.length<=16)(hs:1<=s/\s<=1000000000000)(hd:1<=den/\den<=1000000)(hk:1<=k/\k<=1000000000001)(h:isS l s den k):
 (dnP l*k^den)^QJ<=(upP l*s^den)^QJ*2^(upS wP l+dnS wP l+(wP s+wP k)*den):=by
 have hl2:=Yna hl hs hd hk
 by_cases c:dnP l*k^den<=upP l*s^den
 ·exact YHC (YHN c _) (Nat.le_mul_of_pos_right _ (YH _))
 ·have hu:Und (atF (l++[((s:Int),(den:Int))]) den k) 2048:=by
   refine⟨Nat.le_of_not_lt fun hh=>?_,?_⟩
   ·obtain⟨⟨a1,a2⟩,b1,b2⟩:=YbG (K:=KB) (g:=loN) (h:=hiN) (fun n k1 k2=>YeD k1 k2) _ hl2
    have:=YaM b2 a1 hh
    rw[(at_P hd.1).1,(at_P hd.1).2]at this
    omega
   ·show dnS loN _<=upS hiN _
    rw[(at_S hiN hd.1).1,(at_S loN hd.1).2]
    exact h
  have:=YwP (J:=100) (w:=wP) (by decide) hl2 (fun x hx=>YG8 (Yc5 (hl2 x hx)).1 (YEn (hl2 x hx))) hu
  rw[(at_P hd.1).1,(at_P hd.1).2,(at_S wP hd.1).1,(at_S wP hd.1).2,<-YuM]at this
  rw[YHT,show upS wP l+dnS wP l+(wP s*den+wP k*den)=upS wP l+wP s*den+(dnS wP l+wP k*den)by omega]
  exact this
theorem Yk6{X Y k den Q e t c:Nat}(hQ:1<=Q)(het:e*t<=Q)(ht:1<=t)(h:(Y*k^den)^Q<=X^Q*2^(den*(c*Q+e))):Y*(k*t)^den<=X*(2^c*(t+1))^den:=by
 have h1:2^e*t^Q<=(t+1)^Q:=by
  have a:=YHN (YxS t ht) e
  rw[YIl,<-YHQ,<-YHQ,YHq t e]at a
  obtain⟨d,hd⟩:∃d,Q=e*t+d:=⟨Q-e*t,by omega⟩
  rw[hd,YHz,YHz,<-YHt]
  exact YHE a (YHN (Nat.le_succ t) d)
 have h2:=YHN h1 den
 rw[YIl,<-YHQ,<-YHQ,<-YHQ]at h2
 refine(Nat.pow_le_pow_iff_left (show Q≠0 by omega)).1 ?_
 have h3:=YHs (t^(Q*den)) h
 have e1:(Y*(k*t)^den)^Q=(Y*k^den)^Q*t^(Q*den):=by
  rw[YIl k,<-YHt,YIl _ (t^den),<-YHQ t,YHq den Q]
 have e2:(X*(2^c*(t+1))^den)^Q=X^Q*(2^(den*(c*Q))*(t+1)^(Q*den)):=by
  rw[YIl X,<-YHQ,YIl (2^c),<-YHQ,YHq den Q]
  congr 3
  rw[YHq Q den,YHY]
 rw[e1,e2]
 refine YHC h3 ?_
 rw[YHt]
 refine YHx _ ?_
 rw[YIo,YHz,YHt]
 refine YHx _ ?_
 rw[YHq den e]
 exact h2
theorem YEg{k a b c:Nat}(hk:k<=2^a)(h:a+(b+1)<=c):k*(2^b+1)<=2^c:=by
 have e1:2^b+1<=2^(b+1):=by have:=YH b;rw[YHR];omega
 have e2:=YHE hk e1
 rw[<-YHz]at e2
 exact YHC e2 (YHL (by decide) h)
theorem Yv5{k K m c lo hi:Nat}(h1:1<=k)(hmc:m=c+1)(hk:k*m<=K)(g1:2^lo<=k^K)(g2:(k+1)^K<=2^hi):lo+c<hi:=by
 have a:=YHN (YxS k h1) m
 rw[YIl,<-YHQ,<-YHQ]at a
 obtain⟨d,hd⟩:∃d,K=k*m+d:=⟨K-k*m,by omega⟩
 have b:2^m*k^K<=(k+1)^K:=by
  rw[hd,YHz,YHz,<-YHt]
  exact YHE a (YHN (Nat.le_succ k) d)
 have c1:2^(m+lo)<=2^hi:=by
  rw[YHz]
  exact YHC (YHx _ g1) (YHC b g2)
 have:=YsX c1
 omega
theorem YxX{k:Nat}(h:k<=2^29):k*(C48+1)<=KB:=by
 have h:=YEg (b:=2048-48) (c:=2048) h (by decide)
 unfold C48 KB
 exact h
theorem Ypc{k:Nat}(h1:1<=k)(h2:k+1<600000):loN k+C48<hiN (k+1):=
 Yv5 h1 rfl (YxX (by omega)) (YeD h1 (by omega)).1 (YeD (Nat.le_add_left 1 k) (by omega)).2
theorem YvZ{k:Nat}(h1:1<=k)(h2:k+1<600000):loN k<=loN (k+1):=by
 have s:=Ypc h1 h2
 have hn:=YsE (YnT (n:=k+1) (Nat.le_add_left 1 k) h2)
 omega
theorem Yxv:∀{d k:Nat},1<=k->k+d<600000->loN k<=loN (k+d)
 |0,_,_,_=>YHr _
 |d+1,k,h1,h2=>YHC (Yxv (d:=d) h1 (by omega)) (YvZ (k:=k+d) (by omega) (by omega))
theorem Yxn{l:List (Int×Int)}{s den k m:Nat}(hk:1<=k)(hkm:k<=m)(hm:m<600000)(h:isS l s den m):isS l s den k:=by
 obtain⟨d,rfl⟩:∃d,m=k+d:=⟨m-k,by omega⟩
 have:=YHs den (Yxv hk hm)
 unfold isS at*
 omega
def wide(l:List (Int×Int))(s den:Nat):Prop:=upS wP l+dnS wP l+wP s*den<=den*(2^54+2^20)
theorem YkS{l:List (Int×Int)}{s den k B:Nat}(hl:∀x,x∈l->okU x)(hn:l.length<=16)(hs:1<=s/\s<=1000000000000)(hd:1<=den/\den<=1000000)(hk:1<=k/\k<=1000000000001)(hw:wide l s den)(hY:0<dnP l)
 (hB:upP l*s^den<dnP l*B^den)(hB2:B<=504000)(h:isS l s den k):k<600000/\(dnP l*k^den)^QJ<=(upP l*s^den)^QJ*2^(den*2^55):=by
 have h0:=YvP hl hn hs hd hk h
 have wk:wP k<=2^98:=by
  unfold wP
  split
  ·decide
  ·split
   ·decide
   ·decide
 have hk2:k<600000:=by
  have e1:upS wP l+dnS wP l+(wP s+wP k)*den<=den*(2^98+2^55):=by
   have:=YHx den wk
   unfold wide at hw
   rw[YHT,YIo,YHq (wP k)]
   omega
  have h1:=YHC h0 (YHx _ (YHL (show 1<=2 by decide) e1))
  obtain⟨q,hq⟩:∃q,q=2^98:=⟨_,rfl⟩
  have hQ4:QJ=4*q:=by rw[hq,YuM]
  have h1':(dnP l^4*(k^4)^den)^q<=(upP l^4*(s^4)^den)^q*2^(den*(1*q+2^55)):=by
   have e2:∀u v:Nat,(u^4*(v^4)^den)^q=(u*v^den)^QJ:=fun u v=>by
    rw[hQ4,YHQ (u*v^den),YIl u,<-YHQ v,<-YHQ v,YHq 4 den]
   rw[e2,e2,YIu,hq]
   exact h1
  have h2:=Yk6 (t:=2^40) (by rw[hq];decide) (by rw[hq];decide) (by decide) h1'
  have h3:dnP l^4*(k^4*2^40)^den<dnP l^4*(B^4*(2^1*(2^40+1)))^den:=by
   refine YIi h2 ?_
   rw[YIl (B^4),<-YHt]
   refine Nat.mul_lt_mul_of_pos_right ?_ (YIv (by decide))
   have e3:∀u v:Nat,u^4*(v^4)^den=(u*v^den)^4:=fun u v=>by
    rw[YIl u,<-YHQ v,<-YHQ v,YHq 4 den]
   rw[e3,e3]
   exact Nat.pow_lt_pow_left hB (by decide)
  have h4:=Nat.lt_of_mul_lt_mul_left h3
  have h5:=(Nat.pow_lt_pow_iff_left (by omega)).1 h4
  have h6:=YHN hB2 4
  have h7:k^4<(600000)^4:=by
   have:(504000:Nat)^4*(2^1*(2^40+1))<=(600000)^4*2^40:=by decide
   have:=YHs (2^1*(2^40+1)) h6
   omega
  exact(Nat.pow_lt_pow_iff_left (show 4≠0 by decide)).1 h7
 refine⟨hk2,?_⟩
 have wk2:wP k<=2^52:=by
  unfold wP
  split
  ·decide
  ·exact YHr _
 have e1:upS wP l+dnS wP l+(wP s+wP k)*den<=den*2^55:=by
  have:=YHx den wk2
  unfold wide at hw
  rw[YHT,YHq (wP k)]
  omega
 exact YHC h0 (YHx _ (YHL (show 1<=2 by decide) e1))
structure PowR (l:List (Int×Int)) (s den B r:Nat) (ex:Bool):Prop where
 lt:r+1<600000
 leB:r<=B
 seg:∀k,1<=k->k<600000->(isS l s den k↔k<=r)
 up:upP l*s^den<dnP l*(r+1)^den
 tru:∀k,1<=k->k<600000->dnP l*k^den<=upP l*s^den->k<=r
 near:1<=r->(dnP l*r^den)^QJ<=(upP l*s^den)^QJ*2^(den*2^55)
 ex_iff:ex=true↔1<=r/\upP l*s^den=dnP l*r^den
theorem Yxm{l:List (Int×Int)}{s den k:Nat}(hl:∀x,x∈l->okU x)(hs:1<=s/\s<=1000000000000)(hd:1<=den/\den<=1000000)(hk:1<=k/\k<=1000000000001)(h:¬isS l s den k):upP l*s^den<dnP l*k^den:=by
 have hl2:=Yna hl hs hd hk
 obtain⟨⟨a1,a2⟩,b1,b2⟩:=YbG (K:=KB) (g:=loN) (h:=hiN) (fun n k1 k2=>YeD k1 k2) _ hl2
 have hlt:upS hiN (atF (l++[((s:Int),(den:Int))]) den k)<dnS loN (atF (l++[((s:Int),(den:Int))]) den k):=by
  rw[(at_S hiN hd.1).1,(at_S loN hd.1).2]
  exact Nat.lt_of_not_le h
 have:=YaM a2 b1 hlt
 rwa [(at_P hd.1).1,(at_P hd.1).2]at this
theorem YoX{t:Int->Bool}:∀(f:Nat)(a b:Int),a<b->b-a<=2^f->(bisL f t a b=a\/t (bisL f t a b)=true)/\(bisL f t a b+1=b\/t (bisL f t a b+1)=false):=by
 intro f
 induction f with
 |zero=>
  intro a b h1 h2
  rw[Int.pow_zero]at h2
  rw[bisL]
  exact⟨Or.inl rfl,Or.inl (by omega)⟩
 |succ f ih=>
  intro a b h1 h2
  rw[bisL]
  by_cases c:1<b-a
  ·rw[if_pos c]
   have e:(2:Int)^(f+1)=2*2^f:=by rw[Int.pow_succ];omega
   rw[e]at h2
   by_cases d:t (a+(b-a)/2)=true
   ·rw[if_pos d]
    obtain⟨i1,i2⟩:=ih (a+(b-a)/2) b (by omega) (by omega)
    refine⟨?_,i2⟩
    rcases i1 with i1|i1
    ·exact Or.inr (by rw[i1];exact d)
    ·exact Or.inr i1
   ·rw[if_neg d]
    obtain⟨i1,i2⟩:=ih a (a+(b-a)/2) (by omega) (by omega)
    refine⟨i1,?_⟩
    rcases i2 with i2|i2
    ·exact Or.inr (by rw[i2];simpa using d)
    ·exact Or.inr i2
  ·rw[if_neg c]
   exact⟨Or.inl rfl,Or.inl (by omega)⟩
theorem Yrc{t:Int->Bool}:∀(f:Nat)(a b:Int),a<b->a<=bisL f t a b/\bisL f t a b<b:=by
 intro f
 induction f with
 |zero=>intro a b h;rw[bisL];omega
 |succ f ih=>
  intro a b h
  rw[bisL]
  by_cases c:1<b-a
  ·rw[if_pos c]
   by_cases d:t (a+(b-a)/2)=true
   ·rw[if_pos d]
    have:=ih (a+(b-a)/2) b (by omega)
    omega
   ·rw[if_neg d]
    have:=ih a (a+(b-a)/2) (by omega)
    omega
  ·rw[if_neg c];omega
theorem YAq{l:List (Int×Int)}{s den B:Nat}(hc:YhD l=0)(hl:∀x,x∈l->okU x)(hs:1<=s/\s<=1000000000000)(hd:1<=den/\den<=1000000)(hw:wide l s den)(hY:0<dnP l)
 (hB:upP l*s^den<dnP l*B^den)(hB2:B<=504000):∃r:Nat,(Yfd s l den).1=(r:Int)/\PowR l s den B r (Yfd s l den).2.1:=by
 have hn:=(Yru hc).2
 obtain⟨f,hf⟩:∃f,f=isF (l++[((s:Int),(den:Int))]) (den:Int):=⟨_,rfl⟩
 have hfk:∀k:Nat,1<=k->k<=1000000000001->(f (k:Int)=true↔isS l s den k):=fun k h1 h2=>by
  rw[hf];exact isF_S hl hn hs hd ⟨h1,h2⟩
 have htop:f 1000000000001=false:=by
  cases hh:f 1000000000001 with
  |false=>rfl
  |true=>
   have:=YkS hl hn hs hd (k:=1000000000001) (by decide) hw hY hB hB2 ((hfk 1000000000001 (by decide) (by decide)).1 hh)
   exact absurd this.1 (by decide)
 have hbad:YiE (s:Int) (den:Int)=false:=by
  simp only[YiE,YHp,decide_eq_false_iff_not];omega
 have e1:Yfd (s:Int) l (den:Int)=(bisL 64 f 0 1000000000001,decide (0<bisL 64 f 0 1000000000001)&&oneF (atF (l++[((s:Int),(den:Int))]) den (bisL 64 f 0 1000000000001)),0):=by
  unfold Yfd
  rw[if_neg (by rw[hc];decide),if_neg (by rw[hbad];decide)]
  unfold Ywl
  rw[<-hf,if_neg (by rw[htop];decide)]
 obtain⟨s1,s2⟩:=YoX (t:=f) 64 0 1000000000001 (by decide) (by decide)
 have hr:=Yrc (t:=f) 64 0 1000000000001 (by decide)
 rw[e1]
 generalize bisL 64 f 0 1000000000001=b at*
 obtain⟨r,rfl⟩:∃r:Nat,b=(r:Int):=⟨b.toNat,by omega⟩
 have hr1:1<=r->isS l s den r:=fun h=>by
  rcases s1 with c|c
  ·omega
  ·exact(hfk r h (by omega)).1 c
 have hlt:r<600000/\(1<=r->(dnP l*r^den)^QJ<=(upP l*s^den)^QJ*2^(den*2^55)):=by
  rcases YH4 r with h0|h0
  ·exact⟨by omega,fun h=>by omega⟩
  ·have:=YkS hl hn hs hd ⟨h0,by omega⟩ hw hY hB hB2 (hr1 h0)
   exact⟨this.1,fun _=>this.2⟩
 have hr2:¬isS l s den (r+1):=fun hh=>by
  have:=(hfk (r+1) (by omega) (by omega)).2 hh
  rcases s2 with c|c
  ·omega
  ·rw[Int.natCast_add,show((1:Nat):Int)=1 from rfl,c]at this
   cases this
 have hup:=Yxm hl hs hd (k:=r+1) (by omega) hr2
 have hleB:r<=B:=by
  rcases YH4 r with h0|h0
  ·omega
  ·have h1:=hlt.2 h0
   have h1':(dnP l*r^den)^QJ<=(upP l*s^den)^QJ*2^(den*(0*QJ+2^55)):=by rw[Nat.zero_mul,YIb];exact h1
   have h2:=Yk6 (t:=2^40) (show 1<=QJ by rw[YuM];decide) (by rw[YuM];decide) (by decide) h1'
   have h3:dnP l*(r*2^40)^den<dnP l*(B*(2^0*(2^40+1)))^den:=by
    refine YIi h2 ?_
    rw[YIl B,<-YHt]
    exact Nat.mul_lt_mul_of_pos_right hB (YIv (by decide))
   have h5:=(Nat.pow_lt_pow_iff_left (by omega)).1 (Nat.lt_of_mul_lt_mul_left h3)
   omega
 have hlt2:r+1<600000:=by omega
 have hseg:∀k,1<=k->k<600000->isS l s den k->k<=r:=fun k k1 k2 hk=>by
  refine Nat.le_of_not_lt fun hh=>hr2 ?_
  exact Yxn (by omega) (show r+1<=k from hh) k2 hk
 refine⟨r,rfl,⟨hlt2,hleB,fun k k1 k2=>⟨hseg k k1 k2,fun hk=>?_⟩,hup,fun k k1 k2 hk=>?_,hlt.2,?_⟩⟩
 ·exact Yxn k1 hk hlt.1 (hr1 (by omega))
 ·refine Classical.byContradiction fun hh=>?_
  have:¬isS l s den k:=fun h=>hh (hseg k k1 k2 h)
  have:=Yxm hl hs hd (k:=k) (by omega) this
  omega
 ·rw[YHn,decide_eq_true_eq]
  by_cases h0:1<=r
  ·rw[YAi (Yna hl hs hd ⟨h0,by omega⟩) (by simp [atF];omega),(at_P hd.1).1,(at_P hd.1).2]
   omega
  ·omega
end Go.Proofs.YtlfhmpkopcnheaaGreat
