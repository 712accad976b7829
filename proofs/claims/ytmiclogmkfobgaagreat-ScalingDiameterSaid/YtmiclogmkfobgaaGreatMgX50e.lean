/- Words of 64 bits, walked: Len64, LeadingZeros64, Mul64, Div64. -/
import Derived.Test.YtmiclogmkfobgaaGreatMgX50d
import Derived.Test.YtmiclogmkfobgaaGreatBL
import Derived.Test.YtmiclogmkfobgaaGreatMgX50c
open And renaming intro->YFy
open Bool renaming and_eq_true->YFd,false_and->YGi,false_eq_true->YFx,or_eq_true->YF5,true_and->YGm
open Int renaming eq_ofNat_of_zero_le->YFW,mul_le_mul_of_nonneg_right->YFz,natCast_mul->YFU,toNat->YGq,toNat_natCast->YE4
open Go.IntWalk renaming i64_in->YE7,u64_in->YFN,up_tdiv->YGg,up_tmod->YGr
open List renaming getD_eq_getElem?_getD->YFf,getElem?_append_left->YFK,getElem?_append_right->YFX,getElem?_take->YF9,length_append->YF7,length_cons->YF6,length_take->YF2,mem_append->YFM,mem_cons->YFA,mem_cons_of_mem->YFp,mem_cons_self->YFs,mem_singleton->YFO,take_length->YF4
open Nat renaming add->YFD,add_mul->YFw,add_zero->YF8,beq->YFL,ble->YGs,div->YGt,div_add_mod->YFH,div_le_self->YGd,div_lt_iff_lt_mul->YFE,eq_of_beq_eq_true->YFv,eq_zero_or_pos->YFB,gcd->YF1,le_div_iff_mul_le->YF0,le_of_ble_eq_true->YFV,le_of_eq->YFr,le_of_lt->YGa,le_of_mul_le_mul_right->YFj,le_refl->YFk,le_trans->YFa,lt_of_le_of_lt->YFG,lt_or_ge->YFu,mod->YGo,mod_lt->YFC,mul_add->YFJ,mul_assoc->YFg,mul_comm->YFc,mul_le_mul->YFt,mul_le_mul_left->YFe,mul_le_mul_right->YE9,mul_left_comm->YFY,mul_one->YGb,mul_pos->YF3,mul_pow->YFo,not_lt_zero->YGe,one_mul->YFR,pow_add->YFi,pow_le_pow_left->YFl,pow_le_pow_right->YFq,pow_mul->YFh,pow_one->YGl,pow_pos->YFF,pow_succ->YFm,pow_zero->YGn,reduceAdd->YE5,reduceEqDiff->YE2,reduceLeDiff->YE3,succ_mul->YGp,zero_add->YGh
open Go.Proofs.Tryz renaming prog->YE8
set_option linter.all false
namespace Go.Proofs.YtmiclogmkfobgaaGreat
open Go Go.Vx
set_option maxRecDepth 100000
set_option maxHeartbeats 4000000
theorem YeR:∀(f x:Nat),x<2^f->Lib.bitLenAux f x=Yn x
 |0,x,h=>by
  have:x=0:=by simpa using h
  subst this;rfl
 |f+1,x,h=>by
  rw[Lib.bitLenAux]
  split
  ·rename_i h0;subst h0;rfl
  ·rename_i h0
   rw[YFm]at h
   rw[YeR f (x/2) (by omega),Yex (a:=x) (by omega)];omega
theorem Ypl{x:Nat}(h:x<18446744073709551616):Lib.bitLen x=Yn x:=YeR 64 x h
def len64C:Ctr:={ alias:=false,of:=fun l=>match l with
 | [.int .u64 x]=> .pre (0<=x/\x<=18446744073709551615) (.fin (.int .i64 (Yn x.toNat)) [])
 |_=>noC}
theorem Yiv:len64C.ok YE8 146:=by
 intro args vs z k hsat hx hc
 simp only[len64C]at hc
 split at hc
 ·rename_i x
  obtain⟨⟨h0,h1⟩,hc⟩:=hc
  cases hx with|cons _ v _ l g1 hx=>
  cases hx
  cases g1
  refine(len64_calls x z.toWorld h0 h1).mono ?_
  rintro e w' ⟨rfl,rfl⟩
  rw[Ypl (by omega)]
  exact⟨_,[],_,[],z.I,YaL z,hc,rfl,.x _ _ (.int _ _),hp0 (hJ:=YaL z) hsat,BelowI.refl _ _,fun _=>⟨trivial,trivial⟩⟩
 ·exact hc.1.elim
def v136:VF:=⟨6,[.tmp 2],(ZR [Zi 2 0] (ZR [Zm 3 0,Zc 4 146 3,u1 5 (.ari .sub) [.cn (.int .i64 64),.tm 4],Zm 2 5] .ret))⟩
theorem YzN:Yg YE8 Tryz.f136=some v136:=by kernel_rfl
def v80:VF:=⟨51,[.tmp 4,.tmp 5],(ZR [u1 4 .mov [.cn (.int .u64 0)],u1 5 .mov [.cn (.int .u64 0)]] (ZR [Zm 14 0,u1 15 (.bit .and) [.tm 14,.cn (.int .u64 4294967295)],Zm 6 15] (ZR [Zm 16 0,u1 17 .shr [.tm 16,.cn (.int .u64 32)],Zm 7 17] (ZR [Zm 18 1,u1 19 (.bit .and) [.tm 18,.cn (.int .u64 4294967295)],Zm 8 19] (ZR [Zm 20 1,u1 21 .shr [.tm 20,.cn (.int .u64 32)],Zm 9 21] (ZR [Zm 22 6,Zm 23 8,Zo 24 .mul 22 23,Zm 10 24] (ZR [Zm 25 7,Zm 26 8,Zo 27 .mul 25 26,Zm 28 10,u1 29 .shr [.tm 28,.cn (.int .u64 32)],Zo 30 .add 27 29,Zm 11 30] (ZR [Zm 31 11,u1 32 (.bit .and) [.tm 31,.cn (.int .u64 4294967295)],Zm 12 32] (ZR [Zm 33 11,u1 34 .shr [.tm 33,.cn (.int .u64 32)],Zm 13 34] (ZR [Zm 35 12,Zm 36 6,Zm 37 9,Zo 38 .mul 36 37,Zo 39 .add 35 38,Zm 12 39] (ZR [Zm 40 7,Zm 41 9,Zo 42 .mul 40 41,Zm 43 13,Zo 44 .add 42 43,Zm 45 12,u1 46 .shr [.tm 45,.cn (.int .u64 32)],Zo 47 .add 44 46,Zm 4 47] (ZR [Zm 48 0,Zm 49 1,Zo 50 .mul 48 49,Zm 5 50] .ret))))))))))))⟩
theorem YEI:Yg YE8 Tryz.f80=some v80:=by kernel_rfl
def v109:VF:=⟨135,[.tmp 6,.tmp 7],(ZR [u1 6 .mov [.cn (.int .u64 0)],u1 7 .mov [.cn (.int .u64 0)]] (.seq (ZR [Zm 19 2,u1 20 (.cmp .eql) [.tm 19,.cn (.int .u64 0)]] (ZC 20 .stuck .skip)) (.seq (ZR [Zm 22 2,Zm 23 0,Zr 24 .leq 22 23] (ZC 24 .stuck .skip)) (.seq (ZR [Zm 26 0,u1 27 (.cmp .eql) [.tm 26,.cn (.int .u64 0)]] (ZC 27 (.seq (.draw [] [Zu 28 1,Zu 29 2,w1 30 .quo [.tm 28,.tm 29],Zu 31 1,Zu 32 2,w1 33 .rem [.tm 31,.tm 32],Zu 6 30,Zu 7 33]) .ret) .skip)) (ZR [Zm 34 2,Zc 35 136 34,u1 36 (.conv .u64) [.tm 35],Zm 8 36] (ZR [Zm 37 2,Zm 38 8,u1 39 .shl [.tm 37,.tm 38],Zm 2 39] (ZR [Zm 40 2,u1 41 .shr [.tm 40,.cn (.int .u64 32)],Zm 9 41] (ZR [Zm 42 2,u1 43 (.bit .and) [.tm 42,.cn (.int .u64 4294967295)],Zm 10 43] (ZR [Zm 44 0,Zm 45 8,u1 46 .shl [.tm 44,.tm 45],Zm 47 1,Zm 48 8,u1 49 (.ari .sub) [.cn (.int .u64 64),.tm 48],u1 50 .shr [.tm 47,.tm 49],u1 51 (.bit .or) [.tm 46,.tm 50],Zm 11 51] (ZR [Zm 52 1,Zm 53 8,u1 54 .shl [.tm 52,.tm 53],Zm 12 54] (ZR [Zm 55 12,u1 56 .shr [.tm 55,.cn (.int .u64 32)],Zm 13 56] (ZR [Zm 57 12,u1 58 (.bit .and) [.tm 57,.cn (.int .u64 4294967295)],Zm 14 58] (ZR [Zm 59 11,Zm 60 9,u1 61 .quo [.tm 59,.tm 60],Zm 15 61] (ZR [Zm 62 11,Zm 63 15,Zm 64 9,Zo 65 .mul 63 64,Zo 66 .sub 62 65,Zm 16 66] (.seq (.block 0 (.loop (.seq (ZR [Zm 67 15,u1 68 (.cmp .geq) [.tm 67,.cn (.int .u64 4294967296)],Zm 69 68,Zg 70 69 false 15,Zg 71 69 false 10,u2 72 69 false (.ari .mul) [.tm 70,.tm 71],Zg 73 69 false 16,u2 74 69 false (.ari .mul) [.cn (.int .u64 4294967296),.tm 73],Zg 75 69 false 13,u2 76 69 false (.ari .add) [.tm 74,.tm 75],u2 77 69 false (.cmp .gtr) [.tm 72,.tm 76],u1 78 .or [.tm 69,.tm 77]] (ZC 78 .skip (.exit 0))) (.block 1 (ZR [Zm 79 15,u1 80 (.ari .sub) [.tm 79,.cn (.int .u64 1)],Zm 15 80] (ZR [Zm 81 16,Zm 82 9,Zo 83 .add 81 82,Zm 16 83] (ZR [Zm 84 16,u1 85 (.cmp .geq) [.tm 84,.cn (.int .u64 4294967296)]] (ZC 85 (.exit 0) .skip)))))))) (ZR [Zm 86 11,u1 87 (.ari .mul) [.tm 86,.cn (.int .u64 4294967296)],Zm 88 13,Zo 89 .add 87 88,Zm 90 15,Zm 91 2,Zo 92 .mul 90 91,Zo 93 .sub 89 92,Zm 17 93] (ZR [Zm 94 17,Zm 95 9,u1 96 .quo [.tm 94,.tm 95],Zm 18 96] (ZR [Zm 97 17,Zm 98 18,Zm 99 9,Zo 100 .mul 98 99,Zo 101 .sub 97 100,Zm 16 101] (.seq (.block 2 (.loop (.seq (ZR [Zm 102 18,u1 103 (.cmp .geq) [.tm 102,.cn (.int .u64 4294967296)],Zm 104 103,Zg 105 104 false 18,Zg 106 104 false 10,u2 107 104 false (.ari .mul) [.tm 105,.tm 106],Zg 108 104 false 16,u2 109 104 false (.ari .mul) [.cn (.int .u64 4294967296),.tm 108],Zg 110 104 false 14,u2 111 104 false (.ari .add) [.tm 109,.tm 110],u2 112 104 false (.cmp .gtr) [.tm 107,.tm 111],u1 113 .or [.tm 104,.tm 112]] (ZC 113 .skip (.exit 2))) (.block 3 (ZR [Zm 114 18,u1 115 (.ari .sub) [.tm 114,.cn (.int .u64 1)],Zm 18 115] (ZR [Zm 116 16,Zm 117 9,Zo 118 .add 116 117,Zm 16 118] (ZR [Zm 119 16,u1 120 (.cmp .geq) [.tm 119,.cn (.int .u64 4294967296)]] (ZC 120 (.exit 2) .skip)))))))) (ZR [Zm 121 15,u1 122 (.ari .mul) [.tm 121,.cn (.int .u64 4294967296)],Zm 123 18,Zo 124 .add 122 123,Zm 125 17,u1 126 (.ari .mul) [.tm 125,.cn (.int .u64 4294967296)],Zm 127 14,Zo 128 .add 126 127,Zm 129 18,Zm 130 2,Zo 131 .mul 129 130,Zo 132 .sub 128 131,Zm 133 8,u1 134 .shr [.tm 132,.tm 133],Zm 6 124,Zm 7 134] .ret))))))))))))))))))))⟩
theorem Yzs:Yg YE8 Tryz.f109=some v109:=by kernel_rfl
def lz64C:Ctr:={ alias:=false,of:=fun l=>match l with
 | [.int .u64 x]=> .pre (0<=x/\x<=18446744073709551615) (.fin (.int .i64 (64-(Yn x.toNat:Int))) [])
 |_=>noC}
def mul64C:Ctr:={ alias:=false,of:=fun l=>match l with
 | [.int .u64 x,.int .u64 y]=> .pre ((0<=x/\x<=18446744073709551615)/\0<=y/\y<=18446744073709551615) (.fin (.tup [.int .u64 (x*y/18446744073709551616),.int .u64 (x*y%18446744073709551616)]) [])
 |_=>noC}
def div64C:Ctr:={ alias:=false,of:=fun l=>match l with
 | [.int .u64 h,.int .u64 x,.int .u64 y]=> .pre ((0<=x/\x<=18446744073709551615)/\0<=h/\h<y/\y<=18446744073709551615) (.fin (.tup [.int .u64 ((h*18446744073709551616+x)/y),.int .u64 ((h*18446744073709551616+x)%y)]) [])
 |_=>noC}
def B0:Env:={ ct:=fun n=>match n with|146=>some len64C|_=>none,fn:=fun _=>none,meth:=fun _ _=>none}
theorem Yse:B0.ct 146=some len64C:=rfl
theorem YAo:Yu YE8 B0:=by
 refine⟨fun f c h=>?_,fun f vf h=>?_,(fun _ _ _ h=>by cases h),by kernel_rfl,(fun _ h=>by cases h)⟩
 ·simp only[B0]at h
  split at h
  ·cases h;exact⟨Yiv,Tryz.f146,Tryz.func146,by kernel_rfl,by kernel_rfl⟩
  ·cases h
 ·cases h
theorem Yx5:lz64C.ok YE8 136:=by
 refine Yb Tryz.func136 YzN YAo 100 lz64C fun args k h=>?_
 simp only[lz64C]at h
 split at h
 ·rename_i x
  obtain⟨⟨h0,h1⟩,h⟩:=h
  refine⟨[.int .u64 x],by simp [leL,le],?_⟩
  (try dsimp only[v136,Yse,len64C,go_sem,reduceIte])
  (try simp only[Yd,YE5,YE3,reduceCtorEq,YE2])
  refine⟨⟨h0,h1⟩,Yh ?_⟩
  have:Yn x.toNat<=64:=bitsN_le.2 (by have:(2:Nat)^64=18446744073709551616:=rfl;omega)
  rw[YE7 _ (by omega)]
  exact h
 ·exact h.1.elim
theorem Yjy{x:Nat}(h:x<18446744073709551616):bitI .and .u64 (x:Int) 4294967295=((x%4294967296:Nat):Int):=Ys7 h
theorem Ytb{x y:Nat}(hx:x<18446744073709551616)(hy:y<18446744073709551616):bitI .or .u64 (x:Int) (y:Int)=((x||| y:Nat):Int):=Yq8 hx hy
theorem YiC:mul64C.ok YE8 80:=by
 refine Yb Tryz.func80 YEI YAo 200 mul64C fun args k h=>?_
 simp only[mul64C]at h
 split at h
 ·rename_i x y
  obtain⟨⟨⟨h0,h1⟩,h2,h3⟩,h⟩:=h
  obtain⟨x,rfl⟩:=YFW h0
  obtain⟨y,rfl⟩:=YFW h2
  refine⟨[.int .u64 x,.int .u64 y],by simp [leL,le],?_⟩
  (try dsimp only[v80,go_sem,reduceIte])
  (try simp only[Yd,YE5,YE3,reduceCtorEq,YE2])
  have hx:x<18446744073709551616:=by omega
  have hy:y<18446744073709551616:=by omega
  obtain⟨e,b1,b2,b3,b4,b5,b6,b7,b8⟩:=YCr hx hy
  have s32:∀z:Nat,(z:Int).fdiv (2^min (YGq 32) IntKind.u64.bits)=((z/4294967296:Nat):Int):=fun z=>YbA (s:=32) (by decide)
  have hm:∀z:Nat,z%4294967296<18446744073709551616:=fun z=>by omega
  try rw[show IntKind.u64.bits=64 from rfl]at*
  rw[Yjy hx,Yjy hy,s32 x,s32 y,YkJ b1,s32 (x%4294967296*(y%4294967296)),YkJ b2,Yep b3,s32 (x/4294967296*(y%4294967296)+x%4294967296*(y%4294967296)/4294967296),Yjy b3,YkJ b4,Yep b5,s32,YkJ b6,Yep b7,Yep b8,e,YlG]
  refine⟨by decide,by decide,by decide,by decide,by decide,?_⟩
  have h:k (.tup [.int .u64 ((x:Int)*y/18446744073709551616),.int .u64 ((x:Int)*y%18446744073709551616)]) []:=h
  have e2:((x*y/18446744073709551616:Nat):Int)=(x:Int)*y/18446744073709551616:=by
   rw[<-YFU];generalize x*y=z;omega
  rw[e2]
  exact Ycv h
 ·exact h.1.elim
def B2:Env:={ ct:=fun n=>match n with|136=>some lz64C|_=>none,fn:=fun _=>none,meth:=fun _ _=>none}
theorem Ysf:B2.ct 136=some lz64C:=rfl
theorem B2_ok:Yu YE8 B2:=by
 refine⟨fun f c h=>?_,fun f vf h=>?_,(fun _ _ _ h=>by cases h),by kernel_rfl,(fun _ h=>by cases h)⟩
 ·simp only[B2]at h
  split at h
  ·cases h;exact⟨Yx5,Tryz.f136,Tryz.func136,by kernel_rfl,by kernel_rfl⟩
  ·cases h
 ·cases h
theorem Ytk:div64C.ok YE8 109:=by
 refine Yb Tryz.func109 Yzs B2_ok 300 div64C fun args k h=>?_
 simp only[div64C]at h
 split at h
 ·rename_i hh x y
  obtain⟨⟨⟨h0,h1⟩,h2,h3,h4⟩,h⟩:=h
  obtain⟨x,rfl⟩:=YFW h0
  obtain⟨hh,rfl⟩:=YFW h2
  obtain⟨y,rfl⟩:=YFW (by omega:0<=y)
  refine⟨[.int .u64 hh,.int .u64 x,.int .u64 y],by simp [leL,le],?_⟩
  (try dsimp only[v109,Ysf,lz64C,go_sem,reduceIte])
  (try simp only[Yd,YE5,YE3,reduceCtorEq,YE2])
  have hx:x<18446744073709551616:=by omega
  have hy:y<18446744073709551616:=by omega
  have hlt:hh<y:=by omega
  try rw[show IntKind.u64.bits=64 from rfl]at*
  refine⟨fun hc=>by omega,fun _=>⟨fun hc=>by omega,fun _=>⟨fun hz=>?_,fun hz=>?_⟩⟩⟩
  ·obtain rfl:hh=0:=by omega
   have e1:(x:Int).tdiv y=((x/y:Nat):Int):=YGg rfl rfl
   have e2:(x:Int).tmod y=((x%y:Nat):Int):=YGr rfl rfl
   have h:k (.tup [.int .u64 ((((0:Nat):Int)*18446744073709551616+x)/y),.int .u64 ((((0:Nat):Int)*18446744073709551616+x)%y)]) []:=h
   have e3:((0:Nat):Int)*18446744073709551616+x=x:=by omega
   rw[e3]at h
   rw[e1,e2,Ybg (YFG (YGd _ _) hx)]
   refine⟨by omega,by omega,?_⟩
   exact Ycv h
  ·obtain⟨s,hs⟩:∃s,s=64-Yn y:=⟨_,rfl⟩
   obtain⟨f1,f2,f3⟩:=YnU hy (by omega)
   rw[<-hs]at f2 f3
   have hs64:s<=64:=by omega
   obtain⟨g1,g2,g3⟩:=YtF (h:=hh) hs64 hx
   have hsh:hh*2^s<y*2^s:=Nat.mul_lt_mul_of_pos_right hlt (YF s)
   have es:IntKind.u64.wrap (64-(Yn ((y:Int)).toNat:Int))=(s:Int):=by
    rw[YE4,YFN _ (by omega)];omega
   have es2:IntKind.u64.wrap (64-(s:Int))=((64-s:Nat):Int):=by rw[YFN _ (by omega)];omega
   have sY:=YgA hs64 f3
   have sH:=YgA hs64 (Nat.lt_trans hsh f3)
   have sX1:=YbA (x:=x) (s:=64-s) (by omega)
   have hxs:x/2^(64-s)<18446744073709551616:=YFG (YGd _ _) hx
   have sO:=Ytb (Nat.lt_trans hsh f3) hxs
   rw[g1]at sO
   have sX:IntKind.u64.wrap ((x:Int)*2^min s 64)=((x*2^s%18446744073709551616:Nat):Int):=by
    rw[Nat.min_eq_left hs64]
    have:(x:Int)*2^s=((x*2^s:Nat):Int):=by simp
    rw[this,YDS]
   have s32:∀z:Nat,(z:Int).fdiv (2^min (YGq 32) 64)=((z/4294967296:Nat):Int):=fun z=>YbA (s:=32) (by decide)
   have mY:=Yjy f3
   have mX:=Yjy (YFC (x*2^s) (show 0<18446744073709551616 by omega))
   rw[es]
   simp only[YE4,es2,sY,sH,sX1,sO,sX,s32,mY,mX]
   have hN:=g3
   generalize hY:y*2^s=Y at f2 f3 hsh⊢
   generalize hX:x*2^s%18446744073709551616=X at hN⊢
   generalize hA:hh*2^s+x/2^(64-s)=A at hN⊢
   have hX6:X<18446744073709551616:=by rw[<-hX];exact YFC _ (show 0<18446744073709551616 by omega)
   have hAY:A<Y:=by
    have:hh*2^s+2^s<=y*2^s:=by rw[<-YGp];exact YE9 _ hlt
    omega
   clear mY mX sX sO sX1 sH sY es es2 g1 g2 g3
   have y1a:2147483648<=Y/4294967296:=by omega
   have y1b:Y/4294967296<4294967296:=by omega
   have y1p:0<Y/4294967296:=by omega
   have eY:Y/4294967296*4294967296+Y%4294967296=Y:=Nat.div_add_mod' Y 4294967296
   have y0b:Y%4294967296<4294967296:=by omega
   have u1b:X/4294967296<4294967296:=by omega
   have u0b:X%4294967296<4294967296:=by omega
   have hYp:0<Y:=by omega
   have start:=fun(a u:Nat) (ha:a<Y) (hu:u<4294967296)=>(YpL (u:=u) y1a y0b (by rw[eY];exact ha) hu).resolve_right (by omega)
   have eq0:∀a:Nat,a<Y->IntKind.u64.wrap ((a:Int).tdiv ((Y/4294967296:Nat):Int))=((a/(Y/4294967296):Nat):Int):=fun a ha=>by
    have:(a:Int).tdiv ((Y/4294967296:Nat):Int)=((a/(Y/4294967296):Nat):Int):=YGg rfl rfl
    rw[this];exact Ybg (YFG (YGd _ _) (Nat.lt_trans ha f3))
   have er0:∀a:Nat,a<Y->IntKind.u64.wrap ((a:Int)-IntKind.u64.wrap (((a/(Y/4294967296):Nat):Int)*((Y/4294967296:Nat):Int)))=((a-a/(Y/4294967296)*(Y/4294967296):Nat):Int):=fun a ha=>by
    have hle:a/(Y/4294967296)*(Y/4294967296)<=a:=Nat.div_mul_le_self _ _
    have h6:=Nat.lt_trans ha f3
    rw[YkJ (YFG hle h6),Yzh hle h6]
   --the word behind a digit
   have eR:∀a u q:Nat,u<4294967296->q=(a*4294967296+u)/Y->IntKind.u64.wrap (IntKind.u64.wrap (IntKind.u64.wrap ((a:Int)*4294967296)+(u:Int))-IntKind.u64.wrap ((q:Int)*(Y:Int)))=(((a*4294967296+u)%Y:Nat):Int):=fun a u q hu hq=>by
    have e:=YFH (a*4294967296+u) Y
    have hm:=YFC (a*4294967296+u) hYp
    rw[<-hq,YFc]at e
    have e2:((q*Y:Nat):Int)=(q:Int)*(Y:Int):=YFU _ _
    generalize(a*4294967296+u)%Y=m at*
    simp only[YlG]
    rw[<-e2]
    generalize q*Y=t at*
    omega
   --the condition of a loop
   have cnd:∀(q r u:Nat),r<4294967296->u<4294967296->((decide (4294967296<=(q:Int)) || decide (IntKind.u64.wrap (IntKind.u64.wrap (4294967296*(r:Int))+(u:Int))<IntKind.u64.wrap ((q:Int)*((Y%4294967296:Nat):Int))))=true↔4294967296<=q\/4294967296*r+u<q*(Y%4294967296)):=fun q r u hr hu=>by
    rcases YFu q 4294967296 with hq|hq
    ·have hm:q*(Y%4294967296)<=4294967295*4294967295:=YFt (by omega) (by omega)
     rw[YkJ (by omega),YFN (4294967296*(r:Int)) (by omega),YFN _ (by omega),YF5,decide_eq_true_eq,decide_eq_true_eq]
     generalize q*(Y%4294967296)=t
     omega
    ·simp [hq];omega
   have sY1:∀r:Nat,r<4294967296->IntKind.u64.wrap ((r:Int)+((Y/4294967296:Nat):Int))=((r+Y/4294967296:Nat):Int):=fun r hr=>Yep (by omega)
   have dY:∀q:Nat,0<q->q<=4294967297->IntKind.u64.wrap ((q:Int)-1)=((q-1:Nat):Int):=fun q h1 h2=>by rw[YFN _ (by omega)];omega
   rw[eq0 A hAY,er0 A hAY]
   refine⟨⟨by omega,by omega⟩,by omega,by decide,by omega,by omega,by omega,by decide,by omega,?_⟩
   refine Loop.keep [2,5,0,0,0,1,0] (Nat×Nat) (fun x=>[(15,.int .u64 x.1),(16,.int .u64 x.2)]) (fun _=>[]) [] (fun x=>YeQ (Y/4294967296) (Y%4294967296) A (X/4294967296) x.1 x.2/\x.2<4294967296) (fun x=>x.1) ?_ ?_
   ·refine⟨(A/(Y/4294967296),A-A/(Y/4294967296)*(Y/4294967296)),start A (X/4294967296) hAY u1b,?_⟩
    (try dsimp only[go_sem,reduceIte])
    simp only[Ya]
   ·rintro⟨q,r⟩ ⟨hd,hr⟩
    dsimp only at hd hr
    (try dsimp only[go_sem,reduceIte])
    (try simp only[Yd,YE5,YE3,reduceCtorEq,YE2])
    rw[cnd q r _ hr u1b]
    have hql:=hd.le
    refine⟨fun hc=>?_,fun hc=>?_⟩
    ·obtain⟨hq0,hn⟩:=Yh3 hd y1p (by rw[eY];exact hAY) u1b hc
     rw[dY q hq0 hql,sY1 r hr]
     refine⟨fun hb=>⟨by omega,?_⟩,fun hb=>⟨(q-1,r+Y/4294967296),⟨hn,by simp only;omega⟩,by simp only;omega,?_⟩⟩
     ·have hQ1:=YfY hn y1p y0b (by omega) (by omega)
      rw[eY]at hQ1
      generalize q-1=Q1 at hQ1⊢
      have hR1Y:(A*4294967296+X/4294967296)%Y<Y:=YFC _ hYp
      rw[eR A _ Q1 u1b hQ1]
      generalize hR1:(A*4294967296+X/4294967296)%Y=R1 at hR1Y⊢
      rw[eq0 R1 hR1Y,er0 R1 hR1Y]
      refine Loop.keep [2,5,0,0,3,0,1] (Nat×Nat) (fun x=>[(18,.int .u64 x.1),(16,.int .u64 x.2)]) (fun _=>[]) [] (fun x=>YeQ (Y/4294967296) (Y%4294967296) R1 (X%4294967296) x.1 x.2/\x.2<4294967296) (fun x=>x.1) ?_ ?_
      ·refine⟨(R1/(Y/4294967296),R1-R1/(Y/4294967296)*(Y/4294967296)),start R1 (X%4294967296) hR1Y u0b,?_⟩
       (try dsimp only[go_sem,reduceIte])
       simp only[Ya]
      ·rintro⟨q,r⟩ ⟨hd,hr⟩
       dsimp only at hd hr
       (try dsimp only[go_sem,reduceIte])
       (try simp only[Yd,YE5,YE3,reduceCtorEq,YE2])
       rw[cnd q r _ hr u0b]
       have hql:=hd.le
       refine⟨fun hc=>?_,fun hc=>?_⟩
       ·obtain⟨hq0,hn⟩:=Yh3 hd y1p (by rw[eY];exact hR1Y) u0b hc
        rw[dY q hq0 hql,sY1 r hr]
        refine⟨fun hb=>?_,fun hb=>⟨(q-1,r+Y/4294967296),⟨hn,by simp only;omega⟩,by simp only;omega,?_⟩⟩
        ·have hQ0:=YfY hn y1p y0b (by omega) (by omega)
         rw[eY]at hQ0
         generalize q-1=Q0 at hQ0⊢
         obtain⟨eT1,eT2⟩:=Ydu hYp hQ1 hR1.symm hQ0
         have eX:X/4294967296*4294967296+X%4294967296=X:=Nat.div_add_mod' X 4294967296
         rw[eX,hN,<-hY,Nat.mul_div_mul_right _ _ (YF s)]at eT1
         rw[eX,hN,<-hY,Nat.mul_mod_mul_right]at eT2
         have hNy:(hh*18446744073709551616+x)/y<18446744073709551616:=by
          rw[YFE (by omega)];omega
         rw[YE4,eR R1 _ Q0 u0b hQ0,YbA hs64,<-hY,eT2,Nat.mul_div_cancel _ (YF s),YFN ((Q1:Int)*4294967296) (by omega),YFN _ (by omega)]
         refine⟨by omega,?_⟩
         have h:k (.tup [.int .u64 (((hh:Int)*18446744073709551616+x)/y),.int .u64 (((hh:Int)*18446744073709551616+x)%y)]) []:=h
         have e1:((hh:Int)*18446744073709551616+x)/y=(Q1:Int)*4294967296+Q0:=by
          have:((hh:Int)*18446744073709551616+x)/y=(((hh*18446744073709551616+x)/y:Nat):Int):=by
           rw[Int.natCast_ediv] <;> first|rfl| (congr 1;omega)
          rw[this,<-eT1];omega
         have e2:((hh:Int)*18446744073709551616+x)%y=(((hh*18446744073709551616+x)%y:Nat):Int):=by
          rw[Int.natCast_emod] <;> first|rfl| (congr 1;omega)
         rw[e1,e2]at h
         exact Ycv h
        ·simp only[Ya]
       ·have hc:¬(4294967296<=q\/4294967296*r+X%4294967296<q*(Y%4294967296)):=fun hh=>by
         have:=(cnd q r _ hr u0b).2 hh
         rw[hc]at this;cases this
        have hQ0:=Yh2 hd y1p (by omega)
        rw[eY]at hQ0
        generalize q=Q0 at hQ0⊢
        obtain⟨eT1,eT2⟩:=Ydu hYp hQ1 hR1.symm hQ0
        have eX:X/4294967296*4294967296+X%4294967296=X:=Nat.div_add_mod' X 4294967296
        rw[eX,hN,<-hY,Nat.mul_div_mul_right _ _ (YF s)]at eT1
        rw[eX,hN,<-hY,Nat.mul_mod_mul_right]at eT2
        have hNy:(hh*18446744073709551616+x)/y<18446744073709551616:=by
         rw[YFE (by omega)];omega
        rw[YE4,eR R1 _ Q0 u0b hQ0,YbA hs64,<-hY,eT2,Nat.mul_div_cancel _ (YF s),YFN ((Q1:Int)*4294967296) (by omega),YFN _ (by omega)]
        refine⟨by omega,?_⟩
        have h:k (.tup [.int .u64 (((hh:Int)*18446744073709551616+x)/y),.int .u64 (((hh:Int)*18446744073709551616+x)%y)]) []:=h
        have e1:((hh:Int)*18446744073709551616+x)/y=(Q1:Int)*4294967296+Q0:=by
         have:((hh:Int)*18446744073709551616+x)/y=(((hh*18446744073709551616+x)/y:Nat):Int):=by
          rw[Int.natCast_ediv] <;> first|rfl| (congr 1;omega)
         rw[this,<-eT1];omega
        have e2:((hh:Int)*18446744073709551616+x)%y=(((hh*18446744073709551616+x)%y:Nat):Int):=by
         rw[Int.natCast_emod] <;> first|rfl| (congr 1;omega)
        rw[e1,e2]at h
        exact Ycv h
     ·simp only[Ya]
    ·have hc:¬(4294967296<=q\/4294967296*r+X/4294967296<q*(Y%4294967296)):=fun hh=>by
      have:=(cnd q r _ hr u1b).2 hh
      rw[hc]at this;cases this
     have hQ1:=Yh2 hd y1p (by omega)
     rw[eY]at hQ1
     refine⟨by omega,?_⟩
     generalize q=Q1 at hQ1⊢
     have hR1Y:(A*4294967296+X/4294967296)%Y<Y:=YFC _ hYp
     rw[eR A _ Q1 u1b hQ1]
     generalize hR1:(A*4294967296+X/4294967296)%Y=R1 at hR1Y⊢
     rw[eq0 R1 hR1Y,er0 R1 hR1Y]
     refine Loop.keep [2,5,0,0,3,0,1] (Nat×Nat) (fun x=>[(18,.int .u64 x.1),(16,.int .u64 x.2)]) (fun _=>[]) [] (fun x=>YeQ (Y/4294967296) (Y%4294967296) R1 (X%4294967296) x.1 x.2/\x.2<4294967296) (fun x=>x.1) ?_ ?_
     ·refine⟨(R1/(Y/4294967296),R1-R1/(Y/4294967296)*(Y/4294967296)),start R1 (X%4294967296) hR1Y u0b,?_⟩
      (try dsimp only[go_sem,reduceIte])
      simp only[Ya]
     ·rintro⟨q,r⟩ ⟨hd,hr⟩
      dsimp only at hd hr
      (try dsimp only[go_sem,reduceIte])
      (try simp only[Yd,YE5,YE3,reduceCtorEq,YE2])
      rw[cnd q r _ hr u0b]
      have hql:=hd.le
      refine⟨fun hc=>?_,fun hc=>?_⟩
      ·obtain⟨hq0,hn⟩:=Yh3 hd y1p (by rw[eY];exact hR1Y) u0b hc
       rw[dY q hq0 hql,sY1 r hr]
       refine⟨fun hb=>?_,fun hb=>⟨(q-1,r+Y/4294967296),⟨hn,by simp only;omega⟩,by simp only;omega,?_⟩⟩
       ·have hQ0:=YfY hn y1p y0b (by omega) (by omega)
        rw[eY]at hQ0
        generalize q-1=Q0 at hQ0⊢
        obtain⟨eT1,eT2⟩:=Ydu hYp hQ1 hR1.symm hQ0
        have eX:X/4294967296*4294967296+X%4294967296=X:=Nat.div_add_mod' X 4294967296
        rw[eX,hN,<-hY,Nat.mul_div_mul_right _ _ (YF s)]at eT1
        rw[eX,hN,<-hY,Nat.mul_mod_mul_right]at eT2
        have hNy:(hh*18446744073709551616+x)/y<18446744073709551616:=by
         rw[YFE (by omega)];omega
        rw[YE4,eR R1 _ Q0 u0b hQ0,YbA hs64,<-hY,eT2,Nat.mul_div_cancel _ (YF s),YFN ((Q1:Int)*4294967296) (by omega),YFN _ (by omega)]
        refine⟨by omega,?_⟩
        have h:k (.tup [.int .u64 (((hh:Int)*18446744073709551616+x)/y),.int .u64 (((hh:Int)*18446744073709551616+x)%y)]) []:=h
        have e1:((hh:Int)*18446744073709551616+x)/y=(Q1:Int)*4294967296+Q0:=by
         have:((hh:Int)*18446744073709551616+x)/y=(((hh*18446744073709551616+x)/y:Nat):Int):=by
          rw[Int.natCast_ediv] <;> first|rfl| (congr 1;omega)
         rw[this,<-eT1];omega
        have e2:((hh:Int)*18446744073709551616+x)%y=(((hh*18446744073709551616+x)%y:Nat):Int):=by
         rw[Int.natCast_emod] <;> first|rfl| (congr 1;omega)
        rw[e1,e2]at h
        exact Ycv h
       ·simp only[Ya]
      ·have hc:¬(4294967296<=q\/4294967296*r+X%4294967296<q*(Y%4294967296)):=fun hh=>by
        have:=(cnd q r _ hr u0b).2 hh
        rw[hc]at this;cases this
       have hQ0:=Yh2 hd y1p (by omega)
       rw[eY]at hQ0
       generalize q=Q0 at hQ0⊢
       obtain⟨eT1,eT2⟩:=Ydu hYp hQ1 hR1.symm hQ0
       have eX:X/4294967296*4294967296+X%4294967296=X:=Nat.div_add_mod' X 4294967296
       rw[eX,hN,<-hY,Nat.mul_div_mul_right _ _ (YF s)]at eT1
       rw[eX,hN,<-hY,Nat.mul_mod_mul_right]at eT2
       have hNy:(hh*18446744073709551616+x)/y<18446744073709551616:=by
        rw[YFE (by omega)];omega
       rw[YE4,eR R1 _ Q0 u0b hQ0,YbA hs64,<-hY,eT2,Nat.mul_div_cancel _ (YF s),YFN ((Q1:Int)*4294967296) (by omega),YFN _ (by omega)]
       refine⟨by omega,?_⟩
       have h:k (.tup [.int .u64 (((hh:Int)*18446744073709551616+x)/y),.int .u64 (((hh:Int)*18446744073709551616+x)%y)]) []:=h
       have e1:((hh:Int)*18446744073709551616+x)/y=(Q1:Int)*4294967296+Q0:=by
        have:((hh:Int)*18446744073709551616+x)/y=(((hh*18446744073709551616+x)/y:Nat):Int):=by
         rw[Int.natCast_ediv] <;> first|rfl| (congr 1;omega)
        rw[this,<-eT1];omega
       have e2:((hh:Int)*18446744073709551616+x)%y=(((hh*18446744073709551616+x)%y:Nat):Int):=by
        rw[Int.natCast_emod] <;> first|rfl| (congr 1;omega)
       rw[e1,e2]at h
       exact Ycv h
 ·exact h.1.elim
def v128:VF:=⟨6,[.tmp 2],(ZR [u1 2 .mov [.cn .nil]] (ZR [Zm 3 0,u1 4 (.conv .u64) [.tm 3],Zc 5 151 4,Zm 2 5] .ret))⟩
theorem YzG:Yg YE8 Tryz.f128=some v128:=by kernel_rfl
def v126:VF:=⟨14,[.tmp 4],(ZR [u1 4 .mov [.cn .nil]] (ZR [Zm 8 0,Zm 9 1,Zd 10 149 8 9,Zm 7 10,Ze 11 0 7,Ze 12 1 7,Zm 5 11,Zm 6 12] (ZR [Zm 13 5,Zm 4 13] .ret)))⟩
theorem YzE:Yg YE8 Tryz.f126=some v126:=by kernel_rfl
def v127:VF:=⟨14,[.tmp 4],(ZR [u1 4 .mov [.cn .nil]] (ZR [Zm 8 0,Zm 9 1,Zd 10 150 8 9,Zm 7 10,Ze 11 0 7,Ze 12 1 7,Zm 5 11,Zm 6 12] (ZR [Zm 13 5,Zm 4 13] .ret)))⟩
theorem YzF:Yg YE8 Tryz.f127=some v127:=by kernel_rfl
def v101:VF:=⟨15,[.tmp 4],(ZR [u1 4 .mov [.cn (.bool false)]] (ZR [Zm 8 0,Zm 9 1,Zd 10 129 8 9,Zm 7 10,Ze 11 0 7,Ze 12 1 7,Zm 5 11,Zm 6 12] (ZR [Zm 13 5,Zq 14 .gtr 13 0,Zm 4 14] .ret)))⟩
theorem Yzk:Yg YE8 Tryz.f101=some v101:=by kernel_rfl
def v148:VF:=⟨34,[.tmp 6],(ZR [u1 6 .mov [.cn .nil]] (ZR [Zm 12 0,Zm 13 1,Zd 14 155 12 13,Zm 11 14,Ze 15 0 11,Ze 16 1 11,Zm 7 15,Zm 8 16] (.seq (ZR [Zm 18 7,Zm 19 1,u1 20 .neg [.tm 19],Zd 21 155 18 20,Zm 17 21,Ze 22 0 17,Ze 23 1 17,Zm 9 22,Zm 10 23] (ZR [Zm 24 2,Zm 25 24,Zg 26 25 true 0,Zg 27 25 true 9,u2 28 25 true (.call 101) [.tm 26,.tm 27],u1 29 .and [.tm 25,.tm 28]] (ZC 29 (.region [Zm 30 7,u1 31 (.call 128) [.cn (.int .i64 1)],Zd 32 126 30 31,Zm 7 32]) .skip))) (ZR [Zm 33 7,Zm 6 33] .ret))))⟩
theorem YzV:Yg YE8 Tryz.f148=some v148:=by kernel_rfl
def v125:VF:=⟨97,[.tmp 4,.tmp 5],(ZR [u1 4 .mov [.cn .nil],u1 5 .mov [.cn .nil]] (ZR [Zm 15 0,u1 16 (.conv .u64) [.tm 15],Zc 17 146 16,u1 18 (.ari .sub) [.tm 17,.cn (.int .i64 1)],Zm 6 18] (ZR [Zm 19 6,Zc 20 128 19,Zm 21 1,u1 22 (.call 148) [.tm 20,.tm 21,.cn (.bool false)],Zm 7 22] (.seq (ZR [Zm 23 0,Zm 24 0,u1 25 (.ari .sub) [.tm 24,.cn (.int .i64 1)],u1 26 (.bit .and) [.tm 23,.tm 25],Zq 27 .eql 26 0] (ZC 27 (ZR [Zm 28 7,Zm 29 7,Zm 4 28,Zm 5 29] .ret) .skip)) (ZR [Zm 30 1,u1 31 (.ari .mul) [.cn (.int .i64 2),.tm 30],Zp 32 31 64,Zm 8 32] (ZR [Zm 33 0,Zc 34 128 33,Zm 35 8,Zm 36 6,Zo 37 .sub 35 36,u1 38 (.call 148) [.tm 34,.tm 37,.cn (.bool false)],Zm 9 38] (ZR [Zm 39 9,Zm 10 39] (ZR [u1 40 (.call 128) [.cn (.int .i64 2)],Zm 41 8,u1 42 (.call 148) [.tm 40,.tm 41,.cn (.bool false)],Zm 11 42] (ZR [Zm 43 6,Zc 44 128 43,Zm 12 44,Zi 13 0] (.seq (.block 0 (.loop (.seq (ZR [Zm 45 13,Zm 46 1,Zr 47 .lss 45 46] (ZC 47 .skip (.exit 0))) (.seq (.block 1 (ZR [Zm 50 9,Zm 51 9,Zd 52 127 50 51,Zm 53 8,u1 54 .neg [.tm 53],u1 55 (.call 148) [.tm 52,.tm 54,.cn (.bool false)],Zm 56 10,Zm 57 10,Zd 58 127 56 57,Zm 59 8,u1 60 .neg [.tm 59],u1 61 (.call 148) [.tm 58,.tm 60,.cn (.bool true)],Zm 9 55,Zm 10 61] (ZR [Zi 14 0] (.seq (.block 2 (ZR [Zm 63 11,Zm 64 9,Zd 65 101 63 64,u1 66 .not [.tm 65],Zm 62 66] (ZC 62 (.region [Zm 67 9,u1 68 (.call 148) [.tm 67,.cn (.int .i64 (-1)),.cn (.bool false)],Zm 69 10,u1 70 (.call 148) [.tm 69,.cn (.int .i64 (-1)),.cn (.bool true)],Zm 9 68,Zm 10 70,Zi 14 1]) (ZR [Zm 72 11,Zm 73 10,Zd 74 101 72 73,u1 75 .not [.tm 74],Zm 71 75] (ZC 71 (ZR [Zm 76 12,Zm 77 1,Zm 78 13,Zo 79 .sub 77 78,u1 80 (.call 148) [.tm 76,.tm 79,.cn (.bool false)],Zm 81 12,u1 82 (.call 128) [.cn (.int .i64 1)],Zd 83 126 81 82,Zm 84 1,Zm 85 13,Zo 86 .sub 84 85,u1 87 (.call 148) [.tm 83,.tm 86,.cn (.bool false)],Zm 4 80,Zm 5 87] .ret) .skip))))) (.region [Zm 88 12,u1 89 (.call 148) [.tm 88,.cn (.int .i64 1),.cn (.bool false)],Zm 90 14,Zc 91 128 90,Zd 92 126 89 91,Zm 12 92]))))) (.region [Zm 48 13,Zp 49 48 1,Zm 13 49]))))) (ZR [Zm 93 12,Zm 94 12,u1 95 (.call 128) [.cn (.int .i64 1)],Zd 96 126 94 95,Zm 4 93,Zm 5 96] .ret)))))))))))⟩
theorem YzD:Yg YE8 Tryz.f125=some v125:=by kernel_rfl
theorem Yez(a:Nat):nl (capF a)<=512:=by
 unfold capF
 split
 ·assumption
 ·rw[nl_0];omega
def addW(a b:Nat):Nat:=capF (a+b)
def mulW(a b:Nat):Nat:=capF (a*b)
def movW(a:Nat)(d:Int)(up:Bool):Nat:=
 if(up&&decide (capF (shF (capF (shF a d)) (-d))<a))=true then addW (capF (shF a d)) 1 else capF (shF a d)
theorem YbK(a b:Nat):nl (addW a b)<=512:=Yez _
theorem YeI(a b:Nat):nl (mulW a b)<=512:=Yez _
theorem Ya3(a:Nat)(d:Int)(up:Bool):nl (movW a d up)<=512:=by
 unfold movW
 split <;> exact Yez _
theorem Yr{a:Nat}(h:nl a<=512):okW a (nl a) 1 (fun k=>[.int .u32 (dig a k)]):=⟨Ye (by omega),rfl,h⟩
theorem Ykg{a:Nat}(h:a<18446744073709551616):nl a<=2:=nl_le.2 (by omega)
def numWC:Ctr:={ alias:=false,of:=fun l=>match l with
 | [.int .i64 n]=> .pre (0<=n/\n<=9223372036854775807) (.fin (natS false n.toNat) [])
 |_=>noC}
def addWC:Ctr:={ alias:=false,of:=fun l=>match l with
 | [.vs _ z n sz get,.vs _ z' m sz' get']=> .ex Nat fun a=> .ex Nat fun b=> .pre (okW a n sz get/\okW b m sz' get') (.all Bool fun y=> .fin (natS y (addW a b)) [])
 |_=>noC}
def timesWC:Ctr:={ alias:=false,of:=fun l=>match l with
 | [.vs _ z n sz get,.vs _ z' m sz' get']=> .ex Nat fun a=> .ex Nat fun b=> .pre (okW a n sz get/\okW b m sz' get') (.all Bool fun y=> .fin (natS y (mulW a b)) [])
 |_=>noC}
def aboveC:Ctr:={ alias:=false,of:=fun l=>match l with
 | [.vs _ z n sz get,.vs _ z' m sz' get']=> .ex Nat fun a=> .ex Nat fun b=> .pre (okW a n sz get/\okW b m sz' get') (.fin (.bool (decide (b<a))) [])
 |_=>noC}
def movC:Ctr:={ alias:=false,of:=fun l=>match l with
 | [.vs _ z n sz get,.int .i64 d,.bool up]=> .ex Nat fun a=> .pre (okW a n sz get/\ -20000<=d/\d<=20000) (.all Bool fun y=> .fin (natS y (movW a d up)) [])
 |_=>noC}
def RA0:Env:={ ct:=fun n=>match n with|151=>some ofC|149=>some wAddC|150=>some wMulC|129=>some wCmpC|155=>some wShiftC|_=>none,fn:=fun _=>none,meth:=fun _ _=>none}
theorem Yop:RA0.ct 151=some ofC:=rfl
theorem Yon:RA0.ct 149=some wAddC:=rfl
theorem Yoo:RA0.ct 150=some wMulC:=rfl
theorem Yom:RA0.ct 129=some wCmpC:=rfl
theorem YlY:Yu YE8 RA0:=by
 refine⟨fun f c h=>?_,fun f vf h=>?_,(fun _ _ _ h=>by cases h),by kernel_rfl,(fun _ h=>by cases h)⟩
 ·simp only[RA0]at h
  split at h
  ·cases h;exact⟨YEY,Tryz.f151,Tryz.func151,by kernel_rfl,by kernel_rfl⟩
  ·cases h;exact⟨YAi,Tryz.f149,Tryz.func149,by kernel_rfl,by kernel_rfl⟩
  ·cases h;exact⟨YAk,Tryz.f150,Tryz.func150,by kernel_rfl,by kernel_rfl⟩
  ·cases h;exact⟨YAj,Tryz.f129,Tryz.func129,by kernel_rfl,by kernel_rfl⟩
  ·cases h;exact⟨YkL,Tryz.f155,Tryz.func155,by kernel_rfl,by kernel_rfl⟩
  ·cases h
 ·cases h
theorem Ylo:numWC.ok YE8 128:=by
 refine Yb Tryz.func128 YzG YlY 200 numWC fun args k h=>?_
 simp only[numWC]at h
 split at h
 ·rename_i n
  obtain⟨⟨h0,h1⟩,h⟩:=h
  refine⟨[.int .i64 n],by simp [leL,le],?_⟩
  dsimp only[v128,Yop,ofC,natS,go_sem,reduceIte]
  simp only[Yd,YE5,YE3,reduceCtorEq,YE2]
  rw[YFN _ (by omega)]
  exact⟨⟨h0,by omega⟩,Yai (t:=true) h⟩
 ·exact h.1.elim
theorem Yo9:addWC.ok YE8 126:=by
 refine Yb Tryz.func126 YzE YlY 200 addWC fun args k h=>?_
 simp only[addWC]at h
 split at h
 ·rename_i t1 z1 n sz get t2 z2 m sz' get'
  obtain⟨a,b,⟨⟨⟨rfl,hn,ha,hg⟩,hna,hn5⟩,⟨rfl,hm,hb,hg'⟩,hmb,hm5⟩,h⟩:=h
  refine⟨[.vs t1 z1 n 1 (fun k=>[.int .u32 (dig a k)]),.vs t2 z2 m 1 (fun k=>[.int .u32 (dig b k)])],⟨by simpa [le]using hg,by simpa [le]using hg',trivial⟩,?_⟩
  dsimp only[v126,Yon,wAddC,natS,go_sem,reduceIte]
  simp only[Yd,YE5,YE3,reduceCtorEq,YE2]
  subst hna hmb
  exact⟨a,b,⟨Yr hn5,Yr hm5⟩,fun y=>⟨by decide,by decide,Yai (t:=true) (h y)⟩⟩
 ·exact h.1.elim
theorem Yvh:timesWC.ok YE8 127:=by
 refine Yb Tryz.func127 YzF YlY 200 timesWC fun args k h=>?_
 simp only[timesWC]at h
 split at h
 ·rename_i t1 z1 n sz get t2 z2 m sz' get'
  obtain⟨a,b,⟨⟨⟨rfl,hn,ha,hg⟩,hna,hn5⟩,⟨rfl,hm,hb,hg'⟩,hmb,hm5⟩,h⟩:=h
  refine⟨[.vs t1 z1 n 1 (fun k=>[.int .u32 (dig a k)]),.vs t2 z2 m 1 (fun k=>[.int .u32 (dig b k)])],⟨by simpa [le]using hg,by simpa [le]using hg',trivial⟩,?_⟩
  dsimp only[v127,Yoo,wMulC,natS,go_sem,reduceIte]
  simp only[Yd,YE5,YE3,reduceCtorEq,YE2]
  subst hna hmb
  exact⟨a,b,⟨Yr hn5,Yr hm5⟩,fun y=>⟨by decide,by decide,Yai (t:=true) (h y)⟩⟩
 ·exact h.1.elim
theorem YkV:aboveC.ok YE8 101:=by
 refine Yb Tryz.func101 Yzk YlY 200 aboveC fun args k h=>?_
 simp only[aboveC]at h
 split at h
 ·rename_i t1 z1 n sz get t2 z2 m sz' get'
  obtain⟨a,b,⟨⟨⟨rfl,hn,ha,hg⟩,hna,hn5⟩,⟨rfl,hm,hb,hg'⟩,hmb,hm5⟩,h⟩:=h
  refine⟨[.vs t1 z1 n 1 (fun k=>[.int .u32 (dig a k)]),.vs t2 z2 m 1 (fun k=>[.int .u32 (dig b k)])],⟨by simpa [le]using hg,by simpa [le]using hg',trivial⟩,?_⟩
  dsimp only[v101,Yom,wCmpC,natS,go_sem,reduceIte]
  simp only[Yd,YE5,YE3,reduceCtorEq,YE2]
  subst hna hmb
  have e:decide (0<ordN a b)=decide (b<a):=by
   unfold ordN
   by_cases h1:a<b
   ·rw[if_pos h1,decide_eq_false (by omega:¬b<a)];rfl
   ·rw[if_neg h1]
    by_cases h2:b<a
    ·rw[if_pos h2,decide_eq_true h2];rfl
    ·rw[if_neg h2,decide_eq_false h2];rfl
  refine⟨a,b,⟨Yr hn5,Yr hm5⟩,by decide,by decide,?_⟩
  rw[e]
  exact YO h
 ·exact h.1.elim
def RA1:Env:={ ct:=fun n=>match n with|155=>some wShiftC|101=>some aboveC|126=>some addWC|128=>some numWC|_=>none,fn:=fun _=>none,meth:=fun _ _=>none}
theorem Yot:RA1.ct 155=some wShiftC:=rfl
theorem Yoq:RA1.ct 101=some aboveC:=rfl
theorem Yor:RA1.ct 126=some addWC:=rfl
theorem Yos:RA1.ct 128=some numWC:=rfl
theorem YAx:Yu YE8 RA1:=by
 refine⟨fun f c h=>?_,fun f vf h=>?_,(fun _ _ _ h=>by cases h),by kernel_rfl,(fun _ h=>by cases h)⟩
 ·simp only[RA1]at h
  split at h
  ·cases h;exact⟨YkL,Tryz.f155,Tryz.func155,by kernel_rfl,by kernel_rfl⟩
  ·cases h;exact⟨YkV,Tryz.f101,Tryz.func101,by kernel_rfl,by kernel_rfl⟩
  ·cases h;exact⟨Yo9,Tryz.f126,Tryz.func126,by kernel_rfl,by kernel_rfl⟩
  ·cases h;exact⟨Ylo,Tryz.f128,Tryz.func128,by kernel_rfl,by kernel_rfl⟩
  ·cases h
 ·cases h
theorem mov_c:movC.ok YE8 148:=by
 refine Yb Tryz.func148 YzV YAx 300 movC fun args k h=>?_
 simp only[movC]at h
 split at h
 ·rename_i t1 z1 n sz get d up
  obtain⟨a,⟨⟨⟨rfl,hn,ha,hg⟩,hna,hn5⟩,hd0,hd1⟩,h⟩:=h
  refine⟨[.vs t1 z1 n 1 (fun k=>[.int .u32 (dig a k)]),.int .i64 d,.bool up],⟨by simpa [le]using hg,⟨rfl,rfl⟩,rfl,trivial⟩,?_⟩
  dsimp only[v148,Yot,Yoq,Yor,Yos,wShiftC,aboveC,addWC,numWC,natS,go_sem,reduceIte]
  simp only[Yd,YE5,YE3,reduceCtorEq,YE2]
  subst hna
  have hneg:IntKind.i64.wrap (0-d)= -d:=by rw[YE7 _ (by omega)];omega
  rw[hneg]
  have h1:nl 1<=512:=by have:= @Ykg 1 (by decide);omega
  refine⟨a,⟨Yr hn5,hd0,hd1⟩,fun y=>⟨by decide,by decide,capF (shF a d),⟨Yr (Yez _),by omega,by omega⟩,by decide,by decide,a,capF (shF (capF (shF a d)) (-d)),fun _=>⟨Yr hn5,Yr (Yez _)⟩,fun hc=>⟨by decide,capF (shF a d),1,⟨Yr (Yez _),Yr h1⟩,fun z=>?_⟩,fun hc=>?_⟩⟩
  ·have h:k (natS z (movW a d up)) []:=h z
   rw[movW,if_pos hc]at h
   exact Yai (t:=true) h
  ·have h:k (natS y (movW a d up)) []:=h y
   rw[movW,if_neg (by rw[hc];decide)]at h
   exact Yai (t:=true) h
 ·exact h.1.elim
def YbC(n:Int):Bool:=decide (bitI .and .i64 n (IntKind.i64.wrap (n-1))=0)
def logL(two:Nat)(deep:Int):Nat->Nat->Nat->Nat->Nat×Nat
 |0,_,_,sum=>(sum,addW sum 1)
 |f+1,a,b,sum=>
  let a1:=movW (mulW a a) (-deep) false
  let b1:=movW (mulW b b) (-deep) true
  if a1<two then
   if b1<two then logL two deep f a1 b1 (addW (movW sum 1 false) 0)
   else(movW sum ((f+1:Nat):Int) false,movW (addW sum 1) ((f+1:Nat):Int) false)
  else logL two deep f (movW a1 (-1) false) (movW b1 (-1) true) (addW (movW sum 1 false) 1)
def logF(n:Int)(p:Nat):Nat×Nat:=
 let k:=Yn n.toNat-1
 if YbC n=true then(movW k p false,movW k p false)
 else
  let deep:Int:=((2*p+64:Nat):Int)
  let a:=movW n.toNat (deep-k) false
  logL (movW 2 deep false) deep p a a k
theorem Ylh{two:Nat}{deep:Int}:∀(f a b sum:Nat),nl sum<=512->nl (logL two deep f a b sum).1<=512/\nl (logL two deep f a b sum).2<=512
 |0,_,_,sum,h=>⟨h,YbK _ _⟩
 |f+1,a,b,sum,h=>by
  rw[logL]
  split
  ·split
   ·exact Ylh f _ _ _ (YbK _ _)
   ·exact⟨Ya3 sum _ false,Ya3 (addW sum 1) _ false⟩
  ·exact Ylh f _ _ _ (YbK _ _)
theorem Yx1(n:Int)(p:Nat)(hn:n<=9223372036854775807):nl (logF n p).1<=512/\nl (logF n p).2<=512:=by
 rw[logF]
 by_cases hb:YbC n=true
 ·rw[if_pos hb];exact⟨Ya3 (Yn n.toNat-1) p false,Ya3 (Yn n.toNat-1) p false⟩
 ·rw[if_neg hb]
  refine Ylh _ _ _ _ ?_
  have h1:Yn n.toNat<=64:=bitsN_le.2 (by have:(2:Nat)^64=18446744073709551616:=rfl;omega)
  have:= @Ykg (Yn n.toNat-1) (by omega)
  omega
structure LSt where
 i:Nat
 a:Nat
 b:Nat
 s:Nat
 za:Bool
 zb:Bool
 zs:Bool
theorem Ypb{k:SV->List HO->Prop}{al:Bool}{hp:List HO}{y z:Bool}{a b:Nat}(h:k (.tup [natS y a,natS z b]) []):YK al k (.tup [natS y a,natS z b]) hp:=
 YE (show k _ []from h) (YB _ ⟨trivial,trivial,trivial⟩) (fun _=>by simp [natS,Yt,Ys])
def logC:Ctr:={ alias:=false,of:=fun l=>match l with
 | [.int .i64 n,.int .i64 p]=> .ex Nat fun q=> .pre (1<=n/\n<=9223372036854775807/\p=q/\q<=2048) (.all Bool fun y=> .all Bool fun z=> .fin (.tup [natS y (logF n q).1,natS z (logF n q).2]) [])
 |_=>noC}
def RA2:Env:={ ct:=fun n=>match n with|146=>some len64C|101=>some aboveC|126=>some addWC|127=>some timesWC|128=>some numWC|148=>some movC|_=>none,fn:=fun _=>none,meth:=fun _ _=>none}
theorem Yi8:RA2.ct 146=some len64C:=rfl
theorem Yi4:RA2.ct 101=some aboveC:=rfl
theorem Yi5:RA2.ct 126=some addWC:=rfl
theorem Yi6:RA2.ct 127=some timesWC:=rfl
theorem Yi7:RA2.ct 128=some numWC:=rfl
theorem Yi9:RA2.ct 148=some movC:=rfl
theorem YAy:Yu YE8 RA2:=by
 refine⟨fun f c h=>?_,fun f vf h=>?_,(fun _ _ _ h=>by cases h),by kernel_rfl,(fun _ h=>by cases h)⟩
 ·simp only[RA2]at h
  split at h
  ·cases h;exact⟨Yiv,Tryz.f146,Tryz.func146,by kernel_rfl,by kernel_rfl⟩
  ·cases h;exact⟨YkV,Tryz.f101,Tryz.func101,by kernel_rfl,by kernel_rfl⟩
  ·cases h;exact⟨Yo9,Tryz.f126,Tryz.func126,by kernel_rfl,by kernel_rfl⟩
  ·cases h;exact⟨Yvh,Tryz.f127,Tryz.func127,by kernel_rfl,by kernel_rfl⟩
  ·cases h;exact⟨Ylo,Tryz.f128,Tryz.func128,by kernel_rfl,by kernel_rfl⟩
  ·cases h;exact⟨mov_c,Tryz.f148,Tryz.func148,by kernel_rfl,by kernel_rfl⟩
  ·cases h
 ·cases h
theorem log_c:logC.ok YE8 125:=by
 refine Yb Tryz.func125 YzD YAy 600 logC fun args k h=>?_
 simp only[logC]at h
 split at h
 ·rename_i n p'
  obtain⟨p,⟨hn0,hn1,rfl,hp⟩,h⟩:=h
  refine⟨[.int .i64 n,.int .i64 p],by simp [leL,le],?_⟩
  dsimp only[v125,Yi8,Yi4,Yi5,Yi7,Yi9,Yi6,len64C,aboveC,addWC,numWC,timesWC,movC,natS,go_sem,reduceIte]
  simp only[Yd,YE5,YE3,reduceCtorEq,YE2]
  have hb1:Yn n.toNat<=64:=bitsN_le.2 (by have:(2:Nat)^64=18446744073709551616:=rfl;omega)
  have hb0:Yn n.toNat≠0:=fun e=>by have:=bitsN_eq0.1 e;omega
  obtain⟨K,hK⟩:∃K,K=Yn n.toNat-1:=⟨_,rfl⟩
  have eu:IntKind.u64.wrap n=n:=YFN _ (by omega)
  have ek:IntKind.i64.wrap ((Yn n.toNat:Int)-1)=(K:Int):=by rw[hK,YE7 _ (by omega)];omega
  have ed:IntKind.i64.wrap (IntKind.i64.wrap (2*(p:Int))+64)=((2*p+64:Nat):Int):=by rw[YE7 (2*(p:Int)) (by omega),YE7 _ (by omega)];omega
  obtain⟨D,hD⟩:∃D:Int,D=((2*p+64:Nat):Int):=⟨_,rfl⟩
  have edk:IntKind.i64.wrap (D-(K:Int))=D-(K:Int):=YE7 _ (by omega)
  rw[eu,ek,ed,<-hD,edk,YE4]
  have hKw:nl K<=512:=by have:= @Ykg K (by omega);omega
  have hnw:nl n.toNat<=512:=by have:= @Ykg n.toNat (by omega);omega
  have h2w:nl 2<=512:=by have:= @Ykg 2 (by decide);omega
  refine⟨by omega,by omega,K,⟨Yr hKw,by omega,by omega⟩,fun y=>⟨fun hc=>?_,fun hc=>⟨by omega,n.toNat,⟨Yr hnw,by omega,by omega⟩,fun z=>⟨by decide,2,⟨Yr h2w,by omega,by omega⟩,fun z2=>⟨by omega,?_⟩⟩⟩⟩⟩
  ·have h:k (.tup [natS y (logF n p).1,natS y (logF n p).2]) []:=h y y
   have e:logF n p=(movW K p false,movW K p false):=by rw[logF,if_pos (show YbC n=true from decide_eq_true hc),hK]
   rw[e]at h
   exact Ypb h
  ·have e:logF n p=logL (movW 2 D false) D p (movW n.toNat (D-K) false) (movW n.toNat (D-K) false) K:=by rw[logF,if_neg (show¬YbC n=true from fun hh=>hc (of_decide_eq_true hh)),hK,hD]
   rw[e]at h
   generalize hA:movW n.toNat (D-(K:Int)) false=A at h⊢
   have hA5:nl A<=512:=by rw[<-hA];exact Ya3 _ _ _
   generalize hT:movW 2 D false=T at h⊢
   have hT5:nl T<=512:=by rw[<-hT];exact Ya3 _ _ _
   refine Loop.keep [1,6,2] LSt (fun x=>[(9,natS x.za x.a),(10,natS x.zb x.b),(12,natS x.zs x.s),(13,.int .i64 x.i)]) (fun _=>[]) [] (fun x=>x.i<=p/\logL T D p A A K=logL T D (p-x.i) x.a x.b x.s/\nl x.a<=512/\nl x.b<=512/\nl x.s<=512) (fun x=>p-x.i) ?_ ?_
   ·refine⟨⟨0,A,A,K,z,z,false⟩,⟨by simp only;omega,rfl,hA5,hA5,hKw⟩,?_⟩
    dsimp only[natS,go_sem,reduceIte]
    simp only[Ya]
    try simp
   ·rintro⟨i,a,b,S,za,zb,zs⟩ ⟨hi,he,ha5,hb5,hs5⟩
    dsimp only at hi he ha5 hb5 hs5
    dsimp only[Yi8,Yi4,Yi5,Yi7,Yi9,Yi6,len64C,aboveC,addWC,numWC,timesWC,movC,natS,go_sem,reduceIte]
    simp only[Yd,YE5,YE3,reduceCtorEq,YE2]
    have eD:IntKind.i64.wrap (0-D)= -D:=by rw[YE7 _ (by omega)];omega
    have ei:IntKind.i64.wrap ((p:Int)-(i:Int))=((p-i:Nat):Int):=by rw[YE7 _ (by omega)];omega
    have h1w:nl 1<=512:=by have:= @Ykg 1 (by decide);omega
    have h0w:nl 0<=512:=by rw[nl_0];omega
    rw[eD,ei]
    refine⟨fun hlt=>?_,fun hge=>⟨by decide,S,1,⟨Yr hs5,Yr h1w⟩,fun y=>?_⟩⟩
    ·obtain⟨q,hq⟩:∃q,p-i=q+1:=⟨p-i-1,by omega⟩
     rw[hq,logL]at he
     obtain⟨a1,ha1⟩:∃a1,a1=movW (mulW a a) (-D) false:=⟨_,rfl⟩
     obtain⟨b1,hb1⟩:∃b1,b1=movW (mulW b b) (-D) true:=⟨_,rfl⟩
     have ha15:nl a1<=512:=by rw[ha1];exact Ya3 _ _ _
     have hb15:nl b1<=512:=by rw[hb1];exact Ya3 _ _ _
     rw[<-ha1,<-hb1]at he
     refine⟨a,a,⟨Yr ha5,Yr ha5⟩,fun _=>⟨mulW a a,⟨Yr (YeI _ _),by omega,by omega⟩,fun y1=>⟨b,b,⟨Yr hb5,Yr hb5⟩,fun _=>⟨mulW b b,⟨Yr (YeI _ _),by omega,by omega⟩,fun y2=>?_⟩⟩⟩⟩
     rw[<-ha1,<-hb1]
     refine⟨T,a1,⟨Yr hT5,Yr ha15⟩,fun hc=>?_,fun hc=>⟨T,b1,⟨Yr hT5,Yr hb15⟩,fun hd=>?_,fun hd=>?_⟩⟩
     ·rw[if_neg hc]at he
      refine⟨a1,⟨Yr ha15,by decide,by decide⟩,fun y3=>⟨b1,⟨Yr hb15,by decide,by decide⟩,fun y4=>⟨S,⟨Yr hs5,by decide,by decide⟩,fun _=>⟨by decide,movW S 1 false,1,⟨Yr (Ya3 _ _ _),Yr h1w⟩,fun y5=>?_⟩⟩⟩⟩
      refine⟨⟨i+1,movW a1 (-1) false,movW b1 (-1) true,addW (movW S 1 false) 1,y3,y4,y5⟩,⟨by simp only;omega,?_,Ya3 a1 (-1) false,Ya3 b1 (-1) true,YbK (movW S 1 false) 1⟩,by simp only;omega,?_⟩
      ·rw[show p-(i+1)=q by omega];exact he
      ·rw[YE7 ((i:Int)+1) (by omega)]
       simp only[Ya]
       simp
     ·rw[if_pos hc,if_neg hd]at he
      refine⟨S,⟨Yr hs5,by omega,by omega⟩,fun y3=>⟨by decide,S,1,⟨Yr hs5,Yr h1w⟩,addW S 1,⟨Yr (YbK _ _),by omega,by omega⟩,fun y4=>?_⟩⟩
      have h:k (.tup [natS y3 (logL T D p A A K).1,natS y4 (logL T D p A A K).2]) []:=h y3 y4
      rw[he]at h
      rw[hq]
      exact Ypb h
     ·rw[if_pos hc,if_pos hd]at he
      refine⟨S,⟨Yr hs5,by decide,by decide⟩,fun _=>⟨by decide,movW S 1 false,0,⟨Yr (Ya3 _ _ _),Yr h0w⟩,fun y5=>?_⟩⟩
      refine⟨⟨i+1,a1,b1,addW (movW S 1 false) 0,y1,y2,y5⟩,⟨by simp only;omega,?_,ha15,hb15,YbK (movW S 1 false) 0⟩,by simp only;omega,?_⟩
      ·rw[show p-(i+1)=q by omega];exact he
      ·rw[YE7 ((i:Int)+1) (by omega)]
       simp only[Ya]
       simp
    ·have h:k (.tup [natS zs (logL T D p A A K).1,natS y (logL T D p A A K).2]) []:=h zs y
     rw[he,show p-i=0 by omega,logL]at h
     exact Ypb h
 ·exact h.1.elim
def v130:VF:=⟨12,[.tmp 4],(ZR [Zi 4 0] (.seq (.block 0 (.loop (.seq (ZR [Zm 5 1,Zq 6 .neq 5 0] (ZC 6 .skip (.exit 0))) (.block 1 (.draw [] [Zu 7 1,Zu 8 0,Zu 9 1,w1 10 .rem [.tm 8,.tm 9],Zu 0 7,Zu 1 10]))))) (ZR [Zm 11 0,Zm 4 11] .ret)))⟩
theorem YzI:Yg YE8 Tryz.f130=some v130:=by kernel_rfl
def v100:VF:=⟨58,[.cell 4 true 2,.cell 5 true 2],(ZR [u1 4 (.alloc [.nil,.nil]) [],u1 5 (.alloc [.nil,.nil]) []] (.seq (ZR [Zm 12 0,Zl 13 12,Zi 14 0] (.block 0 (.loop (ZR [Zr 15 .lss 14 13] (.seq (ZC 15 .skip (.exit 0)) (.seq (.block 1 (ZR [Zx 16 2 12 14,Zt 17 2 16,Zn 7,Zs 2 7 17] (ZR [Za 19 0 7,Zf 20 1 19,Zm 21 1,Zd 22 125 20 21,Zm 18 22,Ze 23 0 18,Ze 24 1 18,Zm 8 23,Zm 9 24] (.seq (.draw [] [Zy 25 1 7,Zv 26 1 25,Zu 10 4,Zu 11 26]) (.seq (ZR [Zm 27 11,Zq 28 .lss 27 0] (ZC 28 (.region [Zm 29 11,u1 30 .neg [.tm 29],Zm 10 5,Zm 11 30]) .skip)) (.draw [] [Zu 31 10,Zu 32 10,Zu 33 10,w1 34 .nilCheck [.tm 33],Zy 35 0 34,Zv 36 1 35,Zu 37 8,Zu 38 11,Zu 42 10,w1 43 .nilCheck [.tm 42],Zy 44 1 43,Zv 45 1 44,Zu 46 9,Zu 47 11,w1 39 (.call 128) [.tm 38],Zz 40 127 37 39,Zz 41 126 36 40,w1 48 (.call 128) [.tm 47],Zz 49 127 46 48,Zz 50 126 45 49,w1 51 .nilCheck [.tm 31],Zy 52 0 51,ZS 1 52 41,w1 53 .nilCheck [.tm 32],Zy 54 1 53,ZS 1 54 50])))))) (.region [Zp 55 14 1,Zm 14 55]))))))) (ZR [Zt 56 2 4,Zt 57 2 5,Zs 2 4 56,Zs 2 5 57] .ret)))⟩
theorem Yzj:Yg YE8 Tryz.f100=some v100:=by kernel_rfl
def gcdC:Ctr:={ alias:=false,of:=fun l=>match l with
 | [.int .i64 a,.int .i64 b]=> .ex Nat fun x=> .ex Nat fun y=> .pre (a=x/\b=y/\x<=9223372036854775807/\y<=9223372036854775807) (.fin (.int .i64 (YF1 x y)) [])
 |_=>noC}
def RA3:Env:={ ct:=fun _=>none,fn:=fun _=>none,meth:=fun _ _=>none}
theorem YAz:Yu YE8 RA3:=by
 refine⟨fun f c h=>?_,fun f vf h=>?_,(fun _ _ _ h=>by cases h),by kernel_rfl,(fun _ h=>by cases h)⟩
 ·cases h
 ·cases h
theorem Yxx:gcdC.ok YE8 130:=by
 refine Yb Tryz.func130 YzI YAz 100 gcdC fun args k h=>?_
 simp only[gcdC]at h
 split at h
 ·rename_i a b
  obtain⟨x,y,⟨rfl,rfl,hx,hy⟩,h⟩:=h
  refine⟨[.int .i64 x,.int .i64 y],by simp [leL,le],?_⟩
  dsimp only[v130,go_sem,reduceIte]
  simp only[Yd,YE5,YE3,reduceCtorEq,YE2]
  refine Loop.keep [] (Nat×Nat) (fun s=>[(0,.int .i64 s.1),(1,.int .i64 s.2)]) (fun _=>[]) [] (fun s=>YF1 s.1 s.2=YF1 x y/\s.1<=9223372036854775807/\s.2<=9223372036854775807) (fun s=>s.2) ?_ ?_
  ·refine⟨(x,y),⟨rfl,hx,hy⟩,?_⟩
   dsimp only[go_sem,reduceIte]
   simp only[Ya]
  ·rintro⟨p,q⟩ ⟨he,hp,hq⟩
   dsimp only at he hp hq
   dsimp only[go_sem,reduceIte]
   simp only[Yd,YE5,YE3,reduceCtorEq,YE2]
   refine⟨fun hc=>⟨hc,(q,p%q),⟨?_,by simp only;omega,?_⟩,?_,?_⟩,fun hc=>Yh ?_⟩
   ·rw[<-he,Nat.gcd_comm p q]
    show YF1 q (p%q)=YF1 q p
    rw[Nat.gcd_comm q (p%q),<-Nat.gcd_rec]
   ·have:=YFC p (by omega:0<q)
    simp only;omega
   ·exact YFC p (by omega:0<q)
   ·have e:(p:Int).tmod q=((p%q:Nat):Int):=YGr rfl rfl
    rw[e]
    simp only[Ya]
   ·obtain rfl:q=0:=by omega
    rw[Nat.gcd_zero_right]at he
    rw[he];exact h
 ·exact h.1.elim
structure Bnd where
 ul:Nat
 uh:Nat
 dl:Nat
 dh:Nat
def Yc5(p:Nat)(s:Bnd)(x:Int×Int):Bnd:=
 if x.2<0 then { s with dl:=addW s.dl (mulW (logF x.1 p).1 (-x.2).toNat),dh:=addW s.dh (mulW (logF x.1 p).2 (-x.2).toNat)}
 else { s with ul:=addW s.ul (mulW (logF x.1 p).1 x.2.toNat),uh:=addW s.uh (mulW (logF x.1 p).2 x.2.toNat)}
def Yb5(l:List (Int×Int))(p:Nat):Bnd:=l.foldl (Yc5 p) ⟨0,0,0,0⟩
def okT(x:Int×Int):Prop:=1<=x.1/\x.1<=1000000000001/\ -1000000000<=x.2/\x.2<=1000000000
def Bnd.ok(s:Bnd):Prop:=nl s.ul<=512/\nl s.uh<=512/\nl s.dl<=512/\nl s.dh<=512
theorem YiZ(p:Nat)(s:Bnd)(x:Int×Int)(h:s.ok):(Yc5 p s x).ok:=by
 obtain⟨h1,h2,h3,h4⟩:=h
 unfold Yc5
 split
 ·exact⟨h1,h2,YbK _ _,YbK _ _⟩
 ·exact⟨YbK _ _,YbK _ _,h3,h4⟩
def sumsC:Ctr:={ alias:=false,of:=fun l=>match l with
 | [.vs _ _ n sz get,.int .i64 p]=> .ex (List (Int×Int)) fun l=> .ex Nat fun q=> .pre (lsP 2 enc2 n sz get l/\(∀x,x∈l->okT x)/\n<=100/\p=q/\q<=2048)
     (.all Bool fun y1=> .all Bool fun y2=> .all Bool fun y3=> .all Bool fun y4=> .fin (.tup [.agg [natS y1 (Yb5 l q).ul,natS y2 (Yb5 l q).uh],.agg [natS y3 (Yb5 l q).dl,natS y4 (Yb5 l q).dh]]) [])
 |_=>noC}
def RA4:Env:={ ct:=fun n=>match n with|126=>some addWC|127=>some timesWC|128=>some numWC|125=>some logC|_=>none,fn:=fun _=>none,meth:=fun _ _=>none}
theorem Yov:RA4.ct 126=some addWC:=rfl
theorem Yow:RA4.ct 127=some timesWC:=rfl
theorem Yox:RA4.ct 128=some numWC:=rfl
theorem You:RA4.ct 125=some logC:=rfl
theorem YAA:Yu YE8 RA4:=by
 refine⟨fun f c h=>?_,fun f vf h=>?_,(fun _ _ _ h=>by cases h),by kernel_rfl,(fun _ h=>by cases h)⟩
 ·simp only[RA4]at h
  split at h
  ·cases h;exact⟨Yo9,Tryz.f126,Tryz.func126,by kernel_rfl,by kernel_rfl⟩
  ·cases h;exact⟨Yvh,Tryz.f127,Tryz.func127,by kernel_rfl,by kernel_rfl⟩
  ·cases h;exact⟨Ylo,Tryz.f128,Tryz.func128,by kernel_rfl,by kernel_rfl⟩
  ·cases h;exact⟨log_c,Tryz.f125,Tryz.func125,by kernel_rfl,by kernel_rfl⟩
  ·cases h
 ·cases h
structure SSt where
 i:Nat
 b:Bnd
 y1:Bool
 y2:Bool
 y3:Bool
 y4:Bool
theorem YDQ:sumsC.ok YE8 100:=by
 refine Yb Tryz.func100 Yzj YAA 500 sumsC fun args k h=>?_
 simp only[sumsC]at h
 split at h
 ·rename_i tt z n sz get p'
  obtain⟨l,p,⟨⟨rfl,rfl,hg⟩,hl,hn,rfl,hp⟩,h⟩:=h
  refine⟨[.vs tt z l.length 2 (fun k=>enc2 (l.getD k default)),.int .i64 p],⟨⟨id,rfl,rfl,rfl,hg⟩,⟨rfl,rfl⟩,trivial⟩,?_⟩
  dsimp only[v100,enc2,go_sem,reduceIte]
  simp only[Yd,YE5,YE3,reduceCtorEq,YE2]
  refine Loop.keep [0,0,2,0,6,0] SSt (fun s=>[(14,.int .i64 s.i)]) (fun s=>[(0,.box [natS s.y1 s.b.ul,natS s.y2 s.b.uh]),(1,.box [natS s.y3 s.b.dl,natS s.y4 s.b.dh])]) [] (fun s=>s.i<=l.length/\s.b=(l.take s.i).foldl (Yc5 p) ⟨0,0,0,0⟩/\s.b.ok) (fun s=>l.length-s.i) ?_ ?_
  ·refine⟨⟨0,⟨0,0,0,0⟩,true,true,true,true⟩,⟨by simp only;omega,rfl,by simp [Bnd.ok,nl_0]⟩,?_⟩
   dsimp only[natS,go_sem,reduceIte]
   simp only[Ya]
   simp [nl_0]
  ·rintro⟨i,B,y1,y2,y3,y4⟩ ⟨hi,hB,hok⟩
   dsimp only at hi hB hok
   dsimp only[You,Yov,Yox,Yow,logC,addWC,numWC,timesWC,natS,enc2,YE4,go_sem,reduceIte]
   simp only[Yd,YE5,YE3,reduceCtorEq,YE2]
   refine⟨fun hlt=>?_,fun hge=>?_⟩
   ·have hx:=hl _ (Yl (by omega:i<l.length))
    generalize hxe:l.getD i default=x at hx⊢
    obtain⟨q0,q1,q2,q3⟩:=hx
    have hstep:(l.take (i+1)).foldl (Yc5 p) ⟨0,0,0,0⟩=Yc5 p B x:=by
     rw[Yp (by omega),<-hB,hxe]
    obtain⟨g1,g2⟩:=Yx1 x.1 p (by omega)
    obtain⟨o1,o2,o3,o4⟩:=hok
    refine⟨⟨by omega,by omega⟩,p,⟨q0,by omega,rfl,hp⟩,fun z1 z2=>⟨by decide,by decide,fun hc=>?_,fun hc=>?_⟩⟩
    ·have en:IntKind.i64.wrap (0-x.2)= -x.2:=by rw[YE7 _ (by omega)];omega
     rw[en]
     have hnw:nl (-x.2).toNat<=512:=by have:= @Ykg (-x.2).toNat (by omega);omega
     refine⟨⟨by omega,by omega⟩,(logF x.1 p).1,(-x.2).toNat,⟨Yr g1,Yr hnw⟩,fun _=>⟨B.dl,mulW (logF x.1 p).1 (-x.2).toNat,⟨Yr o3,Yr (YeI _ _)⟩,fun z3=>⟨⟨by omega,by omega⟩,(logF x.1 p).2,(-x.2).toNat,⟨Yr g2,Yr hnw⟩,fun _=>⟨B.dh,mulW (logF x.1 p).2 (-x.2).toNat,⟨Yr o4,Yr (YeI _ _)⟩,fun z4=>?_⟩⟩⟩⟩
     refine⟨⟨i+1,Yc5 p B x,y1,y2,z3,z4⟩,⟨by simp only;omega,hstep.symm,YiZ p B x ⟨o1,o2,o3,o4⟩⟩,by simp only;omega,?_⟩
     simp only[Yc5,if_pos hc]
     rw[YE7 ((i:Int)+1) (by omega)]
     simp only[Ya]
     exact⟨by decide,by decide,by simp⟩
    ·have hnw:nl x.2.toNat<=512:=by have:= @Ykg x.2.toNat (by omega);omega
     refine⟨⟨by omega,by omega⟩,(logF x.1 p).1,x.2.toNat,⟨Yr g1,Yr hnw⟩,fun _=>⟨B.ul,mulW (logF x.1 p).1 x.2.toNat,⟨Yr o1,Yr (YeI _ _)⟩,fun z3=>⟨⟨by omega,by omega⟩,(logF x.1 p).2,x.2.toNat,⟨Yr g2,Yr hnw⟩,fun _=>⟨B.uh,mulW (logF x.1 p).2 x.2.toNat,⟨Yr o2,Yr (YeI _ _)⟩,fun z4=>?_⟩⟩⟩⟩
     refine⟨⟨i+1,Yc5 p B x,z3,z4,y3,y4⟩,⟨by simp only;omega,hstep.symm,YiZ p B x ⟨o1,o2,o3,o4⟩⟩,by simp only;omega,?_⟩
     simp only[Yc5,if_neg hc]
     rw[YE7 ((i:Int)+1) (by omega)]
     simp only[Ya]
     exact⟨by decide,by decide,by simp⟩
   ·obtain rfl:i=l.length:=by omega
    rw[YF4]at hB
    have h:k (.tup [.agg [natS y1 (Yb5 l p).ul,natS y2 (Yb5 l p).uh],.agg [natS y3 (Yb5 l p).dl,natS y4 (Yb5 l p).dh]]) []:=h y1 y2 y3 y4
    rw[Yb5,<-hB]at h
    exact YE h (YB _ ⟨⟨trivial,trivial,trivial⟩,⟨trivial,trivial,trivial⟩,trivial⟩) (fun _=>by simp [natS,Yt,Ys])
 ·exact h.1.elim
def v123:VF:=⟨31,[.cell 6 true 2],(ZR [u1 3 .box [.tm 0],u1 6 (.alloc [(.int .u64 0),(.int .u64 0)]) []] (ZR [Zm 11 1,Zm 12 2,Zd 13 80 11 12,Zm 10 13,Ze 14 0 10,Ze 15 1 10,Zm 7 14,Zm 8 15] (ZR [Za 17 1 3,Zf 18 1 17,Zm 19 8,u1 20 .addc [.tm 18,.tm 19,.cn (.int .u64 0)],Zm 16 20,Ze 21 0 16,Ze 22 1 16,Zm 8 21,Zm 9 22] (ZR [Za 23 0 3,Zf 24 1 23,Zm 25 7,Zo 26 .add 24 25,Zm 27 9,Zo 28 .add 26 27,Zm 29 8,u1 30 (.build [(.int .u64 0),(.int .u64 0)] [(0,1),(1,1)]) [.tm 28,.tm 29],Zs 2 6 30] .ret))))⟩
theorem YzB:Yg YE8 Tryz.f123=some v123:=by kernel_rfl
def v124:VF:=⟨24,[.tmp 4],(ZR [u1 2 .box [.tm 0],u1 3 .box [.tm 1],u1 4 .mov [.cn (.bool false)]] (ZR [Za 5 0 2,Zf 6 1 5,Za 7 0 3,Zf 8 1 7,Zr 9 .gtr 6 8,Zm 10 9,Zj 11 10 false 0 2,Zh 12 10 false 1 11,Zj 13 10 false 0 3,Zh 14 10 false 1 13,u2 15 10 false (.cmp .eql) [.tm 12,.tm 14],Zg 16 10 false 15,Zj 17 16 true 1 2,Zh 18 16 true 1 17,Zj 19 16 true 1 3,Zh 20 16 true 1 19,u2 21 16 true (.cmp .gtr) [.tm 18,.tm 20],u2 22 10 false .and [.tm 16,.tm 21],u1 23 .or [.tm 10,.tm 22],Zm 4 23] .ret))⟩
theorem YzC:Yg YE8 Tryz.f124=some v124:=by kernel_rfl
def v122:VF:=⟨100,[.tmp 2,.tmp 3],(ZR [u1 2 .mov [.cn (.int .u64 0)],u1 3 .mov [.cn (.int .u64 0)]] (ZR [Zm 15 0,u1 16 (.conv .u64) [.tm 15],Zc 17 146 16,u1 18 (.ari .sub) [.tm 17,.cn (.int .i64 1)],Zm 4 18] (ZR [Zm 19 4,u1 20 (.conv .u64) [.tm 19],Zm 5 20] (.seq (ZR [Zm 21 0,Zm 22 0,u1 23 (.ari .sub) [.tm 22,.cn (.int .i64 1)],u1 24 (.bit .and) [.tm 21,.tm 23],Zq 25 .eql 24 0] (ZC 25 (ZR [Zm 26 5,u1 27 .shl [.tm 26,.cn (.int .u64 28)],Zm 28 5,u1 29 .shl [.tm 28,.cn (.int .u64 28)],Zm 2 27,Zm 3 29] .ret) .skip)) (ZR [Zm 30 0,u1 31 (.conv .u64) [.tm 30],Zm 32 4,u1 33 (.ari .sub) [.cn (.int .i64 63),.tm 32],u1 34 .shl [.tm 31,.tm 33],Zm 6 34] (ZR [Zm 35 6,Zm 7 35] (.seq (ZR [Zi 36 0] (.block 0 (.loop (ZR [Zq 37 .lss 36 28] (.seq (ZC 37 .skip (.exit 0)) (.seq (.block 1 (ZR [Zm 38 36,Zm 8 38] (ZR [Zm 40 6,Zm 41 6,Zd 42 80 40 41,Zm 39 42,Ze 43 0 39,Ze 44 1 39,Zm 9 43,Zm 10 44] (ZR [Zm 46 7,Zm 47 7,Zd 48 80 46 47,Zm 45 48,Ze 49 0 45,Ze 50 1 45,Zm 11 49,Zm 12 50] (ZR [Zm 51 9,u1 52 .shr [.tm 51,.cn (.int .u64 63)],Zm 13 52] (ZR [Zm 53 13,Zm 54 11,u1 55 .shr [.tm 54,.cn (.int .u64 63)],Zr 56 .eql 53 55,Zm 14 56] (.seq (ZR [Zm 57 13,u1 58 (.cmp .eql) [.tm 57,.cn (.int .u64 0)]] (ZC 58 (.region [Zm 59 9,u1 60 .shl [.tm 59,.cn (.int .u64 1)],Zm 61 10,u1 62 .shr [.tm 61,.cn (.int .u64 63)],u1 63 (.bit .or) [.tm 60,.tm 62],Zm 64 11,u1 65 .shl [.tm 64,.cn (.int .u64 1)],Zm 66 12,u1 67 .shr [.tm 66,.cn (.int .u64 63)],u1 68 (.bit .or) [.tm 65,.tm 67],Zm 69 12,u1 70 .shl [.tm 69,.cn (.int .u64 1)],Zm 9 63,Zm 11 68,Zm 12 70]) .skip)) (.seq (ZR [Zm 71 12,u1 72 (.cmp .gtr) [.tm 71,.cn (.int .u64 0)]] (ZC 72 (.region [Zm 73 11,u1 74 (.ari .add) [.tm 73,.cn (.int .u64 1)],Zm 11 74]) .skip)) (.seq (ZR [Zm 75 14,u1 76 .not [.tm 75],Zm 77 76,Zg 78 77 false 11,u2 79 77 false (.cmp .eql) [.tm 78,.cn (.int .u64 0)],u1 80 .or [.tm 77,.tm 79]] (ZC 80 (.seq (.draw [] [Zu 81 5,Zu 82 8,w1 83 (.ari .sub) [.cn (.int .i64 28),.tm 82],w1 84 .shl [.tm 81,.tm 83],Zu 85 5,w1 86 (.ari .add) [.tm 85,.cn (.int .u64 1)],Zu 87 8,w1 88 (.ari .sub) [.cn (.int .i64 28),.tm 87],w1 89 .shl [.tm 86,.tm 88],Zu 2 84,Zu 3 89]) .ret) .skip)) (.region [Zm 90 9,Zm 91 11,Zm 92 5,u1 93 .shl [.tm 92,.cn (.int .u64 1)],Zm 94 13,u1 95 (.bit .or) [.tm 93,.tm 94],Zm 6 90,Zm 7 91,Zm 5 95])))))))))) (.region [Zp 96 36 1,Zm 36 96]))))))) (ZR [Zm 97 5,Zm 98 5,u1 99 (.ari .add) [.tm 98,.cn (.int .u64 1)],Zm 2 97,Zm 3 99] .ret))))))))⟩
theorem YzA:Yg YE8 Tryz.f122=some v122:=by kernel_rfl
def Ydx(a:Int×Int)(x y:Int):Int×Int:=
 (IntKind.u64.wrap (IntKind.u64.wrap (a.1+x*y/18446744073709551616)+(a.2+x*y%18446744073709551616)/18446744073709551616),(a.2+x*y%18446744073709551616)%18446744073709551616)
def YgP(a b:Int×Int):Bool:=decide (b.1<a.1) || (decide (a.1=b.1)&&decide (b.2<a.2))
def okL(a:Int×Int):Prop:=(0<=a.1/\a.1<=18446744073709551615)/\0<=a.2/\a.2<=18446744073709551615
def lpC:Ctr:={ alias:=false,of:=fun l=>match l with
 | [.agg [.int .u64 a,.int .u64 b],.int .u64 x,.int .u64 y]=> .pre (okL (a,b)/\(0<=x/\x<=18446744073709551615)/\0<=y/\y<=18446744073709551615) (.fin (.agg [.int .u64 (Ydx (a,b) x y).1,.int .u64 (Ydx (a,b) x y).2]) [])
 |_=>noC}
def loC:Ctr:={ alias:=false,of:=fun l=>match l with
 | [.agg [.int .u64 a,.int .u64 b],.agg [.int .u64 c,.int .u64 d]]=> .fin (.bool (YgP (a,b) (c,d))) []
 |_=>noC}
def RA5:Env:={ ct:=fun n=>match n with|80=>some mul64C|_=>none,fn:=fun _=>none,meth:=fun _ _=>none}
theorem YsN:RA5.ct 80=some mul64C:=rfl
theorem YuH:Yu YE8 RA5:=by
 refine⟨fun f c h=>?_,fun f vf h=>?_,(fun _ _ _ h=>by cases h),by kernel_rfl,(fun _ h=>by cases h)⟩
 ·simp only[RA5]at h
  split at h
  ·cases h;exact⟨YiC,Tryz.f80,Tryz.func80,by kernel_rfl,by kernel_rfl⟩
  ·cases h
 ·cases h
theorem lp_c:lpC.ok YE8 123:=by
 refine Yb Tryz.func123 YzB YuH 200 lpC fun args k h=>?_
 simp only[lpC]at h
 split at h
 ·rename_i a b x y
  obtain⟨⟨⟨⟨a0,a1⟩,b0,b1⟩,hx,hy⟩,h⟩:=h
  refine⟨[.agg [.int .u64 a,.int .u64 b],.int .u64 x,.int .u64 y],by simp [leL,le],?_⟩
  dsimp only[v123,YsN,mul64C,Yw8,go_sem,reduceIte]
  simp only[Yd,YE5,YE3,reduceCtorEq,YE2]
  refine⟨⟨hx,hy⟩,by decide,by decide,⟨b0,Int.emod_nonneg _ (by decide),by decide,by decide⟩,by decide,by decide,?_⟩
  rw[Int.add_zero]
  exact YE (show k _ []from h) (YB (.agg [.int .u64 (Ydx (a,b) x y).1,.int .u64 (Ydx (a,b) x y).2]) ⟨trivial,trivial,trivial⟩) (fun _=>by simp [Yt,Ys])
 ·exact h.1.elim
theorem lo_c:loC.ok YE8 124:=by
 refine Yb Tryz.func124 YzC YuH 200 loC fun args k h=>?_
 simp only[loC]at h
 split at h
 ·rename_i a b c d
  refine⟨[.agg [.int .u64 a,.int .u64 b],.agg [.int .u64 c,.int .u64 d]],by simp [leL,le],?_⟩
  dsimp only[v124,go_sem,reduceIte]
  simp only[Yd,YE5,YE3,reduceCtorEq,YE2]
  exact⟨fun h1 h2=>by rw[decide_eq_false h1,decide_eq_true h2];rfl,YO h⟩
 ·exact h.1.elim
def RA6:Env:={ ct:=fun n=>match n with|146=>some len64C|80=>some mul64C|_=>none,fn:=fun _=>none,meth:=fun _ _=>none}
theorem Yja:RA6.ct 146=some len64C:=rfl
theorem YlZ:RA6.ct 80=some mul64C:=rfl
theorem YAB:Yu YE8 RA6:=by
 refine⟨fun f c h=>?_,fun f vf h=>?_,(fun _ _ _ h=>by cases h),by kernel_rfl,(fun _ h=>by cases h)⟩
 ·simp only[RA6]at h
  split at h
  ·cases h;exact⟨Yiv,Tryz.f146,Tryz.func146,by kernel_rfl,by kernel_rfl⟩
  ·cases h;exact⟨YiC,Tryz.f80,Tryz.func80,by kernel_rfl,by kernel_rfl⟩
  ·cases h
 ·cases h
abbrev hiW(a:Int):Int:=a*a/18446744073709551616
abbrev loW(a:Int):Int:=a*a%18446744073709551616
abbrev sr63(x:Int):Int:=x.fdiv (2^min (YGq 63) 64)
abbrev sl1(x:Int):Int:=IntKind.u64.wrap (x*2^min (YGq 1) 64)
abbrev dblW(x y:Int):Int:=bitI .or .u64 (sl1 x) (sr63 y)
abbrev shW(S:Int)(f:Nat):Int:=IntKind.u64.wrap (S*2^min f 64)
def YaC:Nat->Int->Int->Int->Int×Int
 |0,S,_,_=>(S,IntKind.u64.wrap (S+1))
 |f+1,S,a,b=>
  if sr63 (hiW a)=0 then
   if 0<sl1 (loW b)then
    if(!decide (sr63 (hiW a)=sr63 (hiW b)) || decide (IntKind.u64.wrap (dblW (hiW b) (loW b)+1)=0))=true then(shW S (f+1),shW (IntKind.u64.wrap (S+1)) (f+1))
    else YaC f (bitI .or .u64 (sl1 S) (sr63 (hiW a))) (dblW (hiW a) (loW a)) (IntKind.u64.wrap (dblW (hiW b) (loW b)+1))
   else
    if(!decide (sr63 (hiW a)=sr63 (hiW b)) || decide (dblW (hiW b) (loW b)=0))=true then(shW S (f+1),shW (IntKind.u64.wrap (S+1)) (f+1))
    else YaC f (bitI .or .u64 (sl1 S) (sr63 (hiW a))) (dblW (hiW a) (loW a)) (dblW (hiW b) (loW b))
  else
   if 0<loW b then
    if(!decide (sr63 (hiW a)=sr63 (hiW b)) || decide (IntKind.u64.wrap (hiW b+1)=0))=true then(shW S (f+1),shW (IntKind.u64.wrap (S+1)) (f+1))
    else YaC f (bitI .or .u64 (sl1 S) (sr63 (hiW a))) (hiW a) (IntKind.u64.wrap (hiW b+1))
   else
    if(!decide (sr63 (hiW a)=sr63 (hiW b)) || decide (hiW b=0))=true then(shW S (f+1),shW (IntKind.u64.wrap (S+1)) (f+1))
    else YaC f (bitI .or .u64 (sl1 S) (sr63 (hiW a))) (hiW a) (hiW b)
def YaV(n:Int):Int×Int:=
 if YbC n=true then(IntKind.u64.wrap (((Yn n.toNat-1:Nat):Int)*2^min (YGq 28) 64),IntKind.u64.wrap (((Yn n.toNat-1:Nat):Int)*2^min (YGq 28) 64))
 else YaC 28 ((Yn n.toNat-1:Nat):Int) (shW n (63-(Yn n.toNat-1))) (shW n (63-(Yn n.toNat-1)))
theorem Yak(x:Int):0<=IntKind.u64.wrap x/\IntKind.u64.wrap x<=18446744073709551615:=by rw[YlG];omega
theorem YdG(x y:Int):0<=bitI .or .u64 x y/\bitI .or .u64 x y<=18446744073709551615:=Yak _
theorem Yqg{a:Int}(h0:0<=a)(h1:a<=18446744073709551615):0<=hiW a/\hiW a<=18446744073709551615:=by
 have h2:a*a<=18446744073709551615*18446744073709551615:=YcO h1 h1 h0 (by decide)
 have h3:0<=a*a:=Int.mul_nonneg h0 h0
 unfold hiW
 omega
def quickC:Ctr:={ alias:=false,of:=fun l=>match l with
 | [.int .i64 n]=> .pre (1<=n/\n<=4611686018427387904) (.fin (.tup [.int .u64 (YaV n).1,.int .u64 (YaV n).2]) [])
 |_=>noC}
theorem Yyu:quickC.ok YE8 122:=by
 refine Yb Tryz.func122 YzA YAB 400 quickC fun args k h=>?_
 simp only[quickC]at h
 split at h
 ·rename_i n
  obtain⟨⟨n0,n1⟩,h⟩:=h
  refine⟨[.int .i64 n],by simp [leL,le],?_⟩
  dsimp only[v122,Yja,YlZ,len64C,mul64C,go_sem,reduceIte]
  simp only[Yd,YE5,YE3,reduceCtorEq,YE2]
  have hb1:Yn n.toNat<=63:=bitsN_le.2 (by have:(2:Nat)^63=9223372036854775808:=rfl;omega)
  have hb0:Yn n.toNat≠0:=fun e=>by have:=bitsN_eq0.1 e;omega
  obtain⟨K,hK⟩:∃K,K=Yn n.toNat-1:=⟨_,rfl⟩
  have eu:IntKind.u64.wrap n=n:=YFN _ (by omega)
  have ek:IntKind.i64.wrap ((Yn n.toNat:Int)-1)=(K:Int):=by rw[hK,YE7 _ (by omega)];omega
  have ek2:IntKind.i64.wrap (63-(K:Int))=((63-K:Nat):Int):=by rw[YE7 _ (by omega)];omega
  have ek3:IntKind.u64.wrap (K:Int)=(K:Int):=YFN _ (by omega)
  rw[eu,ek,ek2,ek3]
  refine⟨by omega,fun hc=>⟨by decide,by decide,?_⟩,fun hc=>⟨by omega,?_⟩⟩
  ·rw[YaV,if_pos (show YbC n=true from decide_eq_true hc),<-hK]at h
   exact YfO h
  ·have e:YaV n=YaC 28 K (shW n (63-K)) (shW n (63-K)):=by rw[YaV,if_neg (show¬YbC n=true from fun hh=>hc (of_decide_eq_true hh)),<-hK]
   rw[e]at h
   rw[YE4]
   obtain⟨A,hA⟩:∃A,A=shW n (63-K):=⟨_,rfl⟩
   rw[<-hA]at h
   obtain⟨R,hR⟩:∃R,R=YaC 28 K A A:=⟨_,rfl⟩
   rw[<-hR]at h
   rw[show IntKind.u64.wrap (n*2^min (63-K) 64)=A from hA.symm]
   have hAr:0<=A/\A<=18446744073709551615:=by rw[hA];exact Yak _
   refine Loop.keep [] (Int×Int×Int×Nat) (fun s=>[(5,.int .u64 s.1),(6,.int .u64 s.2.1),(7,.int .u64 s.2.2.1),(36,.int .i64 s.2.2.2)]) (fun _=>[]) [] (fun s=>s.2.2.2<=28/\R=YaC (28-s.2.2.2) s.1 s.2.1 s.2.2.1/\(0<=s.2.1/\s.2.1<=18446744073709551615)/\0<=s.2.2.1/\s.2.2.1<=18446744073709551615) (fun s=>28-s.2.2.2) ?_ ?_
   ·refine⟨(K,A,A,0),⟨by simp only;omega,hR,hAr,hAr⟩,?_⟩
    dsimp only[go_sem,reduceIte]
    simp only[Ya]
    try simp
   ·rintro⟨S,a,b,i⟩ ⟨hi,he,ha,hb⟩
    dsimp only at hi he ha hb
    dsimp only[Yja,YlZ,len64C,mul64C,go_sem,reduceIte]
    simp only[Yd,YE5,YE3,reduceCtorEq,YE2]
    have ei:IntKind.i64.wrap (28-(i:Int))=((28-i:Nat):Int):=by rw[YE7 _ (by omega)];omega
    rw[ei]
    have hA2:=Yqg ha.1 ha.2
    have hB2:=Yqg hb.1 hb.2
    refine⟨fun hlt=>?_,fun hge=>?_⟩
    ·obtain⟨f,hf⟩:∃f,28-i=f+1:=⟨28-i-1,by omega⟩
     rw[hf,YaC]at he
     rw[hf,YE4]
     refine⟨ha,by decide,by decide,hb,by decide,by decide,by decide,by decide,fun hc1=>⟨by decide,by decide,by decide,by decide,by decide,fun hc2=>⟨fun hc3=>?_,fun hc3=>?_⟩,fun hc2=>⟨fun hc3=>?_,fun hc3=>?_⟩⟩,fun hc1=>⟨fun hc2=>⟨fun hc3=>?_,fun hc3=>?_⟩,fun hc2=>⟨fun hc3=>?_,fun hc3=>?_⟩⟩⟩
     ·rw[if_pos hc1,if_pos hc2,if_pos hc3]at he
      rw[he]at h
      exact⟨by omega,by omega,YfO h⟩
     ·rw[if_pos hc1,if_pos hc2,if_neg (by rw[hc3];decide)]at he
      refine⟨by decide,(bitI .or .u64 (sl1 S) (sr63 (hiW a)),dblW (hiW a) (loW a),IntKind.u64.wrap (dblW (hiW b) (loW b)+1),i+1),⟨by simp only;omega,by rw[show 28-(i+1)=f by omega];exact he,YdG _ _,Yak _⟩,by simp only;omega,?_⟩
      rw[YE7 ((i:Int)+1) (by omega)]
      simp only[Ya]
      simp
     ·rw[if_pos hc1,if_neg hc2,if_pos hc3]at he
      rw[he]at h
      exact⟨by omega,by omega,YfO h⟩
     ·rw[if_pos hc1,if_neg hc2,if_neg (by rw[hc3];decide)]at he
      refine⟨by decide,(bitI .or .u64 (sl1 S) (sr63 (hiW a)),dblW (hiW a) (loW a),dblW (hiW b) (loW b),i+1),⟨by simp only;omega,by rw[show 28-(i+1)=f by omega];exact he,YdG _ _,YdG _ _⟩,by simp only;omega,?_⟩
      rw[YE7 ((i:Int)+1) (by omega)]
      simp only[Ya]
      simp
     ·rw[if_neg hc1,if_pos hc2,if_pos hc3]at he
      rw[he]at h
      exact⟨by omega,by omega,YfO h⟩
     ·rw[if_neg hc1,if_pos hc2,if_neg (by rw[hc3];decide)]at he
      refine⟨by decide,(bitI .or .u64 (sl1 S) (sr63 (hiW a)),hiW a,IntKind.u64.wrap (hiW b+1),i+1),⟨by simp only;omega,by rw[show 28-(i+1)=f by omega];exact he,hA2,Yak _⟩,by simp only;omega,?_⟩
      rw[YE7 ((i:Int)+1) (by omega)]
      simp only[Ya]
      simp
     ·rw[if_neg hc1,if_neg hc2,if_pos hc3]at he
      rw[he]at h
      exact⟨by omega,by omega,YfO h⟩
     ·rw[if_neg hc1,if_neg hc2,if_neg (by rw[hc3];decide)]at he
      refine⟨by decide,(bitI .or .u64 (sl1 S) (sr63 (hiW a)),hiW a,hiW b,i+1),⟨by simp only;omega,by rw[show 28-(i+1)=f by omega];exact he,hA2,hB2⟩,by simp only;omega,?_⟩
      rw[YE7 ((i:Int)+1) (by omega)]
      simp only[Ya]
      simp
    ·rw[show 28-i=0 by omega,YaC]at he
     rw[he]at h
     exact YfO h
 ·exact h.1.elim
def v99:VF:=⟨72,[.tmp 2,.tmp 3],(ZR [Zi 2 0,u1 3 .mov [.cn (.bool false)]] (ZR [u1 4 (.allocArr 2 2 [(.int .u64 0),(.int .u64 0),(.int .u64 0),(.int .u64 0)]) [],u1 5 (.allocArr 2 2 [(.int .u64 0),(.int .u64 0),(.int .u64 0),(.int .u64 0)]) []] (.seq (ZR [Zm 10 0,Zl 11 10,Zi 12 0] (.block 0 (.loop (ZR [Zr 13 .lss 12 11] (.seq (ZC 13 .skip (.exit 0)) (.seq (.block 1 (ZR [Zx 14 2 10 12,Zt 15 2 14,Zn 7,Zs 2 7 15] (ZR [Za 17 0 7,Zf 18 1 17,Zc 19 122 18,Zm 16 19,Ze 20 0 16,Ze 21 1 16,Zm 8 20,Zm 9 21] (ZR [Za 22 1 7,Zf 23 1 22,Zq 24 .geq 23 0] (ZC 24 (.draw [] [w1 25 (.idxArr 2 2) [.tm 4,.cn (.int .i64 0)],Zw 26 2 25,Zu 27 8,Zy 28 1 7,Zv 29 1 28,w1 30 (.conv .u64) [.tm 29],w1 32 (.idxArr 2 2) [.tm 4,.cn (.int .i64 1)],Zw 33 2 32,Zu 34 9,Zy 35 1 7,Zv 36 1 35,w1 37 (.conv .u64) [.tm 36],w1 31 (.call 123) [.tm 26,.tm 27,.tm 30],w1 39 (.idxArr 2 2) [.tm 4,.cn (.int .i64 0)],w1 38 (.call 123) [.tm 33,.tm 34,.tm 37],ZS 2 39 31,w1 40 (.idxArr 2 2) [.tm 4,.cn (.int .i64 1)],ZS 2 40 38]) (.draw [] [w1 41 (.idxArr 2 2) [.tm 5,.cn (.int .i64 0)],Zw 42 2 41,Zu 43 8,Zy 44 1 7,Zv 45 1 44,w1 46 .neg [.tm 45],w1 47 (.conv .u64) [.tm 46],w1 49 (.idxArr 2 2) [.tm 5,.cn (.int .i64 1)],Zw 50 2 49,Zu 51 9,Zy 52 1 7,Zv 53 1 52,w1 54 .neg [.tm 53],w1 55 (.conv .u64) [.tm 54],w1 48 (.call 123) [.tm 42,.tm 43,.tm 47],w1 57 (.idxArr 2 2) [.tm 5,.cn (.int .i64 0)],w1 56 (.call 123) [.tm 50,.tm 51,.tm 55],ZS 2 57 48,w1 58 (.idxArr 2 2) [.tm 5,.cn (.int .i64 1)],ZS 2 58 56])))))) (.region [Zp 59 12 1,Zm 12 59]))))))) (.seq (.block 2 (ZR [u1 61 (.idxArr 2 2) [.tm 4,.cn (.int .i64 0)],Zt 62 2 61,u1 63 (.idxArr 2 2) [.tm 5,.cn (.int .i64 1)],Zt 64 2 63,Zd 65 124 62 64,Zm 60 65] (ZC 60 (ZR [Zi 2 1,u1 3 .mov [.cn (.bool true)]] .ret) (ZR [u1 67 (.idxArr 2 2) [.tm 5,.cn (.int .i64 0)],Zt 68 2 67,u1 69 (.idxArr 2 2) [.tm 4,.cn (.int .i64 1)],Zt 70 2 69,Zd 71 124 68 70,Zm 66 71] (ZC 66 (ZR [Zi 2 (-1),u1 3 .mov [.cn (.bool true)]] .ret) .skip))))) (ZR [Zi 2 0,u1 3 .mov [.cn (.bool false)]] .ret)))))⟩
theorem YEV:Yg YE8 Tryz.f99=some v99:=by kernel_rfl
structure Gss where
 u0:Int×Int
 u1:Int×Int
 d0:Int×Int
 d1:Int×Int
def Gss.ok(s:Gss):Prop:=okL s.u0/\okL s.u1/\okL s.d0/\okL s.d1
def gssS(s:Gss)(x:Int×Int):Gss:=
 if 0<=x.2 then { s with u0:=Ydx s.u0 (YaV x.1).1 x.2,u1:=Ydx s.u1 (YaV x.1).2 x.2}
 else { s with d0:=Ydx s.d0 (YaV x.1).1 (-x.2),d1:=Ydx s.d1 (YaV x.1).2 (-x.2)}
def gss0:Gss:=⟨(0,0),(0,0),(0,0),(0,0)⟩
def Yf9(l:List (Int×Int)):Int×Bool:=
 let s:=l.foldl gssS gss0
 if YgP s.u0 s.d1=true then(1,true)else if YgP s.d0 s.u1=true then(-1,true)else(0,false)
theorem Yft(a:Int×Int)(x y:Int)(h:okL a):okL (Ydx a x y):=by
 unfold Ydx
 exact⟨Yak _,Int.emod_nonneg _ (by decide),by show _%_<=_;omega⟩
theorem Yqc(s:Gss)(x:Int×Int)(h:s.ok):(gssS s x).ok:=by
 obtain⟨h1,h2,h3,h4⟩:=h
 unfold gssS
 split
 ·exact⟨Yft _ _ _ h1,Yft _ _ _ h2,h3,h4⟩
 ·exact⟨h1,h2,Yft _ _ _ h3,Yft _ _ _ h4⟩
theorem Yb2:∀(f:Nat)(S a b:Int),(0<=S/\S<=18446744073709551615)->(0<=(YaC f S a b).1/\(YaC f S a b).1<=18446744073709551615)/\0<=(YaC f S a b).2/\(YaC f S a b).2<=18446744073709551615
 |0,S,a,b,h=>⟨h,Yak _⟩
 |f+1,S,a,b,h=>by
  rw[YaC]
  split
  ·split
   ·split
    ·exact⟨Yak _,Yak _⟩
    ·exact Yb2 f _ _ _ (YdG _ _)
   ·split
    ·exact⟨Yak _,Yak _⟩
    ·exact Yb2 f _ _ _ (YdG _ _)
  ·split
   ·split
    ·exact⟨Yak _,Yak _⟩
    ·exact Yb2 f _ _ _ (YdG _ _)
   ·split
    ·exact⟨Yak _,Yak _⟩
    ·exact Yb2 f _ _ _ (YdG _ _)
theorem YnV(n:Int)(hn:n<=4611686018427387904):(0<=(YaV n).1/\(YaV n).1<=18446744073709551615)/\0<=(YaV n).2/\(YaV n).2<=18446744073709551615:=by
 unfold YaV
 split
 ·exact⟨Yak _,Yak _⟩
 ·have hb1:Yn n.toNat<=63:=bitsN_le.2 (by have:(2:Nat)^63=9223372036854775808:=rfl;omega)
  exact Yb2 _ _ _ _ ⟨by omega,by omega⟩
def guessC:Ctr:={ alias:=false,of:=fun l=>match l with
 | [.vs _ _ n sz get]=> .ex (List (Int×Int)) fun l=> .pre (lsP 2 enc2 n sz get l/\(∀x,x∈l->okT x)/\n<=100) (.fin (.tup [.int .i64 (Yf9 l).1,.bool (Yf9 l).2]) [])
 |_=>noC}
def RA7:Env:={ ct:=fun n=>match n with|122=>some quickC|123=>some lpC|124=>some loC|_=>none,fn:=fun _=>none,meth:=fun _ _=>none}
theorem Yoy:RA7.ct 122=some quickC:=rfl
theorem Yoz:RA7.ct 123=some lpC:=rfl
theorem YoA:RA7.ct 124=some loC:=rfl
theorem YAC:Yu YE8 RA7:=by
 refine⟨fun f c h=>?_,fun f vf h=>?_,(fun _ _ _ h=>by cases h),by kernel_rfl,(fun _ h=>by cases h)⟩
 ·simp only[RA7]at h
  split at h
  ·cases h;exact⟨Yyu,Tryz.f122,Tryz.func122,by kernel_rfl,by kernel_rfl⟩
  ·cases h;exact⟨lp_c,Tryz.f123,Tryz.func123,by kernel_rfl,by kernel_rfl⟩
  ·cases h;exact⟨lo_c,Tryz.f124,Tryz.func124,by kernel_rfl,by kernel_rfl⟩
  ·cases h
 ·cases h
theorem YkZ{k:SV->List HO->Prop}{al:Bool}{hp:List HO}{κ:IntKind}{x:Int}{b:Bool}(h:k (.tup [.int κ x,.bool b]) []):YK al k (.tup [.int κ x,.bool b]) hp:=
 YE (show k _ []from h) (YB (.tup [.int κ x,.bool b]) ⟨trivial,trivial,trivial⟩) (fun _=>by simp [Yt,Ys])
theorem Yxz:guessC.ok YE8 99:=by
 refine Yb Tryz.func99 YEV YAC 500 guessC fun args k h=>?_
 simp only[guessC]at h
 split at h
 ·rename_i tt z n sz get
  obtain⟨l,⟨⟨rfl,rfl,hg⟩,hl,hn⟩,h⟩:=h
  refine⟨[.vs tt z l.length 2 (fun k=>enc2 (l.getD k default))],⟨⟨id,rfl,rfl,rfl,hg⟩,trivial⟩,?_⟩
  dsimp only[v99,enc2,go_sem,reduceIte]
  simp only[Yd,YE5,YE3,reduceCtorEq,YE2]
  refine Loop.keep [0,3,0,4,0] (Nat×Gss) (fun s=>[(12,.int .i64 s.1)]) (fun s=>[(0,.own false 2 2 (YaE 2 [.int .u64 s.2.u0.1,.int .u64 s.2.u0.2,.int .u64 s.2.u1.1,.int .u64 s.2.u1.2])),(1,.own false 2 2 (YaE 2 [.int .u64 s.2.d0.1,.int .u64 s.2.d0.2,.int .u64 s.2.d1.1,.int .u64 s.2.d1.2]))]) [] (fun s=>s.1<=l.length/\s.2=(l.take s.1).foldl gssS gss0/\s.2.ok) (fun s=>l.length-s.1) ?_ ?_
  ·refine⟨(0,gss0),⟨by simp only;omega,rfl,by simp [Gss.ok,gss0,okL]⟩,?_⟩
   dsimp only[gss0,go_sem,reduceIte]
   simp only[Ya]
   exact⟨by decide,by decide,rfl⟩
  ·rintro⟨i,G⟩ ⟨hi,hG,hok⟩
   dsimp only at hi hG hok
   dsimp only[Yoy,Yoz,YoA,quickC,lpC,loC,enc2,YE4,Int.reduceToNat,Nat.reduceMul,Int.toNat_zero,Int.toNat_one,go_sem,reduceIte]
   simp only[Yd,YE5,YE3,reduceCtorEq,YE2]
   refine⟨fun hlt=>?_,fun hge=>?_⟩
   ·have hx:=hl _ (Yl (by omega:i<l.length))
    generalize hxe:l.getD i default=x at hx⊢
    obtain⟨q0,q1,q2,q3⟩:=hx
    have hstep:(l.take (i+1)).foldl gssS gss0=gssS G x:=by
     rw[Yp (by omega),<-hG,hxe]
    obtain⟨g1,g2⟩:=YnV x.1 (by omega)
    have hok':=Yqc G x hok
    obtain⟨o1,o2,o3,o4⟩:=hok
    refine⟨⟨by omega,by omega⟩,⟨by omega,by omega⟩,by decide,by decide,fun hc=>?_,fun hc=>?_⟩
    ·have ew:IntKind.u64.wrap x.2=x.2:=YFN _ (by omega)
     rw[ew]
     refine⟨by decide,by decide,by decide,by decide,⟨o1,g1,by omega,by omega⟩,by decide,⟨o2,g2,by omega,by omega⟩,by decide,by decide,by decide,(i+1,gssS G x),⟨by simp only;omega,hstep.symm,hok'⟩,by simp only;omega,?_⟩
     rw[YE7 ((i:Int)+1) (by omega)]
     simp only[gssS,if_pos hc]
     simp only[Ya]
     refine⟨⟨by decide,by decide,by simp⟩,fun j hj=>?_⟩
     match j,hj with
     |0,_=>exact⟨⟨rfl,rfl⟩,⟨rfl,rfl⟩,trivial⟩
     |1,_=>exact⟨⟨rfl,rfl⟩,⟨rfl,rfl⟩,trivial⟩
    ·have en:IntKind.i64.wrap (0-x.2)= -x.2:=by rw[YE7 _ (by omega)];omega
     rw[en]
     have ew:IntKind.u64.wrap (-x.2)= -x.2:=YFN _ (by omega)
     rw[ew]
     refine⟨by decide,by decide,by decide,by decide,⟨o3,g1,by omega,by omega⟩,by decide,⟨o4,g2,by omega,by omega⟩,by decide,by decide,by decide,(i+1,gssS G x),⟨by simp only;omega,hstep.symm,hok'⟩,by simp only;omega,?_⟩
     rw[YE7 ((i:Int)+1) (by omega)]
     simp only[gssS,if_neg hc]
     simp only[Ya]
     refine⟨⟨by decide,by decide,by simp⟩,fun j hj=>?_⟩
     match j,hj with
     |0,_=>exact⟨⟨rfl,rfl⟩,⟨rfl,rfl⟩,trivial⟩
     |1,_=>exact⟨⟨rfl,rfl⟩,⟨rfl,rfl⟩,trivial⟩
   ·obtain rfl:i=l.length:=by omega
    rw[YF4]at hG
    rw[Yf9,<-hG]at h
    refine⟨by decide,by decide,by decide,by decide,fun hc=>?_,fun hc=>⟨by decide,by decide,by decide,by decide,fun hd=>?_,fun hd=>?_⟩⟩
    ·rw[show YgP G.u0 G.d1=true from hc]at h
     exact YkZ h
    ·rw[show YgP G.u0 G.d1=false from hc,show YgP G.d0 G.u1=true from hd]at h
     exact YkZ h
    ·rw[show YgP G.u0 G.d1=false from hc,show YgP G.d0 G.u1=false from hd]at h
     exact YkZ h
 ·exact h.1.elim
def encB(x:Nat):List SV:=[.int .i64 x]
def hitF(out:List Nat)(n:Nat):Nat:=YbY (fun i=>decide (1<YF1 (out.getD i 0) n)) out.length 0
def Ycf:Nat->List Nat->List Nat->List Nat
 |0,_,out=>out
 |f+1,wait,out=>
  if wait.length=0 then out
  else if wait.getD (wait.length-1) 0=1 then Ycf f (wait.take (wait.length-1)) out
  else if hitF out (wait.getD (wait.length-1) 0)<out.length then
   Ycf f (wait.take (wait.length-1)++[YF1 (out.getD (hitF out (wait.getD (wait.length-1) 0)) 0) (wait.getD (wait.length-1) 0),out.getD (hitF out (wait.getD (wait.length-1) 0)) 0/YF1 (out.getD (hitF out (wait.getD (wait.length-1) 0)) 0) (wait.getD (wait.length-1) 0),wait.getD (wait.length-1) 0/YF1 (out.getD (hitF out (wait.getD (wait.length-1) 0)) 0) (wait.getD (wait.length-1) 0)])
    (out.take (hitF out (wait.getD (wait.length-1) 0))++out.drop (hitF out (wait.getD (wait.length-1) 0)+1))
  else Ycf f (wait.take (wait.length-1)) (out++[wait.getD (wait.length-1) 0])
def Ya7(out:List Nat)(x:Int×Int):List Nat:=Ycf 3000 [x.1.toNat] out
def YhS(l:List (Int×Int)):List Nat:=l.foldl Ya7 []
def Yq:List Nat->Nat
 | []=>1
 |x::l=>x*Yq l
theorem YU:∀(a b:List Nat),Yq (a++b)=Yq a*Yq b
 | [],b=>by simp [Yq]
 |x::a,b=>by rw[List.cons_append,Yq,Yq,YU a b,YFg]
theorem Yec:∀{l:List Nat},(∀x,x∈l->1<=x)->1<=Yq l
 | [],_=>by decide
 |x::l,h=>by
  have h1:=Yec (l:=l) fun y hy=>h y (YFp _ hy)
  have h2:=h x (YFs ..)
  rw[Yq]
  exact YF3 h2 h1
theorem Ydt{w:List Nat}(h:w.length≠0):w=w.take (w.length-1)++[w.getD (w.length-1) 0]:=by
 have:=Yaf (l:=w) (i:=w.length-1) (by omega)
 rw[show w.length-1+1=w.length by omega,YF4]at this
 exact this
theorem Yns{w:List Nat}{i:Nat}(h:i<w.length):w=w.take i++w.getD i 0::w.drop (i+1):=by
 have h1:=List.take_append_drop i w
 have h2:w.drop i=w.getD i 0::w.drop (i+1):=by
  rw[List.drop_eq_getElem_cons h,YFf,List.getElem?_eq_getElem h];rfl
 rw[h2]at h1
 exact h1.symm
structure DrOk (B f:Nat) (wait out:List Nat):Prop where
 wp:∀x,x∈wait->1<=x/\x<=1099511627776
 op:∀x,x∈out->2<=x/\x<=1099511627776
 pb:Yn (Yq out*Yq wait)<=B
 mu:3*Yn (Yq out*Yq wait)+wait.length<=f
theorem DrOk.pop{B f:Nat}{wait out:List Nat}(h:DrOk B f wait out)(hw:wait.length≠0)(h1:wait.getD (wait.length-1) 0=1):∃g,f=g+1/\DrOk B g (wait.take (wait.length-1)) out:=by
 have hm:=h.mu
 have hpb:=h.pb
 refine⟨f-1,by omega,?_⟩
 have e:=Ydt hw
 have e2:Yq wait=Yq (wait.take (wait.length-1)):=by
  conv=>lhs;rw[e]
  rw[YU,h1];simp [Yq]
 refine⟨fun x hx=>h.wp x (List.mem_of_mem_take hx),h.op,by rw[<-e2];exact hpb,?_⟩
 rw[<-e2,YF2]
 omega
theorem DrOk.push{B f:Nat}{wait out:List Nat}(h:DrOk B f wait out)(hw:wait.length≠0)(h1:wait.getD (wait.length-1) 0≠1):∃g,f=g+1/\DrOk B g (wait.take (wait.length-1)) (out++[wait.getD (wait.length-1) 0]):=by
 have hm:=h.mu
 have hn:=h.wp _ (Yl (l:=wait) (i:=wait.length-1) (by omega))
 have hn':1<=wait.getD (wait.length-1) 0/\wait.getD (wait.length-1) 0<=1099511627776:=hn
 have hpb:=h.pb
 have e:=Ydt hw
 have e2:Yq out*Yq wait=Yq (out++[wait.getD (wait.length-1) 0])*Yq (wait.take (wait.length-1)):=by
  conv=>lhs;rw[e]
  rw[YU,YU]
  simp only[Yq,YGb]
  rw[YFc (Yq (wait.take _)),YFg]
 refine⟨f-1,by omega,⟨fun x hx=>h.wp x (List.mem_of_mem_take hx),fun x hx=>?_,by rw[<-e2];exact hpb,?_⟩⟩
 ·rcases YFM.1 hx with hx|hx
  ·exact h.op x hx
  ·rw[YFO]at hx
   subst hx
   omega
 rw[<-e2,YF2]
 omega
theorem Yg4{a b:Nat}(h:a<=b):Yn a<=Yn b:=bitsN_le.2 (YFG h (Ycc b))
theorem DrOk.hit{B f:Nat}{wait out:List Nat}(h:DrOk B f wait out)(hw:wait.length≠0){i:Nat}(hi:i<out.length)(hg:1<YF1 (out.getD i 0) (wait.getD (wait.length-1) 0)):
 ∃g,f=g+1/\DrOk B g (wait.take (wait.length-1)++[YF1 (out.getD i 0) (wait.getD (wait.length-1) 0),out.getD i 0/YF1 (out.getD i 0) (wait.getD (wait.length-1) 0),wait.getD (wait.length-1) 0/YF1 (out.getD i 0) (wait.getD (wait.length-1) 0)]) (out.take i++out.drop (i+1)):=by
 have hm:=h.mu
 have hn:1<=wait.getD (wait.length-1) 0/\wait.getD (wait.length-1) 0<=1099511627776:=h.wp _ (Yl (l:=wait) (i:=wait.length-1) (by omega))
 have hb:2<=out.getD i 0/\out.getD i 0<=1099511627776:=h.op _ (Yl (l:=out) (i:=i) hi)
 have e:=Ydt hw
 have e':=Yns hi
 generalize wait.getD (wait.length-1) 0=n at*
 generalize out.getD i 0=b at*
 have d1:=Nat.gcd_dvd_left b n
 have d2:=Nat.gcd_dvd_right b n
 generalize YF1 b n=g at*
 obtain⟨b1,rfl⟩:=d1
 obtain⟨n1,rfl⟩:=d2
 rw[Nat.mul_div_cancel_left _ (by omega),Nat.mul_div_cancel_left _ (by omega)]
 have hb1:1<=b1:=Nat.pos_of_ne_zero fun hh=>by rw[hh,Nat.mul_zero]at hb;omega
 have hn1:1<=n1:=Nat.pos_of_ne_zero fun hh=>by rw[hh,Nat.mul_zero]at hn;omega
 have gb:g<=g*b1:=Nat.le_mul_of_pos_right _ hb1
 have bb:b1<=g*b1:=Nat.le_mul_of_pos_left _ (by omega)
 have nb:n1<=g*n1:=Nat.le_mul_of_pos_left _ (by omega)
 have hpt:1<=Yq (out.take i++out.drop (i+1))*Yq (wait.take (wait.length-1)):=by
  refine YF3 (Yec fun x hx=>?_) (Yec fun x hx=>(h.wp x (List.mem_of_mem_take hx)).1)
  rcases YFM.1 hx with hx|hx
  ·have:=(h.op x (List.mem_of_mem_take hx)).1;omega
  ·have:=(h.op x (List.mem_of_mem_drop hx)).1;omega
 have eP:Yq out*Yq wait=g*(Yq (out.take i++out.drop (i+1))*Yq (wait.take (wait.length-1)++[g,b1,n1])):=by
  conv=>lhs;rw[e,e']
  simp only[YU,Yq,YGb]
  generalize Yq (out.take i)=A
  generalize Yq (out.drop (i+1))=B
  generalize Yq (wait.take (wait.length-1))=C
  simp only[YFg,YFY,YFc]
 have hp1:1<=Yq (out.take i++out.drop (i+1))*Yq (wait.take (wait.length-1)++[g,b1,n1]):=by
  rw[YU (wait.take _),<-YFg]
  refine YF3 hpt ?_
  simp only[Yq,YGb]
  exact YF3 (by omega) (YF3 hb1 hn1)
 have hP:Yn (Yq (out.take i++out.drop (i+1))*Yq (wait.take (wait.length-1)++[g,b1,n1]))+1<=Yn (Yq out*Yq wait):=by
  generalize hQ:Yq (out.take i++out.drop (i+1))*Yq (wait.take (wait.length-1)++[g,b1,n1])=Q at*
  rw[eP]
  have h2:2*Q<=g*Q:=YE9 _ (by omega)
  have h3:=Yex (a:=g*Q) (by omega)
  have h4:Yn Q<=Yn (g*Q/2):=Yg4 (by omega)
  omega
 have hpb:=h.pb
 refine⟨f-1,by omega,⟨fun x hx=>?_,fun x hx=>?_,by omega,?_⟩⟩
 ·rcases YFM.1 hx with hx|hx
  ·exact h.wp x (List.mem_of_mem_take hx)
  ·simp only[YFA,List.not_mem_nil,or_false]at hx
   rcases hx with rfl|rfl|rfl <;> omega
 ·rcases YFM.1 hx with hx|hx
  ·exact h.op x (List.mem_of_mem_take hx)
  ·exact h.op x (List.mem_of_mem_drop hx)
 ·rw[YF7,YF2]
  simp only[YF6,List.length_nil]
  omega
theorem Yjz(a b:Nat):Yn (a*b)<=Yn a+Yn b:=by
 rw[bitsN_le,YFi]
 exact Nat.mul_lt_mul_of_lt_of_le (Ycc a) (YGa (Ycc b)) (YF _)
theorem DrOk.start{i N:Nat}{out:List Nat}(hN0:1<=N)(hN1:N<=1000000000001)(ho:∀x,x∈out->2<=x/\x<=1099511627776)(hb:Yn (Yq out)<=40*i+1)(hi:i<20):DrOk (40*(i+1)+1) 3000 [N] out:=by
 have h1:Yn N<=40:=bitsN_le.2 (by omega)
 have h2:Yn (Yq out*Yq [N])<=40*(i+1)+1:=by
  have:=Yjz (Yq out) (Yq [N])
  have e:Yq [N]=N:=by simp [Yq]
  rw[e]at this⊢
  omega
 refine⟨fun x hx=>?_,ho,h2,?_⟩
 ·rw[YFO]at hx
  subst hx
  omega
 ·simp only[YF6,List.length_nil]
  omega
def v102:VF:=⟨73,[.tmp 2],(ZR [u1 2 .mov [.cn .nil]] (ZR [u1 3 .mov [.cn .nil]] (.seq (ZR [Zm 11 0,Zl 12 11,Zi 13 0] (.block 0 (.loop (ZR [Zr 14 .lss 13 12] (.seq (ZC 14 .skip (.exit 0)) (.seq (.block 1 (ZR [Zx 15 2 11 13,Zt 16 2 15,Zn 5,Zs 2 5 16] (.scope (ZR [Za 17 0 5,Zf 18 1 17,u1 19 (.buildSlice 1 1 [(.int .i64 0)] [(0,1)]) [.tm 18],Zm 6 19] (.seq .skip (.block 2 (.loop (.seq (ZR [Zm 20 6,Zl 21 20,Zq 22 .gtr 21 0] (ZC 22 .skip (.exit 2))) (.block 3 (ZR [Zm 23 6,Zm 24 6,Zl 25 24,u1 26 (.ari .sub) [.tm 25,.cn (.int .i64 1)],Zx 27 1 23 26,Zf 28 1 27,Zm 7 28] (ZR [Zm 29 6,Zm 30 6,Zl 31 30,u1 32 (.ari .sub) [.tm 31,.cn (.int .i64 1)],u1 33 (.slice 1 false true) [.tm 29,.tm 32],Zm 6 33] (.seq (ZR [Zm 34 7,Zq 35 .eql 34 1] (ZC 35 (.exit 3) .skip)) (.seq (ZR [Zm 36 3,Zl 37 36,Zi 38 0] (.block 4 (.loop (ZR [Zr 39 .lss 38 37] (.seq (ZC 39 .skip (.exit 4)) (.seq (.block 5 (ZR [Zm 40 38,Zx 41 1 36 38,Zf 42 1 41,Zm 8 40,Zm 9 42] (ZR [Zm 43 9,Zm 44 7,Zd 45 130 43 44,Zm 10 45] (ZR [Zm 46 10,Zq 47 .gtr 46 1] (ZC 47 (.seq (.draw [] [Zu 48 3,Zu 49 8,w1 50 (.slice 1 false true) [.tm 48,.tm 49],Zu 51 3,Zu 52 8,w1 53 (.ari .add) [.tm 52,.cn (.int .i64 1)],w1 54 (.slice 1 true false) [.tm 51,.tm 53],w1 55 (.append 1 8 [(.int .i64 0)]) [.tm 50,.tm 54],Zu 3 55]) (.seq (.draw [] [Zu 56 6,Zu 57 10,Zu 58 9,Zu 59 10,w1 60 .quo [.tm 58,.tm 59],Zu 61 7,Zu 62 10,w1 63 .quo [.tm 61,.tm 62],w1 64 (.buildSlice 1 3 [(.int .i64 0)] [(0,1),(1,1),(2,1)]) [.tm 57,.tm 60,.tm 63],w1 65 (.append 1 8 [(.int .i64 0)]) [.tm 56,.tm 64],Zu 6 65]) (.exit 3))) .skip))))) (.region [Zp 66 38 1,Zm 38 66]))))))) (.region [Zm 67 3,Zm 68 7,u1 69 (.buildSlice 1 1 [(.int .i64 0)] [(0,1)]) [.tm 68],u1 70 (.append 1 8 [(.int .i64 0)]) [.tm 67,.tm 69],Zm 3 70])))))))))))))) (.region [Zp 71 13 1,Zm 13 71]))))))) (ZR [Zm 72 3,Zm 2 72] .ret))))⟩
theorem Yzl:Yg YE8 Tryz.f102=some v102:=by kernel_rfl
def baseC:Ctr:={ alias:=false,of:=fun l=>match l with
 | [.vs _ _ n sz get]=> .ex (List (Int×Int)) fun l=> .pre (lsP 2 enc2 n sz get l/\(∀x,x∈l->okT x)/\n<=20) (.all Bool fun y=> .fin (.vs true y (YhS l).length 1 (fun k=>encB ((YhS l).getD k 0))) [])
 |_=>noC}
def RA8:Env:={ ct:=fun n=>match n with|130=>some gcdC|_=>none,fn:=fun _=>none,meth:=fun _ _=>none}
theorem Yjb:RA8.ct 130=some gcdC:=rfl
theorem YAD:Yu YE8 RA8:=by
 refine⟨fun f c h=>?_,fun f vf h=>?_,(fun _ _ _ h=>by cases h),by kernel_rfl,(fun _ h=>by cases h)⟩
 ·simp only[RA8]at h
  split at h
  ·cases h;exact⟨Yxx,Tryz.f130,Tryz.func130,by kernel_rfl,by kernel_rfl⟩
  ·cases h
 ·cases h
structure DSt where
 f:Nat
 W:List Nat
 n:Nat
 out:List Nat
 yw:Bool
 yo:Bool
theorem YpR{f:Nat}:∀{wait out:List Nat},(Ycf f wait out).length<=out.length+f:=by
 induction f with
 |zero=>intro wait out;rw[Ycf];omega
 |succ f ih=>
  intro wait out
  rw[Ycf]
  split
  ·omega
  ·split
   ·have:= @ih (wait.take (wait.length-1)) out;omega
   ·split
    ·rename_i hh
     refine YFa ih ?_
     rw[YF7,YF2,List.length_drop]
     omega
    ·refine YFa ih ?_
     rw[YF7]
     simp only[YF6,List.length_nil]
     omega
theorem YAZ:baseC.ok YE8 102:=by
 refine Yb Tryz.func102 Yzl YAD 800 baseC fun args k h=>?_
 simp only[baseC]at h
 split at h
 ·rename_i tt z n sz get
  obtain⟨l,⟨⟨rfl,rfl,hg⟩,hl,hn⟩,h⟩:=h
  refine⟨[.vs tt z l.length 2 (fun k=>enc2 (l.getD k default))],⟨⟨id,rfl,rfl,rfl,hg⟩,trivial⟩,?_⟩
  dsimp only[v102,enc2,go_sem,reduceIte]
  simp only[Yd,YE5,YE3,reduceCtorEq,YE2]
  refine Loop.keep [0,10,0] (Nat×List Nat×Bool) (fun s=>[(3,.own 0 0 s.2.1.length 1),(13,.int .i64 s.1)]) (fun s=>[(0,.own s.2.2 1 s.2.1.length (fun k=>encB (s.2.1.getD k 0)))]) [.gone] (fun s=>s.1<=l.length/\s.2.1=(l.take s.1).foldl Ya7 []/\(∀x,x∈s.2.1->2<=x/\x<=1099511627776)/\Yn (Yq s.2.1)<=40*s.1+1/\s.2.1.length<=3000*s.1/\(s.2.2=true->s.2.1.length=0)) (fun s=>l.length-s.1) ?_ ?_
  ·refine⟨(0,[],true),⟨by simp only;omega,rfl,⟨fun x hx=>absurd hx (by simp),by decide,YFk _,fun _=>rfl⟩⟩,?_⟩
   dsimp only[List.length_nil,go_sem,reduceIte]
   simp only[Ya]
   simp
  ·rintro⟨i,out,yo⟩ ⟨hi,hG,hok,hbp,hlen,hyo⟩
   dsimp only at hi hG hok hbp hlen hyo
   dsimp only[enc2,YE4,go_sem,reduceIte]
   simp only[Yd,YE5,YE3,reduceCtorEq,YE2]
   refine⟨fun hlt=>?_,fun hge=>?_⟩
   ·have hx:=hl _ (Yl (by omega:i<l.length))
    have hstep:(l.take (i+1)).foldl Ya7 []=Ya7 out (l.getD i default):=by
     rw[Yp (by omega),<-hG]
    generalize l.getD i default=x at hx hstep⊢
    obtain⟨q0,q1,q2,q3⟩:=hx
    obtain⟨N,hN⟩:∃N:Nat,x.1=(N:Int):=⟨x.1.toNat,by omega⟩
    have hR:Ya7 out x=Ycf 3000 [N] out:=by rw[Ya7,hN,YE4]
    obtain⟨R,hRR⟩:∃R,R=Ya7 out x:=⟨_,rfl⟩
    rw[<-hRR]at hR hstep
    rw[hN]
    have hmu:DrOk (40*(i+1)+1) 3000 [N] out:=DrOk.start (by omega) (by omega) hok hbp (by omega)
    refine⟨⟨by omega,by omega⟩,by decide,?_⟩
    refine Loop.keep [0,10,0,0] DSt (fun s=>[(3,.own 0 0 s.out.length 1),(6,.own 2 0 s.n 1)]) (fun s=>[(0,.own s.yo 1 s.out.length (fun k=>encB (s.out.getD k 0))),(2,.own s.yw 1 s.W.length (fun k=>encB (s.W.getD k 0)))]) [] (fun s=>s.n<=s.W.length/\DrOk (40*(i+1)+1) s.f (s.W.take s.n) s.out/\R=Ycf s.f (s.W.take s.n) s.out/\s.out.length+s.f<=3000*(i+1)/\(s.yo=true->s.out.length=0)) (fun s=>s.f) ?_ ?_
    ·refine⟨⟨3000,[N],1,out,false,yo⟩,⟨YFk _,hmu,hR,by simp only;omega,hyo⟩,?_⟩
     dsimp only[List.length_nil,YF6,go_sem,reduceIte]
     simp only[Ya]
     refine⟨by decide,fun k hk=>⟨⟨rfl,rfl⟩,trivial⟩,fun k hk=>?_⟩
     obtain rfl:k=0:=by omega
     exact⟨⟨rfl,rfl⟩,trivial⟩
    ·rintro⟨f,W,n,out,yw,yo⟩ ⟨hnW,hmu,hR,hlen,hyo⟩
     dsimp only at hnW hmu hR hlen hyo
     dsimp only[Yjb,gcdC,encB,YE4,go_sem,reduceIte]
     simp only[Yd,YE5,YE3,reduceCtorEq,YE2]
     have hwl:(W.take n).length=n:=by rw[YF2];omega
     refine⟨fun hpos=>?_,fun hz=>?_⟩
     ·have hwn:(W.take n).length≠0:=by omega
      have hgl:(W.take n).getD ((W.take n).length-1) 0=W.getD (n-1) 0:=by
       rw[hwl,YFf,YFf,YF9,if_pos (by omega)]
      have htl:(W.take n).take ((W.take n).length-1)=W.take (n-1):=by
       rw[hwl,List.take_take];congr 1;omega
      obtain⟨g,rfl⟩:∃g,f=g+1:=⟨f-1,by have:=hmu.mu;omega⟩
      have hnf:n<=70000:=by have:=hmu.mu;omega
      rw[Ym (by omega) (by omega),YE4]
      rw[Ycf,if_neg hwn,hgl,htl]at hR
      obtain⟨v,hv⟩:∃v,v=W.getD (n-1) 0:=⟨_,rfl⟩
      have hvr:1<=v/\v<=1099511627776:=by
       have:=hmu.wp _ (Yl (l:=W.take n) (i:=(W.take n).length-1) (by omega))
       rw[show(W.take n).getD ((W.take n).length-1) default=W.getD (n-1) 0 from hgl,<-hv]at this
       exact this
      refine⟨⟨by omega,by omega⟩,by omega,⟨by omega,by omega⟩,fun h1=>?_,fun h1=>?_⟩
      ·have h1':W.getD (n-1) 0=1:=by omega
       obtain⟨g',hg',hd⟩:=hmu.pop hwn (by rw[hgl];exact h1')
       obtain rfl:g=g':=by omega
       rw[if_pos h1']at hR
       rw[htl]at hd
       refine⟨⟨g,W,n-1,out,yw,yo⟩,⟨by simp only;omega,hd,hR,by simp only;omega,hyo⟩,by simp only;omega,?_⟩
       simp only[Ya]
       exact⟨by decide,by decide⟩
      ·have h1':W.getD (n-1) 0≠1:=by omega
       rw[if_neg h1']at hR
       rw[<-hv]at hR h1'⊢
       refine Loop.keep [0,2,2,0,3,0,0,22,0] Nat (fun t=>[(38,.int .i64 t)]) (fun t=>[]) [] (fun t=>t<=out.length/\∀j,j<t->¬1<YF1 (out.getD j 0) v) (fun t=>out.length-t) ?_ ?_
       ·refine⟨0,⟨by omega,fun j hj=>by omega⟩,?_⟩
        dsimp only[go_sem,reduceIte]
        simp only[Ya]
        exact⟨by decide,by decide,by decide,rfl⟩
       ·rintro t ⟨ht,hno⟩
        dsimp only[Yjb,gcdC,encB,YE4,go_sem,reduceIte]
        simp only[Yd,YE5,YE3,reduceCtorEq,YE2]
        refine⟨fun hlt2=>?_,fun hge2=>?_⟩
        ·have hb:2<=out.getD t 0/\out.getD t 0<=1099511627776:=hmu.op _ (Yl (l:=out) (i:=t) (by omega))
         have w1:IntKind.i64.wrap ((t:Int)+1)=((t+1:Nat):Int):=by rw[YE7 _ (by omega)];simp
         rw[w1,YE4]
         refine⟨⟨by omega,by omega⟩,by omega,out.getD t 0,v,⟨rfl,rfl,by omega,by omega⟩,fun hgt=>?_,fun hng=>?_⟩
         ·have hgt':1<YF1 (out.getD t 0) v:=by omega
          have hh:hitF out v=t:=Yj5 (fun j hj=>decide_eq_false (hno j hj)) (by omega) (fun _=>decide_eq_true hgt')
          obtain⟨g',hg',hd⟩:=hmu.hit hwn (i:=t) (by omega) (by rw[hgl,<-hv];exact hgt')
          obtain rfl:g=g':=by omega
          rw[hh,if_pos (by omega)]at hR
          rw[hgl,htl,<-hv]at hd
          obtain⟨b,hbd⟩:∃b,b=out.getD t 0:=⟨_,rfl⟩
          rw[<-hbd]at hR hd hb hgt hgt'⊢
          obtain⟨G,hG'⟩:∃G,G=YF1 b v:=⟨_,rfl⟩
          rw[<-hG']at hR hd hgt hgt'⊢
          have e1:IntKind.i64.wrap ((b:Int).tdiv (G:Int))=((b/G:Nat):Int):=by
           have:(b:Int).tdiv (G:Int)=((b/G:Nat):Int):=YGg rfl rfl
           have h2:b/G<=b:=YGd _ _
           rw[this]
           generalize b/G=q at h2⊢
           exact YE7 _ (by omega)
          have e2:IntKind.i64.wrap ((v:Int).tdiv (G:Int))=((v/G:Nat):Int):=by
           have:(v:Int).tdiv (G:Int)=((v/G:Nat):Int):=YGg rfl rfl
           have h2:v/G<=v:=YGd _ _
           rw[this]
           generalize v/G=q at h2⊢
           exact YE7 _ (by omega)
          rw[e1,e2]
          have hsub:YgC out.length (t+1)=out.length-(t+1):=by unfold YgC;rfl
          rw[hsub]
          have hWt:(W.take (n-1)++[G,b/G,v/G]).length=n-1+3:=by rw[YF7,YF2];simp only[YF6,List.length_nil];omega
          have hol:(out.take t++out.drop (t+1)).length=t+(out.length-(t+1)):=by rw[YF7,YF2,List.length_drop];omega
          refine⟨⟨by omega,by omega⟩,⟨by omega,by omega⟩,by unfold YN;omega,by omega,by omega,by decide,⟨by unfold YN;omega,fun k hk=>?_⟩,⟨g,W.take (n-1)++[G,b/G,v/G],n-1+3,out.take t++out.drop (t+1),yw&&decide False,yo&&decide (out.length-(t+1)=0)⟩,⟨?_,?_,?_,?_,?_⟩,by simp only;omega,?_⟩
          ·match k,hk with
           |0,_=>exact⟨rfl,trivial,trivial⟩
           |1,_=>exact⟨rfl,trivial,trivial⟩
           |2,_=>exact⟨rfl,trivial,trivial⟩
          ·simp only;omega
          ·simp only;rw[<-hWt,YF4];exact hd
          ·simp only;rw[<-hWt,YF4];exact hR
          ·simp only;omega
          ·simp only
           intro hy
           rw[YFd]at hy
           have:=hyo hy.1
           omega
          ·simp only[hol,hWt]
           simp only[Ya]
           refine⟨by decide,fun k hk=>?_,fun k hk=>?_⟩
           ·rw[Yc8]
            by_cases hkt:k<t
            ·rw[if_pos hkt,YFf (l:=_++_),YFK (by rw[YF2];omega),YF9,if_pos hkt,<-YFf]
             exact⟨⟨rfl,rfl⟩,trivial⟩
            ·rw[if_neg hkt,YFf (l:=_++_),YFX (by rw[YF2];omega),YF2,List.getElem?_drop,<-YFf,show t+1+(k-min t out.length)=t+1+(k-t)by omega]
             exact⟨⟨rfl,rfl⟩,trivial⟩
           ·by_cases hkt:k<n-1
            ·rw[if_pos hkt,YFf (l:=_++_),YFK (by rw[YF2];omega),YF9,if_pos hkt,<-YFf]
             exact⟨⟨rfl,rfl⟩,trivial⟩
            ·rw[if_neg hkt,YFf (l:=_++_),YFX (by rw[YF2];omega),YF2,show k-min (n-1) W.length=k-(n-1)by omega]
             obtain⟨q,hq⟩:∃q,q=k-(n-1):=⟨_,rfl⟩
             rw[<-hq]
             have hq3:q<3:=by omega
             match q,hq3 with
             |0,_=>exact⟨⟨rfl,rfl⟩,trivial⟩
             |1,_=>exact⟨⟨rfl,rfl⟩,trivial⟩
             |2,_=>exact⟨⟨rfl,rfl⟩,trivial⟩
         ·refine⟨t+1,⟨by omega,fun j hj=>?_⟩,by omega,?_⟩
          ·rcases YFu j t with h'|h'
           ·exact hno j h'
           ·obtain rfl:j=t:=by omega
            exact fun hh=>hng (by omega)
          ·simp only[Ya]
           exact⟨by decide,by decide,by decide⟩
        ·obtain rfl:t=out.length:=by omega
         have hh:hitF out v=out.length:=Yj5 (fun j hj=>decide_eq_false (hno j hj)) (YFk _) (fun hlt=>absurd hlt (Nat.lt_irrefl _))
         obtain⟨g',hg',hd⟩:=hmu.push hwn (by rw[hgl,<-hv];exact h1')
         obtain rfl:g=g':=by omega
         rw[hh,if_neg (Nat.lt_irrefl _)]at hR
         rw[hgl,htl,<-hv]at hd
         have hol:(out++[v]).length=out.length+1:=by rw[YF7];rfl
         refine⟨by decide,⟨by unfold YN;omega,fun k hk=>?_⟩,⟨g,W,n-1,out++[v],yw,yo&&decide False⟩,⟨by simp only;omega,hd,hR,by simp only;omega,?_⟩,by simp only;omega,?_⟩
         ·obtain rfl:k=0:=by omega
          exact⟨rfl,trivial,trivial⟩
         ·simp
         ·simp only[hol]
          simp only[Ya]
          refine⟨by decide,fun k hk=>?_⟩
          by_cases hkt:k<out.length
          ·rw[if_pos hkt,YFf (l:=_++_),YFK hkt,<-YFf]
           exact⟨⟨rfl,rfl⟩,trivial⟩
          ·obtain rfl:k=out.length:=by omega
           rw[if_neg hkt,YFf (l:=_++_),YFX (YFk _),Nat.sub_self]
           exact⟨⟨rfl,rfl⟩,trivial⟩
     ·obtain rfl:n=0:=by omega
      rw[List.take_zero]at hR hmu
      have hRo:R=out:=by
       rw[hR]
       cases f with
       |zero=>rfl
       |succ f=>rw[Ycf,if_pos List.length_nil]
      have hpb:=hmu.pb
      rw[show Yq out*Yq []=Yq out from YGb _]at hpb
      refine⟨(i+1,out,yo),⟨by simp only;omega,by rw[hstep,hRo],hmu.op,hpb,by simp only;omega,hyo⟩,by simp only;omega,?_⟩
      rw[YE7 ((i:Int)+1) (by omega)]
      simp only[Ya]
      exact⟨by decide,by simp⟩
   ·obtain rfl:i=l.length:=by omega
    rw[YF4]at hG
    have hG:YhS l=out:=hG.symm
    rw[hG]at h
    refine YE (show k (.vs true yo out.length 1 (fun k=>encB (out.getD k 0))) []from h yo) ?_ (fun _=>by simp [Yt,encB,Ys])
    have e:expo [HO.own yo 1 out.length fun k=>encB (out.getD k 0)] (SV.own 0 0 out.length 1)= .vs true yo out.length 1 (fun k=>encB (out.getD k 0)):=by
     simp [expo,view,Ybh,viewN,getH,YkW,encB]
    rw[e]
    exact YB _ trivial
 ·exact h.1.elim
def v71:VF:=⟨39,[.tmp 2],(ZR [u1 2 .mov [.cn (.bool false)]] (.seq (ZR [Zm 9 0,Zc 10 102 9,Zl 11 10,Zi 12 0] (.block 0 (.loop (ZR [Zr 13 .lss 12 11] (.seq (ZC 13 .skip (.exit 0)) (.seq (.block 1 (ZR [Zx 14 1 10 12,Zf 15 1 14,Zm 4 15] (ZR [Zi 5 0] (.seq (ZR [Zm 16 0,Zl 17 16,Zi 18 0] (.block 2 (.loop (ZR [Zr 19 .lss 18 17] (.seq (ZC 19 .skip (.exit 2)) (.seq (.block 3 (ZR [Zx 20 2 16 18,Zt 21 2 20,Zn 7,Zs 2 7 21] (ZR [Za 22 0 7,Zf 23 1 22,Zm 8 23] (.block 4 (.loop (.seq (ZR [Zm 24 8,Zm 25 4,u1 26 .rem [.tm 24,.tm 25],Zq 27 .eql 26 0] (ZC 27 .skip (.exit 4))) (.seq (.block 5 (.region [Zm 31 5,Za 32 1 7,Zf 33 1 32,Zo 34 .add 31 33,Zm 5 34])) (.region [Zm 28 8,Zm 29 4,u1 30 .quo [.tm 28,.tm 29],Zm 8 30])))))))) (.region [Zp 35 18 1,Zm 18 35]))))))) (ZR [Zm 36 5,Zq 37 .neq 36 0] (ZC 37 (ZR [u1 2 .mov [.cn (.bool false)]] .ret) .skip)))))) (.region [Zp 38 12 1,Zm 12 38]))))))) (ZR [u1 2 .mov [.cn (.bool true)]] .ret)))⟩
theorem YEz:Yg YE8 Tryz.f71=some v71:=by kernel_rfl
def divL:Nat->Int->Int->Int->Int->Int
 |0,_,_,_,s=>s
 |f+1,b,n,num,s=>if n.tmod b=0 then divL f b (IntKind.i64.wrap (n.tdiv b)) num (IntKind.i64.wrap (s+num))else s
def sumB(l:List (Int×Int))(b:Nat):Int:=l.foldl (fun s x=>divL 64 b x.1 x.2 s) 0
def oneF(l:List (Int×Int)):Bool:=(YhS l).all fun b=>decide (sumB l b=0)
theorem YcE{B:Nat}:∀{f:Nat}{wait out:List Nat},DrOk B f wait out->(∀x,x∈Ycf f wait out->2<=x/\x<=1099511627776)/\Yn (Yq (Ycf f wait out))<=B
 |0,wait,out,h=>by
  rw[Ycf]
  have hw:wait=[]:=List.length_eq_zero_iff.1 (by have:=h.mu;omega)
  have:=h.pb
  rw[hw,show Yq out*Yq []=Yq out from YGb _]at this
  exact⟨h.op,this⟩
 |f+1,wait,out,h=>by
  rw[Ycf]
  by_cases hw:wait.length=0
  ·rw[if_pos hw]
   have hw:wait=[]:=List.length_eq_zero_iff.1 hw
   have:=h.pb
   rw[hw,show Yq out*Yq []=Yq out from YGb _]at this
   exact⟨h.op,this⟩
  ·rw[if_neg hw]
   by_cases h1:wait.getD (wait.length-1) 0=1
   ·rw[if_pos h1]
    obtain⟨g,hg,hd⟩:=h.pop hw h1
    obtain rfl:f=g:=by omega
    exact YcE hd
   ·rw[if_neg h1]
    by_cases h2:hitF out (wait.getD (wait.length-1) 0)<out.length
    ·rw[if_pos h2]
     have hs:=(Ycl (f:=fun i=>decide (1<YF1 (out.getD i 0) (wait.getD (wait.length-1) 0))) out.length 0).2.2.2 (by simpa [hitF]using h2)
     obtain⟨g,hg,hd⟩:=h.hit hw h2 (of_decide_eq_true hs)
     obtain rfl:f=g:=by omega
     exact YcE hd
    ·rw[if_neg h2]
     obtain⟨g,hg,hd⟩:=h.push hw h1
     obtain rfl:f=g:=by omega
     exact YcE hd
theorem YfQ{l:List (Int×Int)}(hl:∀x,x∈l->okT x)(hn:l.length<=20):∀x,x∈YhS l->2<=x/\x<=1099511627776:=by
 have key:∀i,i<=l.length->(∀x,x∈(l.take i).foldl Ya7 []->2<=x/\x<=1099511627776)/\Yn (Yq ((l.take i).foldl Ya7 []))<=40*i+1:=fun i=>by
  induction i with
  |zero=>exact fun _=>⟨fun x hx=>absurd hx (by simp),by simp [Yq];decide⟩
  |succ i ih=>
   intro hi
   obtain⟨h1,h2⟩:=ih (by omega)
   have hx:=hl _ (Yl (by omega:i<l.length))
   rw[Yp (by omega)]
   obtain⟨q0,q1,q2,q3⟩:=hx
   exact YcE (DrOk.start (by omega) (by omega) h1 h2 (by omega))
 have:=(key l.length (YFk _)).1
 rwa [YF4]at this
theorem Ypk(l:List (Int×Int)):(YhS l).length<=3000*l.length:=by
 have key:∀(l:List (Int×Int))(out:List Nat),(l.foldl Ya7 out).length<=out.length+3000*l.length:=fun l=>by
  induction l with
  |nil=>intro out;simp
  |cons x l ih=>
   intro out
   have h1:=ih (Ya7 out x)
   have h2:(Ya7 out x).length<=out.length+3000:=YpR
   rw[List.foldl_cons,YF6]
   omega
 have h:=key l []
 rw[List.length_nil,YGh]at h
 exact h
def oneC:Ctr:={ alias:=false,of:=fun l=>match l with
 | [.vs _ _ n sz get]=> .ex (List (Int×Int)) fun l=> .pre (lsP 2 enc2 n sz get l/\(∀x,x∈l->okT x)/\n<=20) (.fin (.bool (oneF l)) [])
 |_=> .pre False (.fin (.bool false) [])}
def RA9:Env:={ ct:=fun n=>match n with|102=>some baseC|_=>none,fn:=fun _=>none,meth:=fun _ _=>none}
theorem Yjc:RA9.ct 102=some baseC:=rfl
theorem YAE:Yu YE8 RA9:=by
 refine⟨fun f c h=>?_,fun f vf h=>?_,(fun _ _ _ h=>by cases h),by kernel_rfl,(fun _ h=>by cases h)⟩
 ·simp only[RA9]at h
  split at h
  ·cases h;exact⟨YAZ,Tryz.f102,Tryz.func102,by kernel_rfl,by kernel_rfl⟩
  ·cases h
 ·cases h
theorem YCx:oneC.ok YE8 71:=by
 refine Yb Tryz.func71 YEz YAE 500 oneC fun args k h=>?_
 simp only[oneC]at h
 split at h
 ·rename_i tt z n sz get
  obtain⟨l,⟨⟨rfl,rfl,hg⟩,hl,hn⟩,h⟩:=h
  refine⟨[.vs tt z l.length 2 (fun k=>enc2 (l.getD k default))],⟨⟨id,rfl,rfl,rfl,hg⟩,trivial⟩,?_⟩
  dsimp only[v71,Yjc,baseC,enc2,go_sem,reduceIte]
  simp only[Yd,YE5,YE3,reduceCtorEq,YE2]
  refine⟨l,⟨⟨rfl,rfl,fun k hk=>Yc _⟩,hl,hn⟩,fun y=>?_⟩
  have hbr:=YfQ hl hn
  have hbl:=Ypk l
  obtain⟨B,hB⟩:∃B,B=YhS l:=⟨_,rfl⟩
  rw[<-hB]at hbr hbl⊢
  have hone:oneF l=B.all fun b=>decide (sumB l b=0):=by rw[hB];rfl
  refine Loop.keep [0,9,0] Nat (fun i=>[(12,.int .i64 i)]) (fun _=>[]) [] (fun i=>i<=B.length/\((B.take i).all fun b=>decide (sumB l b=0))=true) (fun i=>B.length-i) ?_ ?_
  ·refine⟨0,⟨by omega,rfl⟩,?_⟩
   dsimp only[go_sem,reduceIte]
   simp only[Ya]
   rfl
  ·rintro i ⟨hi,hall⟩
   dsimp only[Yjc,baseC,encB,enc2,YE4,go_sem,reduceIte]
   simp only[Yd,YE5,YE3,reduceCtorEq,YE2]
   refine⟨fun hlt=>⟨⟨by omega,by omega⟩,?_⟩,fun hge=>?_⟩
   ·have hb:2<=B.getD i 0/\B.getD i 0<=1099511627776:=hbr _ (Yl (l:=B) (i:=i) (by omega))
    have hsucc:((B.take (i+1)).all fun b=>decide (sumB l b=0))=decide (sumB l (B.getD i 0)=0):=by
     rw[Yen (by omega),hall,YGm];rfl
    have hmemb:B.getD i 0∈B:=Yl (l:=B) (i:=i) (by omega)
    obtain⟨b,hbe⟩:∃b,b=B.getD i 0:=⟨_,rfl⟩
    rw[<-hbe]at hb hsucc hmemb⊢
    refine Loop.keep [0,3,5,0,0,3,0] (Nat×Int) (fun s=>[(5,.int .i64 s.2),(18,.int .i64 s.1)]) (fun _=>[]) [] (fun s=>s.1<=l.length/\s.2=(l.take s.1).foldl (fun s x=>divL 64 b x.1 x.2 s) 0) (fun s=>l.length-s.1) ?_ ?_
    ·refine⟨(0,0),⟨by simp only;omega,rfl⟩,?_⟩
     dsimp only[go_sem,reduceIte]
     simp only[Ya]
     rfl
    ·rintro⟨t,S⟩ ⟨ht,hS⟩
     dsimp only at ht hS
     dsimp only[enc2,YE4,go_sem,reduceIte]
     simp only[Yd,YE5,YE3,reduceCtorEq,YE2]
     refine⟨fun hlt2=>⟨⟨by omega,by omega⟩,?_⟩,fun hge2=>?_⟩
     ·have hx:=hl _ (Yl (by omega:t<l.length))
      have hst:(l.take (t+1)).foldl (fun s x=>divL 64 b x.1 x.2 s) 0=divL 64 b (l.getD t default).1 (l.getD t default).2 S:=by
       rw[Yp (by omega),<-hS]
      generalize l.getD t default=x at hx hst⊢
      obtain⟨q0,q1,q2,q3⟩:=hx
      obtain⟨R,hR⟩:∃R,R=divL 64 b x.1 x.2 S:=⟨_,rfl⟩
      rw[<-hR]at hst
      refine Loop.keep [0,3,2,2,0,0,3,0,0] (Nat×Int×Int) (fun s=>[(5,.int .i64 s.2.2),(8,.int .i64 s.2.1)]) (fun _=>[]) [] (fun s=>R=divL s.1 b s.2.1 x.2 s.2.2/\1<=s.2.1/\s.2.1<2^s.1/\s.2.1<=1000000000001) (fun s=>s.1) ?_ ?_
      ·refine⟨(64,x.1,S),⟨hR,q0,by simp only;omega,q1⟩,?_⟩
       dsimp only[go_sem,reduceIte]
       simp only[Ya]
       decide
      ·rintro⟨f,n,S'⟩ ⟨hf,n0,n1,n2⟩
       dsimp only at hf n0 n1 n2
       dsimp only[go_sem,reduceIte]
       simp only[Yd,YE5,YE3,reduceCtorEq,YE2]
       obtain⟨m,rfl⟩:=YFW (by omega:0<=n)
       obtain⟨g,rfl⟩:∃g,f=g+1:=by
        cases f with
        |zero=>simp at n1;omega
        |succ g=>exact⟨g,rfl⟩
       rw[divL]at hf
       refine⟨by omega,fun hc=>⟨by omega,?_⟩,fun hc=>?_⟩
       ·rw[if_pos hc]at hf
        have e1:(m:Int).tmod (b:Int)=((m%b:Nat):Int):=YGr rfl rfl
        have e2:(m:Int).tdiv (b:Int)=((m/b:Nat):Int):=YGg rfl rfl
        rw[e1]at hc
        have hdm:=YFH m b
        rw[show m%b=0 by omega,YF8]at hdm
        have hq1:1<=m/b:=Nat.pos_of_ne_zero fun hh=>by rw[hh,Nat.mul_zero]at hdm;omega
        have hq2:2*(m/b)<=m:=by
         have:2*(m/b)<=b*(m/b):=YE9 _ hb.1
         omega
        rw[e2]at hf⊢
        generalize m/b=q at hq1 hq2 hf⊢
        have eq:IntKind.i64.wrap (q:Int)=(q:Int):=YE7 _ (by omega)
        rw[eq]at hf⊢
        have n1':m<2^g*2:=by rw[<-YFm];exact_mod_cast n1
        refine⟨(g,q,IntKind.i64.wrap (S'+x.2)),⟨hf,by simp only;omega,?_,by simp only;omega⟩,by simp only;omega,?_⟩
        ·show(q:Int)<2^g
         have:q<2^g:=by omega
         exact_mod_cast this
        ·simp only[Ya]
         decide
       ·rw[if_neg hc]at hf
        refine⟨(t+1,S'),⟨by simp only;omega,by rw[hst,hf]⟩,by simp only;omega,?_⟩
        rw[YE7 ((t:Int)+1) (by omega)]
        simp only[Ya]
        simp
     ·obtain rfl:t=l.length:=by omega
      rw[YF4]at hS
      have hS:S=sumB l b:=hS
      refine⟨fun hc=>?_,fun hc=>⟨i+1,⟨by omega,?_⟩,by omega,?_⟩⟩
      ·have:oneF l=false:=by
        rw[hone,List.all_eq_false]
        exact⟨b,hmemb,by rw[<-hS];simpa using hc⟩
       rw[this]at h
       exact YO h
      ·rw[hsucc,<-hS];exact decide_eq_true hc
      ·rw[YE7 ((i:Int)+1) (by omega)]
       simp only[Ya]
       simp
   ·obtain rfl:i=B.length:=by omega
    rw[YF4]at hall
    rw[hone,hall]at h
    exact YO h
 ·exact h.1.elim
def v69:VF:=⟨39,[.tmp 2],(ZR [Zi 2 0] (.seq (ZR [Zm 9 0,Zc 10 99 9,Zm 8 10,Ze 11 0 8,Ze 12 1 8,Zm 3 11,Zm 4 12] (ZR [Zm 13 4] (ZC 13 (ZR [Zm 14 3,Zm 2 14] .ret) .skip))) (.seq (ZR [Zm 15 0,Zc 16 71 15] (ZC 16 (ZR [Zi 2 0] .ret) .skip)) (.seq (ZR [Zi 5 64] (.block 0 (.loop (.seq (ZR [Zm 17 5,Zq 18 .leq 17 2048] (ZC 18 .skip (.exit 0))) (.seq (.block 1 (ZR [Zm 22 0,Zm 23 5,Zd 24 100 22 23,Zm 21 24,Ze 25 0 21,Ze 26 1 21,u1 6 (.alloc [.nil,.nil]) [],u1 7 (.alloc [.nil,.nil]) [],Zs 2 6 25,Zs 2 7 26] (.block 2 (ZR [Za 28 0 6,Zf 29 1 28,Za 30 1 7,Zf 31 1 30,Zd 32 101 29 31,Zm 27 32] (ZC 27 (ZR [Zi 2 1] .ret) (ZR [Za 34 0 7,Zf 35 1 34,Za 36 1 6,Zf 37 1 36,Zd 38 101 35 37,Zm 33 38] (ZC 33 (ZR [Zi 2 (-1)] .ret) .skip))))))) (.region [Zm 19 5,u1 20 (.ari .mul) [.tm 19,.cn (.int .i64 2)],Zm 5 20])))))) (ZR [Zi 2 0] .ret)))))⟩
theorem YEx:Yg YE8 Tryz.f69=some v69:=by kernel_rfl
def v66:VF:=⟨33,[.tmp 2],(ZR [Zi 2 0] (.seq (ZR [Zm 5 0,Zl 6 5,Zq 7 .gtr 6 16] (ZC 7 (ZR [Zi 2 3] .ret) .skip)) (.seq (ZR [Zm 8 0,Zl 9 8,Zi 10 0] (.block 0 (.loop (ZR [Zr 11 .lss 10 9] (.seq (ZC 11 .skip (.exit 0)) (.seq (.block 1 (ZR [Zx 12 2 8 10,Zt 13 2 12,Zn 4,Zs 2 4 13] (ZR [Za 14 0 4,Zf 15 1 14,Zq 16 .lss 15 1,Zm 17 16,Zj 18 17 false 0 4,Zh 19 17 false 1 18,u2 20 17 false (.cmp .gtr) [.tm 19,.cn (.int .i64 1000000000000)],u1 21 .or [.tm 17,.tm 20],Zm 22 21,Zj 23 22 false 1 4,Zh 24 22 false 1 23,u2 25 22 false (.cmp .lss) [.tm 24,.cn (.int .i64 (-1000000000))],u1 26 .or [.tm 22,.tm 25],Zm 27 26,Zj 28 27 false 1 4,Zh 29 27 false 1 28,u2 30 27 false (.cmp .gtr) [.tm 29,.cn (.int .i64 1000000000)],u1 31 .or [.tm 27,.tm 30]] (ZC 31 (ZR [Zi 2 2] .ret) .skip)))) (.region [Zp 32 10 1,Zm 10 32]))))))) (ZR [Zi 2 0] .ret))))⟩
theorem YEu:Yg YE8 Tryz.f66=some v66:=by kernel_rfl
def Yc4:Nat->List (Int×Int)->Nat->Int
 |0,_,_=>0
 |f+1,l,p=>if(Yb5 l p).dh<(Yb5 l p).ul then 1 else if(Yb5 l p).uh<(Yb5 l p).dl then -1 else Yc4 f l (2*p)
def YeO(l:List (Int×Int)):Int:=if(Yf9 l).2=true then(Yf9 l).1 else if oneF l=true then 0 else Yc4 6 l 64
def signC:Ctr:={ alias:=false,of:=fun l=>match l with
 | [.vs _ _ n sz get]=> .ex (List (Int×Int)) fun l=> .pre (lsP 2 enc2 n sz get l/\(∀x,x∈l->okT x)/\n<=20) (.fin (.int .i64 (YeO l)) [])
 |_=> .pre False (.fin (.int .i64 0) [])}
def okT0(x:Int×Int):Bool:=decide (x.1<1) || decide (1000000000000<x.1) || decide (x.2< -1000000000) || decide (1000000000<x.2)
def YhZ(l:List (Int×Int)):Int:=if 16<l.length then 3 else if l.any okT0=true then 2 else 0
def chkTC:Ctr:={ alias:=false,of:=fun l=>match l with
 | [.vs _ _ n sz get]=> .ex (List (Int×Int)) fun l=> .pre (lsP 2 enc2 n sz get l/\n<=9223372036854775807) (.fin (.int .i64 (YhZ l)) [])
 |_=>noC}
theorem Yux(l:List (Int×Int))(p:Nat):(Yb5 l p).ok:=by
 have key:∀(l:List (Int×Int))(s:Bnd),s.ok->(l.foldl (Yc5 p) s).ok:=fun l=>by
  induction l with
  |nil=>intro s h;exact h
  |cons x l ih=>intro s h;exact ih _ (YiZ p s x h)
 exact key l _ (by simp [Bnd.ok,nl_0])
def RB0:Env:={ ct:=fun n=>match n with|99=>some guessC|71=>some oneC|100=>some sumsC|101=>some aboveC|_=>none,fn:=fun _=>none,meth:=fun _ _=>none}
theorem YsP:RB0.ct 99=some guessC:=rfl
theorem YsO:RB0.ct 71=some oneC:=rfl
theorem YoB:RB0.ct 100=some sumsC:=rfl
theorem YoC:RB0.ct 101=some aboveC:=rfl
theorem YAF:Yu YE8 RB0:=by
 refine⟨fun f c h=>?_,fun f vf h=>?_,(fun _ _ _ h=>by cases h),by kernel_rfl,(fun _ h=>by cases h)⟩
 ·simp only[RB0]at h
  split at h
  ·cases h;exact⟨Yxz,Tryz.f99,Tryz.func99,by kernel_rfl,by kernel_rfl⟩
  ·cases h;exact⟨YCx,Tryz.f71,Tryz.func71,by kernel_rfl,by kernel_rfl⟩
  ·cases h;exact⟨YDQ,Tryz.f100,Tryz.func100,by kernel_rfl,by kernel_rfl⟩
  ·cases h;exact⟨YkV,Tryz.f101,Tryz.func101,by kernel_rfl,by kernel_rfl⟩
  ·cases h
 ·cases h
theorem YDM:signC.ok YE8 69:=by
 refine Yb Tryz.func69 YEx YAF 500 signC fun args k h=>?_
 simp only[signC]at h
 split at h
 ·rename_i tt z n sz get
  obtain⟨l,⟨⟨rfl,rfl,hg⟩,hl,hn⟩,h⟩:=h
  refine⟨[.vs tt z l.length 2 (fun k=>enc2 (l.getD k default))],⟨⟨id,rfl,rfl,rfl,hg⟩,trivial⟩,?_⟩
  dsimp only[v69,YsP,YsO,guessC,oneC,enc2,go_sem,reduceIte]
  simp only[Yd,YE5,YE3,reduceCtorEq,YE2]
  have hself:lsP 2 enc2 l.length 2 (fun k=>[SV.int IntKind.i64 (l.getD k default).fst,SV.int IntKind.i64 (l.getD k default).snd]) l:=⟨rfl,rfl,fun k _=>Yc _⟩
  refine⟨l,⟨hself,hl,by omega⟩,by decide,by decide,fun hc=>?_,fun hc=>⟨l,⟨hself,hl,hn⟩,fun hd=>?_,fun hd=>?_⟩⟩
  ·rw[YeO,if_pos hc]at h;exact Yh h
  ·rw[YeO,if_neg (by rw[hc];decide),if_pos hd]at h;exact Yh h
  ·rw[YeO,if_neg (by rw[hc];decide),if_neg (by rw[hd];decide)]at h
   obtain⟨R,hR⟩:∃R,R=Yc4 6 l 64:=⟨_,rfl⟩
   rw[<-hR]at h
   refine Loop.keep [0] (Nat×Nat) (fun s=>[(5,.int .i64 s.2)]) (fun _=>[]) [] (fun s=>R=Yc4 s.1 l s.2/\s.2*2^s.1=4096/\64<=s.2) (fun s=>s.1) ?_ ?_
   ·refine⟨(6,64),⟨hR,by decide,by decide⟩,?_⟩
    dsimp only[go_sem,reduceIte]
    simp only[Ya]
    rfl
   ·rintro⟨f,p⟩ ⟨hf,hp,hp64⟩
    dsimp only at hf hp hp64
    dsimp only[YoB,YoC,sumsC,aboveC,natS,go_sem,reduceIte]
    simp only[Yd,YE5,YE3,reduceCtorEq,YE2]
    obtain⟨k1,k2,k3,k4⟩:=Yux l p
    have hfd:p<=2048->∃g,f=g+1:=fun hpl=>by
     rcases YFB f with h0|h0
     ·rw[h0,YGn,YGb]at hp;omega
     ·exact⟨f-1,by omega⟩
    have hf0:¬p<=2048->f=0:=fun hpl=>by
     rcases YFB f with h0|h0
     ·exact h0
     ·obtain⟨g,rfl⟩:∃g,f=g+1:=⟨f-1,by omega⟩
      rw[YFm]at hp
      have:1<=2^g:=YF g
      have:p*2<=p*(2^g*2):=YFe _ (by omega)
      omega
    refine⟨fun hc=>⟨l,p,⟨hself,hl,by omega,rfl,by omega⟩,fun y1 y2 y3 y4=>⟨by decide,by decide,(Yb5 l p).ul,(Yb5 l p).dh,⟨Yr k1,Yr k4⟩,fun hd=>?_,fun hd=>⟨(Yb5 l p).dl,(Yb5 l p).uh,⟨Yr k3,Yr k2⟩,fun he=>?_,fun he=>?_⟩⟩⟩,fun hc=>?_⟩
    ·obtain⟨g,rfl⟩:=hfd (by omega)
     rw[Yc4,if_pos hd]at hf
     rw[hf]at h;exact Yh h
    ·obtain⟨g,rfl⟩:=hfd (by omega)
     rw[Yc4,if_neg hd,if_pos he]at hf
     rw[hf]at h;exact Yh h
    ·obtain⟨g,rfl⟩:=hfd (by omega)
     rw[Yc4,if_neg hd,if_neg he]at hf
     rw[YFm]at hp
     have hp2:2*p*2^g=4096:=by rw[<-hp,YFc 2 p,YFg,YFc 2]
     refine⟨(g,2*p),⟨hf,hp2,by simp only;omega⟩,by simp only;omega,?_⟩
     rw[show IntKind.i64.wrap ((p:Int)*2)=((2*p:Nat):Int)by rw[YE7 _ (by omega)];omega]
     simp only[Ya]
    ·obtain rfl:=hf0 (by omega)
     rw[Yc4]at hf
     rw[hf]at h;exact Yh h
 ·exact h.1.elim
def RB1:Env:={ ct:=fun _=>none,fn:=fun _=>none,meth:=fun _ _=>none}
theorem YAG:Yu YE8 RB1:=by
 refine⟨fun f c h=>?_,fun f vf h=>?_,(fun _ _ _ h=>by cases h),by kernel_rfl,(fun _ h=>by cases h)⟩
 ·cases h
 ·cases h
theorem YA8:chkTC.ok YE8 66:=by
 refine Yb Tryz.func66 YEu YAG 500 chkTC fun args k h=>?_
 simp only[chkTC]at h
 split at h
 ·rename_i tt z n sz get
  obtain⟨l,⟨⟨rfl,rfl,hg⟩,hn⟩,h⟩:=h
  refine⟨[.vs tt z l.length 2 (fun k=>enc2 (l.getD k default))],⟨⟨id,rfl,rfl,rfl,hg⟩,trivial⟩,?_⟩
  dsimp only[v66,enc2,go_sem,reduceIte]
  simp only[Yd,YE5,YE3,reduceCtorEq,YE2]
  refine⟨fun hc=>?_,fun hc=>?_⟩
  ·rw[YhZ,if_pos (by omega)]at h;exact Yh h
  ·rw[YhZ,if_neg (by omega)]at h
   refine Loop.keep [0,7,0] Nat (fun i=>[(10,.int .i64 i)]) (fun _=>[]) [] (fun i=>i<=l.length/\(l.take i).any okT0=false) (fun i=>l.length-i) ?_ ?_
   ·refine⟨0,⟨by omega,rfl⟩,?_⟩
    dsimp only[go_sem,reduceIte]
    simp only[Ya]
    rfl
   ·rintro i ⟨hi,hall⟩
    dsimp only[enc2,YE4,go_sem,reduceIte]
    simp only[Yd,YE5,YE3,reduceCtorEq,YE2]
    refine⟨fun hlt=>⟨⟨by omega,by omega⟩,fun hc=>?_,fun hc=>⟨i+1,⟨by omega,?_⟩,by omega,?_⟩⟩,fun hge=>?_⟩
    ·have:l.any okT0=true:=List.any_eq_true.2 ⟨_,Yl (by omega:i<l.length),hc⟩
     rw[if_pos this]at h
     exact Yh h
    ·rw[Yeo (by omega),hall,Bool.false_or];exact hc
    ·rw[YE7 ((i:Int)+1) (by omega)]
     simp only[Ya]
     simp
    ·obtain rfl:i=l.length:=by omega
     rw[YF4]at hall
     rw[if_neg (by rw[hall];decide)]at h
     exact Yh h
 ·exact h.1.elim
def v42:VF:=⟨54,[.tmp 6,.tmp 7,.tmp 8],(ZR [u1 5 .box [.tm 2],Zi 6 0,u1 7 .mov [.cn (.bool false)],Zi 8 0] (.seq (ZR [Zm 13 1,Zc 14 66 13,Zm 9 14] (ZR [Zm 15 9,Zq 16 .neq 15 0] (ZC 16 (ZR [Zm 17 9,Zi 6 0,u1 7 .mov [.cn (.bool false)],Zm 8 17] .ret) .skip))) (.seq (ZR [Zf 18 1 5,Zq 19 .lss 18 1,Zm 20 19,Zh 21 20 false 1 5,u2 22 20 false (.cmp .gtr) [.tm 21,.cn (.int .i64 1000000)],u1 23 .or [.tm 20,.tm 22],Zm 24 23,Zg 25 24 false 0,u2 26 24 false (.cmp .lss) [.tm 25,.cn (.int .i64 1)],u1 27 .or [.tm 24,.tm 26],Zm 28 27,Zg 29 28 false 0,u2 30 28 false (.cmp .gtr) [.tm 29,.cn (.int .i64 1000000000000)],u1 31 .or [.tm 28,.tm 30]] (ZC 31 (ZR [Zi 6 0,u1 7 .mov [.cn (.bool false)],Zi 8 2] .ret) .skip)) (.seq (.drawT [(10,.box [.nil])] (.ops [Zu 32 1] (.ops [Zu 34 0] (.ops [Zv 35 1 5] (.ops [w1 36 (.build [(.int .i64 0),(.int .i64 0)] [(0,1),(1,1)]) [.tm 34,.tm 35]] (.ops [] (.br (.ops [⟨u1 33 (.append 2 16 [(.int .i64 0),(.int .i64 0)]) [.cn .nil,.tm 32],[.tm 0,.tm 34,.tm 5,.tm 35,.tm 34,.tm 35,.tm 36]⟩] (.ops [w1 37 (.buildSlice 2 1 [(.int .i64 0),(.int .i64 0)] [(0,2)]) [.tm 36]] (.ops [w1 38 (.append 2 16 [(.int .i64 0),(.int .i64 0)]) [.tm 33,.tm 37]] (.ops [ZS 1 10 38] .leaf)))) (.ops [w1 37 (.buildSlice 2 1 [(.int .i64 0),(.int .i64 0)] [(0,2)]) [.tm 36]] (.ops [⟨u1 33 (.append 2 16 [(.int .i64 0),(.int .i64 0)]) [.cn .nil,.tm 32],[.tm 0,.tm 34,.tm 5,.tm 35,.tm 34,.tm 35,.tm 36]⟩] (.ops [w1 38 (.append 2 16 [(.int .i64 0),(.int .i64 0)]) [.tm 33,.tm 37]] (.ops [ZS 1 10 38] .leaf))))))))))) (ZR [u1 39 (.mkfn (.func 67) 0) [.tm 10,.tm 5],u1 11 (.alloc [(.val .nilFunc)]) [],Zs 1 11 39] (ZR [u1 40 (.mkfn (.func 68) 0) [.tm 11],Zm 12 40] (.seq (ZR [Zm 41 12,u1 42 .callv [.tm 41,.cn (.int .i64 1000000000001)]] (ZC 42 (ZR [Zi 6 0,u1 7 .mov [.cn (.bool false)],Zi 8 7] .ret) .skip)) (ZR [Zm 43 12,u1 44 (.call 70) [.cn (.int .i64 0),.cn (.int .i64 1000000000001),.tm 43],Zm 6 44] (ZR [Zm 45 6,Zm 46 6,Zq 47 .gtr 46 0,Zm 48 47,Zh 49 48 true 1 11,Zg 50 48 true 6,u2 51 48 true .callv [.tm 49,.tm 50],u2 52 48 true (.call 71) [.tm 51],u1 53 .and [.tm 48,.tm 52],Zm 6 45,Zm 7 53,Zi 8 0] .ret)))))))))⟩
theorem YEe:Yg YE8 Tryz.f42=some v42:=by kernel_rfl
def v67:VF:=⟨17,[.tmp 4],(ZR [u1 4 .mov [.cn .nil]] (.seq (.draw [] [Zv 5 1 1,Zv 6 1 1,w1 7 .len [.tm 6],Zv 8 1 1,w1 9 .len [.tm 8],w1 10 (.slice3 2) [.tm 5,.tm 7,.tm 9],Zu 11 0,Zv 12 1 2,w1 13 .neg [.tm 12],w1 14 (.build [(.int .i64 0),(.int .i64 0)] [(0,1),(1,1)]) [.tm 11,.tm 13],w1 15 (.buildSlice 2 1 [(.int .i64 0),(.int .i64 0)] [(0,2)]) [.tm 14],w1 16 (.append 2 16 [(.int .i64 0),(.int .i64 0)]) [.tm 10,.tm 15],Zu 4 16]) .ret))⟩
theorem YEv:Yg YE8 Tryz.f67=some v67:=by kernel_rfl
def v68:VF:=⟨13,[.tmp 3],(ZR [u1 3 .mov [.cn (.bool false)]] (ZR [Zm 4 0,Zq 5 .eql 4 0,Zm 6 5,Zh 7 6 false 1 1,Zg 8 6 false 0,u2 9 6 false .callv [.tm 7,.tm 8],u2 10 6 false (.call 69) [.tm 9],u2 11 6 false (.cmp .geq) [.tm 10,.cn (.int .i64 0)],u1 12 .or [.tm 6,.tm 11],Zm 3 12] .ret))⟩
theorem YEw:Yg YE8 Tryz.f68=some v68:=by kernel_rfl
def v70:VF:=⟨24,[.tmp 6],(ZR [Zi 6 0] (.seq (.block 0 (.loop (.seq (ZR [Zm 8 1,Zm 9 0,Zo 10 .sub 8 9,Zq 11 .gtr 10 1] (ZC 11 .skip (.exit 0))) (.block 1 (ZR [Zm 12 0,Zm 13 1,Zm 14 0,Zo 15 .sub 13 14,u1 16 .quo [.tm 15,.cn (.int .i64 2)],Zo 17 .add 12 16,Zm 7 17] (ZR [Zm 18 2,Zm 19 7,u1 20 .callv [.tm 18,.tm 19]] (ZC 20 (.region [Zm 21 7,Zm 0 21]) (.region [Zm 22 7,Zm 1 22])))))))) (ZR [Zm 23 0,Zm 6 23] .ret)))⟩
theorem YEy:Yg YE8 Tryz.f70=some v70:=by kernel_rfl
def bisL:Nat->(Int->Bool)->Int->Int->Int
 |0,_,a,_=>a
 |f+1,t,a,b=>if 1<b-a then(if t (a+(b-a)/2)=true then bisL f t (a+(b-a)/2) b else bisL f t a (a+(b-a)/2))else a
def atF(all:List (Int×Int))(den k:Int):List (Int×Int):=all++[(k, -den)]
def isF(all:List (Int×Int))(den k:Int):Bool:=decide (k=0) || decide (0<=YeO (atF all den k))
def Ygo(s:Int)(l:List (Int×Int))(den:Int):Int×Bool×Int:=
 if isF (l++[(s,den)]) den 1000000000001=true then(0,false,7)
 else(bisL 64 (isF (l++[(s,den)]) den) 0 1000000000001,decide (0<bisL 64 (isF (l++[(s,den)]) den) 0 1000000000001)&&oneF (atF (l++[(s,den)]) den (bisL 64 (isF (l++[(s,den)]) den) 0 1000000000001)),0)
def prodC:Ctr:={ alias:=false,of:=fun l=>match l with
 | [.int .i64 s,.vs _ _ n sz get,.int .i64 den]=> .ex (List (Int×Int)) fun l=> .pre (lsP 2 enc2 n sz get l/\(∀x,x∈l->okT0 x=false)/\n<=16/\1<=n/\(1<=s/\s<=1000000000000)/\1<=den/\den<=1000000) (.fin (.tup [.int .i64 (Ygo s l den).1,.bool (Ygo s l den).2.1,.int .i64 (Ygo s l den).2.2]) [])
 |_=>noC}
theorem YAW{l:List (Int×Int)}{s den kk:Int}{hp:List HO}{r:List SV->List SV}{i k:Nat}(hk:k<l.length+1+1):
 leXL (Ybh false hp r (if k<l.length+1 then if k<l.length then [SV.int IntKind.i64 (l.getD k default).fst,SV.int IntKind.i64 (l.getD k default).snd]else Yj i (YI 2 (YD ((k-l.length)*2) [SV.int IntKind.i64 s,SV.int IntKind.i64 den]))else YI 2 (YD ((k-(l.length+1))*2) [SV.int IntKind.i64 kk,SV.int IntKind.i64 (-den)]))) (enc2 ((atF (l++[(s,den)]) den kk).getD k default)):=by
 unfold atF
 rw[List.append_assoc]
 by_cases h1:k<l.length
 ·rw[if_pos (by omega),if_pos h1,YFf (l:=_++_),YFK h1,<-YFf]
  exact Yc _
 ·rw[YFf (l:=_++_),YFX (by omega),if_neg h1]
  by_cases h2:k<l.length+1
  ·rw[if_pos h2,show k-l.length=0 by omega]
   exact Yc _
  ·rw[if_neg h2,show k-(l.length+1)=0 by omega,show k-l.length=1 by omega]
   exact Yc _
theorem YrI{l:List (Int×Int)}{s den:Int}{i k a b:Nat}(hk:k<l.length+1):leL a b (if k<l.length then [SV.int IntKind.i64 (l.getD k default).fst,SV.int IntKind.i64 (l.getD k default).snd]else Yj i (YI 2 (YD ((k-l.length)*2) [SV.int IntKind.i64 s,SV.int IntKind.i64 den]))) (if k<l.length then [SV.int IntKind.i64 (l.getD k default).fst,SV.int IntKind.i64 (l.getD k default).snd]else Yj i (YI 2 (YD ((k-l.length)*2) [SV.int IntKind.i64 s,SV.int IntKind.i64 den]))):=by
 by_cases h1:k<l.length
 ·rw[if_pos h1];exact⟨⟨rfl,rfl⟩,⟨rfl,rfl⟩,trivial⟩
 ·rw[if_neg h1,show k-l.length=0 by omega];exact⟨⟨rfl,rfl⟩,⟨rfl,rfl⟩,trivial⟩
theorem Yuk{s den:Int}{i k a b:Nat}(hk:k<1):leL a b (Yj i (YI 2 (YD (k*2) [SV.int IntKind.i64 s,SV.int IntKind.i64 den]))) (Yj i (YI 2 (YD (k*2) [SV.int IntKind.i64 s,SV.int IntKind.i64 den]))):=by
 obtain rfl:k=0:=by omega
 exact⟨⟨rfl,rfl⟩,⟨rfl,rfl⟩,trivial⟩
theorem Yy0{l:List (Int×Int)}{s den kk dd:Int}{i k a b:Nat}(hk:k<l.length+1+1):leL a b (if k<l.length+1 then if k<l.length then [SV.int IntKind.i64 (l.getD k default).fst,SV.int IntKind.i64 (l.getD k default).snd]else Yj i (YI 2 (YD ((k-l.length)*2) [SV.int IntKind.i64 s,SV.int IntKind.i64 den]))else YI 2 (YD ((k-(l.length+1))*2) [SV.int IntKind.i64 kk,SV.int IntKind.i64 dd])) (if k<l.length+1 then if k<l.length then [SV.int IntKind.i64 (l.getD k default).fst,SV.int IntKind.i64 (l.getD k default).snd]else Yj i (YI 2 (YD ((k-l.length)*2) [SV.int IntKind.i64 s,SV.int IntKind.i64 den]))else YI 2 (YD ((k-(l.length+1))*2) [SV.int IntKind.i64 kk,SV.int IntKind.i64 dd])):=by
 by_cases h1:k<l.length+1
 ·rw[if_pos h1];exact YrI h1
 ·rw[if_neg h1,show k-(l.length+1)=0 by omega];exact⟨⟨rfl,rfl⟩,⟨rfl,rfl⟩,trivial⟩
theorem YwF{l:List (Int×Int)}{s den kk:Int}{hp:List HO}{r:List SV->List SV}{i:Nat}:
 lsP 2 enc2 (l.length+1+1) 2 (fun k=>Ybh false hp r (if k<l.length+1 then if k<l.length then [SV.int IntKind.i64 (l.getD k default).fst,SV.int IntKind.i64 (l.getD k default).snd]else Yj i (YI 2 (YD ((k-l.length)*2) [SV.int IntKind.i64 s,SV.int IntKind.i64 den]))else YI 2 (YD ((k-(l.length+1))*2) [SV.int IntKind.i64 kk,SV.int IntKind.i64 (-den)]))) (atF (l++[(s,den)]) den kk):=
 ⟨rfl,by simp [atF],fun k hk=>YAW hk⟩
theorem YwG{l:List (Int×Int)}{s den kk:Int}(hl:∀x,x∈l->okT0 x=false)(hs:1<=s/\s<=1000000000000)(hd:1<=den/\den<=1000000)(hk:1<=kk/\kk<=1000000000001):∀x,x∈atF (l++[(s,den)]) den kk->okT x:=by
 intro x hx
 unfold atF at hx
 rw[YFM,YFM,YFO,YFO]at hx
 rcases hx with(hx|rfl) |rfl
 ·have:=hl x hx
  unfold okT0 at this
  simp only[Bool.or_eq_false_iff,decide_eq_false_iff_not]at this
  unfold okT
  omega
 ·simp only[okT];omega
 ·simp only[okT];omega
theorem Ypi{l:List (Int×Int)}{s den:Int}{i k:Nat}(hk:k<l.length+1):lenL (if k<l.length then [SV.int IntKind.i64 (l.getD k default).fst,SV.int IntKind.i64 (l.getD k default).snd]else Yj i (YI 2 (YD ((k-l.length)*2) [SV.int IntKind.i64 s,SV.int IntKind.i64 den])))=2/\ones (if k<l.length then [SV.int IntKind.i64 (l.getD k default).fst,SV.int IntKind.i64 (l.getD k default).snd]else Yj i (YI 2 (YD ((k-l.length)*2) [SV.int IntKind.i64 s,SV.int IntKind.i64 den]))):=by
 by_cases h1:k<l.length
 ·rw[if_pos h1];exact⟨rfl,trivial,trivial,trivial⟩
 ·rw[if_neg h1,show k-l.length=0 by omega];exact⟨rfl,trivial,trivial,trivial⟩
theorem YiG{a b:Int}{k:Nat}(hk:k<1):lenL (YI 2 (YD (k*2) [SV.int IntKind.i64 a,SV.int IntKind.i64 b]))=2/\ones (YI 2 (YD (k*2) [SV.int IntKind.i64 a,SV.int IntKind.i64 b])):=by
 obtain rfl:k=0:=by omega
 exact⟨rfl,trivial,trivial,trivial⟩
def RB2:Env:={ ct:=fun n=>match n with|66=>some chkTC|69=>some signC|71=>some oneC|_=>none,fn:=fun n=>match n with|67=>some v67|68=>some v68|70=>some v70|_=>none,meth:=fun _ _=>none}
theorem YsQ:RB2.ct 66=some chkTC:=rfl
theorem Yl2:RB2.ct 69=some signC:=rfl
theorem YsS:RB2.ct 71=some oneC:=rfl
theorem Yl0:RB2.ct 67=none:=rfl
theorem Yl3:RB2.fn 67=some v67:=rfl
theorem Yl1:RB2.ct 68=none:=rfl
theorem Yl4:RB2.fn 68=some v68:=rfl
theorem YsR:RB2.ct 70=none:=rfl
theorem YsT:RB2.fn 70=some v70:=rfl
theorem YAH:Yu YE8 RB2:=by
 refine⟨fun f c h=>?_,fun f vf h=>?_,(fun _ _ _ h=>by cases h),by kernel_rfl,(fun _ h=>by cases h)⟩
 ·simp only[RB2]at h
  split at h
  ·cases h;exact⟨YA8,Tryz.f66,Tryz.func66,by kernel_rfl,by kernel_rfl⟩
  ·cases h;exact⟨YDM,Tryz.f69,Tryz.func69,by kernel_rfl,by kernel_rfl⟩
  ·cases h;exact⟨YCx,Tryz.f71,Tryz.func71,by kernel_rfl,by kernel_rfl⟩
  ·cases h
 ·simp only[RB2]at h
  split at h
  ·cases h;exact⟨Tryz.f67,Tryz.func67,YEv,Tryz.f67,Tryz.func67,by kernel_rfl,by kernel_rfl⟩
  ·cases h;exact⟨Tryz.f68,Tryz.func68,YEw,Tryz.f68,Tryz.func68,by kernel_rfl,by kernel_rfl⟩
  ·cases h;exact⟨Tryz.f70,Tryz.func70,YEy,Tryz.f70,Tryz.func70,by kernel_rfl,by kernel_rfl⟩
  ·cases h
theorem Ymf{k:SV->List HO->Prop}{al:Bool}{hp:List HO}{κ κ':IntKind}{x e:Int}{b:Bool}(h:k (.tup [.int κ x,.bool b,.int κ' e]) []):YK al k (.tup [.int κ x,.bool b,.int κ' e]) hp:=
 YE (show k _ []from h) (YB (.tup [.int κ x,.bool b,.int κ' e]) ⟨trivial,trivial,trivial,trivial⟩) (fun _=>by simp [Yt,Ys])
theorem YCI:prodC.ok YE8 42:=by
 refine Yb Tryz.func42 YEe YAH 800 prodC fun args k h=>?_
 simp only[prodC]at h
 split at h
 ·rename_i s tt z n sz get den
  obtain⟨l,⟨⟨rfl,rfl,hg⟩,hl,hn,hn1,hs,hd⟩,h⟩:=h
  refine⟨[.int .i64 s,.vs tt z l.length 2 (fun k=>enc2 (l.getD k default)),.int .i64 den],⟨⟨rfl,rfl⟩,⟨id,rfl,rfl,rfl,hg⟩,⟨rfl,rfl⟩,trivial⟩,?_⟩
  dsimp only[v42,YsQ,chkTC,enc2,go_sem,reduceIte]
  simp only[Yd,YE5,YE3,reduceCtorEq,YE2]
  have hnd:IntKind.i64.wrap (0-den)= -den:=by rw[YE7 _ (by omega)];omega
  have hchk:YhZ l=0:=by
   have:l.any okT0=false:=by rw[List.any_eq_false];exact fun x hx=>by rw[hl x hx];decide
   rw[YhZ,if_neg (by omega),if_neg (by rw[this];decide)]
  refine⟨l,⟨⟨rfl,rfl,fun k _=>Yc _⟩,by omega⟩,fun hh=>absurd hchk hh,fun _=>⟨fun hh=>?_,fun _=>⟨⟨by unfold YN;omega,by decide,⟨by unfold YN;omega,fun k hk=>?_⟩,?_⟩,by decide,by unfold YN;omega,⟨by unfold YN;omega,fun k hk=>?_⟩,?_⟩⟩⟩
  ·rw[decide_eq_false (by omega:¬den<1),decide_eq_false (by omega:¬1000000<den),decide_eq_false (by omega:¬s<1),decide_eq_false (by omega:¬1000000000000<s)]at hh
   cases hh
  all_goals (try exact YiG hk)
  all_goals
   dsimp only[Yl1,Yl4,v68,Yl0,Yl3,v67,Yl2,signC,go_sem,reduceIte]
   simp only[Yd,YE5,YE3,reduceCtorEq,YE2]
   rw[hnd]
   simp only[YE4]
   have hK:(1:Int)<=1000000000001/\(1000000000001:Int)<=1000000000001:=by decide
   refine⟨fun _=>⟨⟨by omega,by omega⟩,by decide,⟨by decide,by unfold YN;omega,fun k hk=>Ypi hk,fun k hk=>YiG hk⟩,atF (l++[(s,den)]) den 1000000000001,fun _=>⟨YwF,YwG hl hs ⟨hd.1,hd.2⟩ hK,by omega⟩,fun hc=>?_,fun hc=>?_⟩,fun hh=>absurd hh (by decide)⟩
   ·have hc:isF (l++[(s,den)]) den 1000000000001=true:=hc
    rw[Ygo,if_pos hc]at h
    exact Ymf h
   ·have hc:isF (l++[(s,den)]) den 1000000000001=false:=hc
    rw[Ygo,if_neg (by rw[hc];decide)]at h
    dsimp only[YsR,YsT,v70,go_sem,reduceIte]
    simp only[Yd,YE5,YE3,reduceCtorEq,YE2]
    obtain⟨t,ht⟩:∃t,t=isF (l++[(s,den)]) den:=⟨_,rfl⟩
    obtain⟨R,hR⟩:∃R,R=bisL 64 t 0 1000000000001:=⟨_,rfl⟩
    rw[<-ht,<-hR]at h
    refine Loop.keep [2] (Nat×Int×Int) (fun s=>[(0,.int .i64 s.2.1),(1,.int .i64 s.2.2)]) (fun _=>[]) [] (fun s=>R=bisL s.1 t s.2.1 s.2.2/\0<=s.2.1/\s.2.1<s.2.2/\s.2.2<=1000000000001/\s.2.2-s.2.1<=2^s.1) (fun s=>s.1) ?_ ?_
    ·refine⟨(64,0,1000000000001),⟨hR,by decide,by decide,by decide,by decide⟩,?_⟩
     dsimp only[go_sem,reduceIte]
     simp only[Ya]
     repeat' apply YFy
     all_goals first|decide| (intro k hk;first|exact YrI hk|exact Yuk hk|exact Yy0 hk)
    ·rintro⟨f,lo,hi⟩ ⟨hf,b0,b1,b2,b3⟩
     dsimp only at hf b0 b1 b2 b3
     dsimp only[Yl1,Yl4,v68,Yl0,Yl3,v67,Yl2,YsS,signC,oneC,go_sem,reduceIte]
     simp only[Yd,YE5,YE3,reduceCtorEq,YE2]
     rw[hnd]
     simp only[YE4]
     have ed:IntKind.i64.wrap (hi-lo)=hi-lo:=YE7 _ (by omega)
     have e2:IntKind.i64.wrap ((hi-lo).tdiv 2)=(hi-lo)/2:=by
      rw[Int.tdiv_eq_ediv_of_nonneg (by omega),YE7 _ (by omega)]
     have e3:IntKind.i64.wrap (lo+(hi-lo)/2)=lo+(hi-lo)/2:=YE7 _ (by omega)
     rw[ed,e2,e3]
     refine⟨fun hc1=>?_,fun hc1=>?_⟩
     ·obtain⟨m,hm⟩:∃m,m=lo+(hi-lo)/2:=⟨_,rfl⟩
      rw[<-hm]
      obtain⟨g,rfl⟩:∃g,f=g+1:=by
       cases f with
       |zero=>simp at b3;omega
       |succ g=>exact⟨g,rfl⟩
      rw[bisL,if_pos hc1,<-hm]at hf
      have b4:hi-lo<=2^g*2:=by rw[<-Int.pow_succ];exact b3
      have hm0:¬m=0:=by omega
      refine⟨by decide,fun _=>⟨⟨by omega,by omega⟩,by decide,⟨by decide,by unfold YN;omega,fun k hk=>Ypi hk,fun k hk=>YiG hk⟩,atF (l++[(s,den)]) den m,fun _=>⟨YwF,YwG hl hs ⟨hd.1,hd.2⟩ (by omega),by omega⟩,fun hd1=>?_,fun hd1=>?_⟩,fun hh=>absurd hh hm0⟩
      ·have hd1:t m=true:=by rw[ht];exact hd1
       rw[if_pos hd1]at hf
       refine⟨(g,m,hi),⟨hf,by simp only;omega,by simp only;omega,b2,by simp only;omega⟩,by simp only;omega,?_⟩
       simp only[Ya]
       repeat' apply YFy
       all_goals first|decide| (intro k hk;first|exact YrI hk|exact Yuk hk|exact Yy0 hk)
      ·have hd1:t m=false:=by rw[ht];exact hd1
       rw[if_neg (by rw[hd1];decide)]at hf
       refine⟨(g,lo,m),⟨hf,by simp only;omega,by simp only;omega,by simp only;omega,by simp only;omega⟩,by simp only;omega,?_⟩
       simp only[Ya]
       repeat' apply YFy
       all_goals first|decide| (intro k hk;first|exact YrI hk|exact Yuk hk|exact Yy0 hk)
     ·have hRlo:R=lo:=by
       cases f with
       |zero=>exact hf
       |succ g=>rw[hf,bisL,if_neg hc1]
      subst hRlo
      refine⟨fun hp=>⟨⟨by omega,by omega⟩,by decide,⟨by decide,by unfold YN;omega,fun k hk=>Ypi hk,fun k hk=>YiG hk⟩,atF (l++[(s,den)]) den R,fun _=>⟨YwF,YwG hl hs ⟨hd.1,hd.2⟩ (by omega),by omega⟩,Ymf h⟩,fun hp=>⟨fun hh=>absurd hh hp,?_⟩⟩
      rw[decide_eq_false hp,YGi]at h⊢
      exact Ymf h
 ·exact h.1.elim
abbrev Iv:=Int×Int
def Ya4(x:Int):Bool:=decide (-4611686018427387904<=x)&&decide (x<=4611686018427387904)
def ivE(l:List Iv):Int:=if l.all (fun a=>Ya4 a.1&&Ya4 a.2)then(if l.all (fun a=>decide (a.1<=a.2))then 0 else 2)else 7
theorem Yqo{l:List Iv}{i:Nat}(h:i<l.length)(hb:(Ya4 (l.getD i default).1&&Ya4 (l.getD i default).2)=false):ivE l=7:=by
 rw[ivE,if_neg]
 intro hall
 have:=List.all_eq_true.1 hall _ (Yl h)
 rw[hb]at this;cases this
theorem YBX{l:List Iv}(ha:∀j,j<l.length->(Ya4 (l.getD j default).1&&Ya4 (l.getD j default).2)=true){i:Nat}(h:i<l.length)(hb:(l.getD i default).2<(l.getD i default).1):ivE l=2:=by
 rw[ivE,if_pos,if_neg]
 ·intro hall
  have:=List.all_eq_true.1 hall _ (Yl h)
  simp only[decide_eq_true_eq]at this;omega
 ·refine List.all_eq_true.2 fun x hx=>?_
  obtain⟨j,hj,rfl⟩:=Ydi hx
  exact ha j hj
theorem YBW{l:List Iv}(ha:∀j,j<l.length->(Ya4 (l.getD j default).1&&Ya4 (l.getD j default).2)=true)(hb:∀j,j<l.length->(l.getD j default).1<=(l.getD j default).2):ivE l=0:=by
 rw[ivE,if_pos,if_pos]
 ·refine List.all_eq_true.2 fun x hx=>?_
  obtain⟨j,hj,rfl⟩:=Ydi hx
  simpa using hb j hj
 ·refine List.all_eq_true.2 fun x hx=>?_
  obtain⟨j,hj,rfl⟩:=Ydi hx
  exact ha j hj
theorem numOk_iff{x:Int}:Ya4 x=true↔ -4611686018427387904<=x/\x<=4611686018427387904:=by
 simp [Ya4]
theorem ivE1{a:Iv}(h:ivE [a]=0):(-4611686018427387904<=a.1/\a.1<=4611686018427387904)/\(-4611686018427387904<=a.2/\a.2<=4611686018427387904)/\a.1<=a.2:=by
 unfold ivE at h
 split at h
 ·rename_i h1
  split at h
  ·rename_i h2
   simp only[List.all_cons,List.all_nil,Bool.and_true,YFd,decide_eq_true_eq]at h1 h2
   exact⟨numOk_iff.1 h1.1,numOk_iff.1 h1.2,h2⟩
  ·cases h
 ·cases h
theorem ivE2{a b:Iv}(h:ivE [a,b]=0):((-4611686018427387904<=a.1/\a.1<=4611686018427387904)/\(-4611686018427387904<=a.2/\a.2<=4611686018427387904)/\a.1<=a.2)/\(-4611686018427387904<=b.1/\b.1<=4611686018427387904)/\(-4611686018427387904<=b.2/\b.2<=4611686018427387904)/\b.1<=b.2:=by
 unfold ivE at h
 split at h
 ·rename_i h1
  split at h
  ·rename_i h2
   simp only[List.all_cons,List.all_nil,Bool.and_true,YFd,decide_eq_true_eq]at h1 h2
   exact⟨⟨numOk_iff.1 h1.1.1,numOk_iff.1 h1.1.2,h2.1⟩,numOk_iff.1 h1.2.1,numOk_iff.1 h1.2.2,h2.2⟩
  ·cases h
 ·cases h
def rndT(up:Bool)(x d:Int):Int:=if up then -((-x)/d)else x/d
def rndB(t:Int):Int×Bool:=if -4611686018427387904<=t/\t<=4611686018427387904 then(t,true)else(0,false)
def rndF(up:Bool)(x d:Int):Int×Bool:=rndB (rndT up x d)
def YiW(a b:Int×Bool):Iv×Int:=if a.2&&b.2 then((a.1,b.1),0)else((0,0),7)
def lowI(x:Int)(r:List Int):Int:=r.foldl (fun low y=>if y<low then y else low) x
def Ybt(x:Int)(r:List Int):Int:=r.foldl (fun high y=>if high<y then y else high) x
def Yem(d:Int)(x:Int)(r:List Int):Iv×Int:=YiW (rndF false (lowI x r) d) (rndF true (Ybt x r) d)
theorem YqP(x:Int):∀(r:List Int),lowI x r∈x::r/\∀y∈x::r,lowI x r<=y:=by
 intro r
 induction r generalizing x with
 |nil=>exact⟨YFs,fun y hy=>by simp at hy;subst hy;exact Int.le_refl _⟩
 |cons a r ih=>
  have e:lowI x (a::r)=lowI (if a<x then a else x) r:=rfl
  rw[e]
  obtain⟨h1,h2⟩:=ih (if a<x then a else x)
  have h3:=h2 _ YFs
  generalize lowI (if a<x then a else x) r=L at*
  refine⟨?_,fun y hy=>?_⟩
  ·rcases YFA.1 h1 with h|h
   ·rw[h];split <;> simp
   ·simp [h]
  ·rcases YFA.1 hy with rfl|hy
   ·split at h3 <;> omega
   ·rcases YFA.1 hy with rfl|hy
    ·split at h3 <;> omega
    ·exact h2 _ (YFp _ hy)
theorem YnJ(x:Int):∀(r:List Int),Ybt x r∈x::r/\∀y∈x::r,y<=Ybt x r:=by
 intro r
 induction r generalizing x with
 |nil=>exact⟨YFs,fun y hy=>by simp at hy;subst hy;exact Int.le_refl _⟩
 |cons a r ih=>
  have e:Ybt x (a::r)=Ybt (if x<a then a else x) r:=rfl
  rw[e]
  obtain⟨h1,h2⟩:=ih (if x<a then a else x)
  have h3:=h2 _ YFs
  generalize Ybt (if x<a then a else x) r=L at*
  refine⟨?_,fun y hy=>?_⟩
  ·rcases YFA.1 h1 with h|h
   ·rw[h];split <;> simp
   ·simp [h]
  ·rcases YFA.1 hy with rfl|hy
   ·split at h3 <;> omega
   ·rcases YFA.1 hy with rfl|hy
    ·split at h3 <;> omega
    ·exact h2 _ (YFp _ hy)
def bump(up neg:Bool)(r:Nat):Nat:=if decide (r≠0)&&(up !=neg)then 1 else 0
theorem YyU{up:Bool}{x:Int}{d:Nat}(hd:0<d):rndT up x d=nsg (decide (x<0)) (x.natAbs/d+bump up (decide (x<0)) (x.natAbs%d)):=by
 have hm:=YFC x.natAbs hd
 have e:=YFH x.natAbs d
 have pos:∀n:Nat,(n:Int)/(d:Int)=((n/d:Nat):Int):=fun n=>(Int.natCast_ediv n d).symm
 have neg:∀n:Nat,(-(n:Int))/(d:Int)= -(((n/d+if n%d=0 then 0 else 1:Nat)):Int):=fun n=>by
  have e:=YFH n d
  have hm:=YFC n hd
  by_cases h0:n%d=0
  ·rw[if_pos h0]
   have:(n:Int)=((n/d:Nat):Int)*(d:Int):=by
    have:n=n/d*d:=by rw[YFc];omega
    exact_mod_cast this
   conv=>lhs;rw[this,<-Int.neg_mul]
   rw[Int.mul_ediv_cancel _ (by omega)];simp
  ·rw[if_neg h0]
   have hq:(n:Int)=(d:Int)*((n/d:Nat):Int)+((n%d:Nat):Int):=by exact_mod_cast e.symm
   apply Int.le_antisymm
   ·apply Int.le_of_lt_add_one
    rw[Int.ediv_lt_iff_lt_mul (by omega)]
    conv=>lhs;rw[hq]
    have hm:((n%d:Nat):Int)>0:=by omega
    generalize n%d=m at*
    generalize n/d=q at*
    push_cast
    grind
   ·rw[Int.le_ediv_iff_mul_le (by omega)]
    conv=>rhs;rw[hq]
    have hm:((n%d:Nat):Int)<d:=by omega
    generalize n%d=m at*
    generalize n/d=q at*
    push_cast
    grind
 obtain⟨n,hn⟩:∃n:Nat,n=x.natAbs:=⟨_,rfl⟩
 rw[<-hn]
 unfold rndT bump nsg
 by_cases hx:x<0
 ·have ex:x= -(n:Int):=by omega
  cases up
  ·simp only[hx,decide_true,if_true,YFx,if_false]
   rw[ex,neg n]
   by_cases h0:n%d=0 <;> simp [h0]
  ·simp only[hx,decide_true,if_true,bne_self_eq_false,Bool.and_false,YFx,if_false]
   rw[ex,Int.neg_neg,pos n];simp
 ·have ex:x=(n:Int):=by omega
  cases up
  ·simp only[hx,decide_false,YFx,if_false,bne_self_eq_false,Bool.and_false]
   rw[ex,pos n];simp
  ·simp only[hx,decide_false,YFx,if_false,if_true]
   rw[ex,neg n]
   by_cases h0:n%d=0 <;> simp [h0]
def YeH(v:Int):List SV:=[.bool (decide (v<0)),.int .u64 ((v.natAbs/18446744073709551616:Nat):Int),.int .u64 ((v.natAbs%18446744073709551616:Nat):Int)]
def YtS(x:Int)(n:Bool)(h l:Int):Prop:=n=decide (x<0)/\h=((x.natAbs/18446744073709551616:Nat):Int)/\l=((x.natAbs%18446744073709551616:Nat):Int)
theorem Yaq(x:Int):YtS x (decide (x<0)) ((x.natAbs/18446744073709551616:Nat):Int) ((x.natAbs%18446744073709551616:Nat):Int):=⟨rfl,rfl,rfl⟩
def big(x:Int):Prop:=x.natAbs<340282366920938463463374607431768211456
def fitF(lo hi:Int):Iv×Int:=if Ya4 lo&&Ya4 hi then((lo,hi),0)else((0,0),7)
def errI(e:Int):Iv×Int:=((0,0),e)
def addF(a b:Iv):Iv×Int:=if ivE [a,b]≠0 then errI (ivE [a,b])else fitF (a.1+b.1) (a.2+b.2)
def mulF(a b:Iv):Iv×Int:=if ivE [a,b]≠0 then errI (ivE [a,b])else Yem 1 (a.1*b.1) [a.1*b.2,a.2*b.1,a.2*b.2]
def YuU(a b:Iv):Iv×Int:=YiW (rndF false a.1 (if a.1<0 then b.1 else b.2)) (rndF true a.2 (if a.2<0 then b.2 else b.1))
def sclF(a:Iv)(num den:Int):Iv×Int:=if ivE [a]≠0 then errI (ivE [a])else if den<1\/4611686018427387904<den\/num< -4611686018427387904\/4611686018427387904<num then errI 2 else Yem den (a.1*num) [a.2*num]
def piF(a:Iv):Iv×Int:=if ivE [a]≠0 then errI (ivE [a])else Yem 1000000000000000000 (a.1*3141592653589793238) [a.1*3141592653589793239,a.2*3141592653589793238,a.2*3141592653589793239]
structure Scl where
 d:Int
 c:Int
 bs:List (Int×Int)
 mn:Int
 md:Int
 cn:Int
 cd:Int
def inS(n a b:Int):Bool:=decide (a<=n)&&decide (n<=b)
def benL:List (Int×Int)->Int->Bool
 | [],_=>true
 |b::r,last=>decide (last<b.1)&&decide (b.1<=139)&&inS b.2 8 64&&benL r b.1
def Ybe(n:Int):Bool:=inS n 1 20
def okS(s:Scl):Bool:=
 decide (s.bs≠ [])&&inS s.d 1000 500000&&inS s.c 0 (min 50000 (s.d-1))&&Ybe s.mn&&Ybe s.md&&Ybe s.cn&&Ybe s.cd&&benL s.bs (-1)&&decide (s.mn<s.md)
def chkL(s:Scl):Int:=if 3<s.bs.length then 3 else if okS s=true then 0 else 2
structure Exn where
 f:Int
 h:Int
 n:Int
 d:Int
def addE(e:Exn)(to:Int):Int×Int:=if 0<e.h then(IntKind.i64.wrap (IntKind.i64.wrap (e.n*e.h)+IntKind.i64.wrap (IntKind.i64.wrap (to-e.f)*e.d)),IntKind.i64.wrap (e.d*e.h))else(e.n,e.d)
def expL(note:Int):List (Int×Int)->Exn->Int×Int
 | [],e=>addE e note
 |b::r,e=>if note<=b.1 then addE e note else expL note r ⟨b.1,b.2,(addE e b.1).1,(addE e b.1).2⟩
def expF(bs:List (Int×Int))(note:Int):Int×Int:=expL note bs ⟨0,0,0,1⟩
def YgQ(m num den:Int):Int×Bool:=((Ygo m [(2, -num)] den).1,(Ygo m [(2, -num)] den).2.1)
def diaS(s:Scl)(note:Int):Iv:=
 let r:=YgQ (s.d-s.c) (expF s.bs note).1 (expF s.bs note).2
 (s.c+r.1,if r.2=true then s.c+r.1 else s.c+r.1+1)
def YcG(s:Scl):Int:=(s.bs.getD 0 default).1
def hasS(s:Scl)(note:Int):Bool:=decide (YcG s<=note)&&decide (note<=139)
def askS(s:Scl)(low high:Int):Int:=if chkL s≠0 then chkL s else if(!hasS s low|| !hasS s high|| decide (high<low))=true then 2 else 0
def diaF(s:Scl)(note:Int):Iv×Int:=if askS s note note≠0 then((0,0),askS s note note)else(diaS s note,0)
def fstL(s:Scl)(p:Iv->Bool):Nat->Int->Int×Int
 |0,_=>(0,4)
 |k+1,n=>if 139<n then(0,4)else if p (diaS s n)=true then(n,0)else fstL s p k (n+1)
def fstF(s:Scl)(low:Int)(p:Iv->Bool):Int×Int:=fstL s p 200 low
def halF(s:Scl)(note:Int):Int×Int:=
 if askS s note note≠0 then(0,askS s note note)else fstF s (note+1) fun x=>decide (IntKind.i64.wrap (2*x.2)<=(diaS s note).1)
def widF(s t:Scl)(note:Int):Int×Int:=
 if chkL s≠0 then(0,chkL s)else if chkL t≠0 then(0,chkL t)else if hasS s note=false then(0,2)else
 if(fstF t (YcG t) fun x=>decide (x.2<=(diaS s note).1)).2≠0 then(0,(fstF t (YcG t) fun x=>decide (x.2<=(diaS s note).1)).2)
 else(note-(fstF t (YcG t) fun x=>decide (x.2<=(diaS s note).1)).1,0)
def Exn.ok(e:Exn)(k:Nat):Prop:=(0<=e.f/\e.f<=139)/\(0<=e.h/\e.h<=64)/\(0<=e.n/\e.n<=e.f*e.d)/\1<=e.d/\e.d*64^(k+if e.h=0 then 0 else 1)<=262144
def Exn.add(e:Exn)(to:Int):Int×Int:=if 0<e.h then(e.n*e.h+(to-e.f)*e.d,e.d*e.h)else(e.n,e.d)
def exE(note:Int):List (Int×Int)->Exn->Int×Int
 | [],e=>e.add note
 |b::r,e=>if note<=b.1 then e.add note else exE note r ⟨b.1,b.2,(e.add b.1).1,(e.add b.1).2⟩
theorem p64(k:Nat):(1:Int)<=64^k:=Int.pow_pos (by decide)
theorem Exn.ok_d{e:Exn}{k:Nat}(h:e.ok k):e.d<=262144/\(e.h≠0->e.d*64<=262144):=by
 obtain⟨_,_,_,h4,h5⟩:=h
 have h6:=p64 k
 constructor
 ·have h7:=p64 (k+if e.h=0 then 0 else 1)
  have:e.d*1<=e.d*64^(k+if e.h=0 then 0 else 1):=Int.mul_le_mul_of_nonneg_left h7 (by omega)
  omega
 ·intro hh
  rw[if_neg hh,Int.pow_succ,<-Int.mul_assoc,Int.mul_right_comm]at h5
  have:e.d*64*1<=e.d*64*64^k:=Int.mul_le_mul_of_nonneg_left h6 (by omega)
  omega
theorem Exn.add_rng{e:Exn}{k:Nat}(h:e.ok k){to:Int}(ht:to<=139)(hf:e.h≠0->e.f<=to)(h0:e.h=0->0<=to/\e.n=0):
 addE e to=e.add to/\0<=(e.add to).1/\(e.add to).1<=to*(e.add to).2/\1<=(e.add to).2/\(e.add to).2<=262144/\(e.add to).2<=e.d*(if e.h=0 then 1 else 64):=by
 obtain⟨hd1,hd2⟩:=Exn.ok_d h
 obtain⟨⟨f0,f1⟩,⟨g0,g1⟩,⟨n0,n1⟩,d0,_⟩:=h
 unfold addE Exn.add
 by_cases c:0<e.h
 ·rw[if_pos c,if_pos c,if_neg (by omega)]
  have hf:=hf (by omega)
  have hd2:=hd2 (by omega)
  have k1:e.f*e.d<=139*262144:=YcO f1 (by omega) (by omega) (by omega)
  have k2:e.n*e.h<=139*262144*64:=YcO (by omega) g1 n0 (by omega)
  have k3:(to-e.f)*e.d<=139*262144:=YcO (by omega) (by omega) (by omega) (by omega)
  have k4:e.d*e.h<=e.d*64:=Int.mul_le_mul_of_nonneg_left g1 (by omega)
  have k5:0<=e.n*e.h:=Int.mul_nonneg n0 g0
  have k6:0<=(to-e.f)*e.d:=Int.mul_nonneg (by omega) (by omega)
  have k7:e.d*1<=e.d*e.h:=Int.mul_le_mul_of_nonneg_left (by omega) (by omega)
  rw[YE7 (e.n*e.h) (by omega),YE7 (to-e.f) (by omega),YE7 ((to-e.f)*e.d) (by omega),YE7 (e.n*e.h+_) (by omega),YE7 (e.d*e.h) (by omega)]
  refine⟨rfl,by simp only;omega,?_,by simp only;omega,by simp only;omega,k4⟩
  simp only
  have q1:e.n*e.h<=e.f*e.d*e.h:=YFz n1 g0
  have q2:(to-e.f)*e.d*1<=(to-e.f)*e.d*e.h:=Int.mul_le_mul_of_nonneg_left (by omega) k6
  have q3:to*(e.d*e.h)=e.f*e.d*e.h+(to-e.f)*e.d*e.h:=by
   rw[<-Int.add_mul,<-Int.add_mul,show e.f+(to-e.f)=to by omega,Int.mul_assoc]
  omega
 ·rw[if_neg c,if_neg c,if_pos (by omega)]
  obtain⟨h1,h2⟩:=h0 (by omega)
  refine⟨rfl,n0,?_,d0,hd1,by omega⟩
  simp only
  rw[h2]
  exact Int.mul_nonneg h1 (by omega)
theorem Exn.next{e:Exn}{k:Nat}(h:e.ok (k+1)){b:Int×Int}(hb:(0<=b.1/\b.1<=139)/\8<=b.2/\b.2<=64)(hf:e.h≠0->e.f<=b.1)(h0:e.h=0->e.n=0):(⟨b.1,b.2,(e.add b.1).1,(e.add b.1).2⟩:Exn).ok k:=by
 obtain⟨_,r1,r2,r3,r4,r5⟩:=Exn.add_rng h (to:=b.1) hb.1.2 hf fun hh=>⟨hb.1.1,h0 hh⟩
 refine⟨hb.1,⟨by simp only;omega,hb.2.2⟩,⟨r1,r2⟩,r3,?_⟩
 obtain⟨_,_,_,_,h5⟩:=h
 rw[if_neg (show¬b.2=0 by omega)]
 refine Int.le_trans (YFz r5 (Int.le_of_lt (Int.pow_pos (by decide)))) ?_
 by_cases c:e.h=0
 ·rw[if_pos c]at h5⊢
  rw[Int.mul_one];exact h5
 ·rw[if_neg c]at h5⊢
  rw[Int.mul_assoc,show(64:Int)*64^(k+1)=64^(k+1+1)by rw[Int.pow_succ 64 (k+1),Int.mul_comm]]
  exact h5
theorem YfR{b:Int×Int}{r:List (Int×Int)}{last:Int}(h:benL (b::r) last=true)(hl: -1<=last):(last<b.1/\(0<=b.1/\b.1<=139)/\8<=b.2/\b.2<=64)/\benL r b.1=true:=by
 simp only[benL,inS,YFd,decide_eq_true_eq]at h
 exact⟨by omega,h.2⟩
theorem Yp4{note:Int}(hn:0<=note/\note<=139):∀(r:List (Int×Int))(e:Exn)(last:Int), -1<=last->benL r last=true->e.ok r.length->(e.h≠0->e.f<=last/\e.f<=note)->(e.h=0->e.n=0)->
 expL note r e=exE note r e/\0<=(exE note r e).1/\(exE note r e).1<=note*(exE note r e).2/\1<=(exE note r e).2/\(exE note r e).2<=262144
 | [],e,last,_,_,hok,hf,h0=>by
   obtain⟨a,b,c,d,g,_⟩:=Exn.add_rng hok (to:=note) hn.2 (fun h=>(hf h).2) fun h=>⟨hn.1,h0 h⟩
   exact⟨a,b,c,d,g⟩
 |b::r,e,last,hl,hb,hok,hf,h0=>by
  obtain⟨⟨b1,b2⟩,b3⟩:=YfR hb hl
  rw[expL,exE]
  split
  ·obtain⟨a,b,c,d,g,_⟩:=Exn.add_rng hok (to:=note) hn.2 (fun h=>(hf h).2) fun h=>⟨hn.1,h0 h⟩
   exact⟨a,b,c,d,g⟩
  ·obtain⟨a,_⟩:=Exn.add_rng hok (to:=b.1) b2.1.2 (fun h=>by have:=hf h;omega) fun h=>⟨b2.1.1,h0 h⟩
   rw[a]
   exact Yp4 hn r _ b.1 (by omega) b3 (Exn.next hok b2 (fun h=>by have:=hf h;omega) h0) (fun _=>⟨Int.le_refl _,by simp only;omega⟩) (fun h=>by simp only at h;omega)
theorem Ya5{s:Scl}(h:chkL s=0):0<s.bs.length/\s.bs.length<=3/\okS s=true:=by
 unfold chkL at h
 split at h
 ·cases h
 ·split at h
  ·rename_i h1 h2
   refine⟨?_,by omega,h2⟩
   simp only[okS,YFd,decide_eq_true_eq]at h2
   exact List.length_pos_iff.2 h2.1.1.1.1.1.1.1.1
  ·cases h
theorem Yif{s:Scl}(hs:chkL s=0){note:Int}(hn:0<=note/\note<=139):expF s.bs note=exE note s.bs ⟨0,0,0,1⟩/\0<=(expF s.bs note).1/\(expF s.bs note).1<=note*(expF s.bs note).2/\1<=(expF s.bs note).2/\(expF s.bs note).2<=262144:=by
 obtain⟨h1,h2,h3⟩:=Ya5 hs
 simp only[okS,YFd]at h3
 have hok:(⟨0,0,0,1⟩:Exn).ok s.bs.length:=by
  refine⟨⟨by decide,by decide⟩,⟨by decide,by decide⟩,⟨by decide,by decide⟩,by decide,?_⟩
  rw[if_pos rfl,YF8,Int.one_mul]
  rcases(by omega:s.bs.length=1\/s.bs.length=2\/s.bs.length=3)with e|e|e <;> rw[e] <;> decide
 obtain⟨a,b,c,d,g⟩:=Yp4 hn s.bs ⟨0,0,0,1⟩ (-1) (by decide) h3.1.2 hok (fun h=>absurd rfl h) (fun _=>rfl)
 rw[show expF s.bs note=expL note s.bs ⟨0,0,0,1⟩from rfl,a]
 exact⟨rfl,b,c,d,g⟩
theorem YiF{s:Scl}(h:chkL s=0):(1000<=s.d/\s.d<=500000)/\0<=s.c/\s.c<s.d:=by
 have h3:=(Ya5 h).2.2
 simp only[okS,inS,YFd,decide_eq_true_eq]at h3
 omega
end Go.Proofs.YtmiclogmkfobgaaGreat
set_option maxRecDepth 100000
namespace Go.Proofs.YtmiclogmkfobgaaGreat.LB
def eSlo(T M:Nat)(n:Nat):Nat->Nat->Bool:=
 Nat.rec (fun _ _=>false) (fun _ ih a b=>Bool.casesOn (YGs T b) (Bool.and (YGs M b) (YGs b a)) (ih b (YGo a b))) n
def eGo(T M:Nat)(n:Nat):Nat->Nat->Bool:=
 Nat.rec (fun _ _=>false) (fun _ ih a b=>(fun c1=>(fun c2=>(fun c3=>(fun c4=>(fun c5=>(fun c6=>(fun c7=>(fun c8=>(fun c9=>(fun c10=>(fun c11=>(fun c12=>(fun c13=>(fun c14=>(fun c15=>(fun c16=>Bool.casesOn (YGs T c16) (eSlo T M 17 a b) (ih c15 c16)) (YGo c14 c15)) (YGo c13 c14)) (YGo c12 c13)) (YGo c11 c12)) (YGo c10 c11)) (YGo c9 c10)) (YGo c8 c9)) (YGo c7 c8)) (YGo c6 c7)) (YGo c5 c6)) (YGo c4 c5)) (YGo c3 c4)) (YGo c2 c3)) (YGo c1 c2)) (YGo b c1)) (YGo a b)) n
def eSt(A B:Int)(a b:Nat):Prop:=∃v0 v1 s:Int,(0<=v0/\0<=v1)/\v1*a+v0*b=A/\(s=1\/s= -1)/\∀v u:Int,∃x y:Int,v=x*v0+y*v1/\v*B-u*A=s*(x*a-y*b)
theorem eSt_0(A B:Nat):eSt A B A B:=by
 refine⟨0,1, -1,⟨by decide,by decide⟩,by omega,Or.inr rfl,fun v u=>⟨u,v,by omega,?_⟩⟩
 rw[Int.neg_mul,Int.one_mul];omega
theorem YW{A B:Int}{a b:Nat}(h:eSt A B a b):eSt A B b (a%b):=by
 obtain⟨v0,v1,s,⟨h0,h1⟩,hA,hs,hall⟩:=h
 have hd:(a:Int)=(b:Int)*((a/b:Nat):Int)+((a%b:Nat):Int):=by
  rw[<-YFU,<-Int.natCast_add,YFH]
 have hq:0<=((a/b:Nat):Int):=Int.natCast_nonneg _
 generalize((a/b:Nat):Int)=q at hd hq
 refine⟨v1,v0+q*v1, -s,⟨h1,?_⟩,?_,?_,fun v u=>?_⟩
 ·exact Int.add_nonneg h0 (Int.mul_nonneg hq h1)
 ·rw[<-hA,hd];grind
 ·rcases hs with rfl|rfl
  ·right;rfl
  ·left;rfl
 ·obtain⟨x,y,e1,e2⟩:=hall v u
  refine⟨y-q*x,x,by rw[e1];grind,by rw[e2,hd];grind⟩
theorem Yxf{A B:Int}{a b:Nat}(h:eSt A B a b)(hb0:0<b)(hba:b<=a){V:Int}(hV:2*V*b<A){v u:Int}(h0:0<v)(h1:v<=V):(b:Int)<=v*B-u*A\/(b:Int)<=u*A-v*B:=by
 obtain⟨v0,v1,s,⟨g0,g1⟩,hA,hs,hall⟩:=h
 have hd:(a:Int)=(b:Int)*((a/b:Nat):Int)+((a%b:Nat):Int):=by
  rw[<-YFU,<-Int.natCast_add,YFH]
 have hq:1<=((a/b:Nat):Int):=by
  have:=Nat.div_pos hba hb0
  omega
 have hr:((a%b:Nat):Int)<(b:Int):=by
  have:=YFC a hb0
  omega
 have hr0:0<=((a%b:Nat):Int):=Int.natCast_nonneg _
 have hbp:0<(b:Int):=by omega
 generalize((a/b:Nat):Int)=q at hd hq
 generalize((a%b:Nat):Int)=r at hd hr hr0
 obtain⟨x,y,e1,e2⟩:=hall v u
 generalize(b:Int)=B1 at*
 generalize(a:Int)=A1 at*
 obtain⟨v2,hv2⟩:∃v2,v2=v0+q*v1:=⟨_,rfl⟩
 obtain⟨X,hX⟩:∃X,X=y-q*x:=⟨_,rfl⟩
 have f1:v=X*v1+x*v2:=by rw[e1,hX,hv2];grind
 have f2:v*B-u*A=s*(x*r-X*B1):=by rw[e2,hX,hd];grind
 have f3:A=v2*B1+v1*r:=by rw[<-hA,hd,hv2];grind
 have m1:1*v1<=q*v1:=YFz hq g1
 have f4:v1<=v2:=by omega
 have g2:0<=v2:=by omega
 have m2:v1*r<=v2*B1:=Int.mul_le_mul f4 (by omega) hr0 g2
 have f5:V<v2:=by
  refine Int.lt_of_not_ge fun hh=>?_
  have:=YFz hh (show(0:Int)<=B1 by omega)
  have e:2*V*B1=2*(V*B1):=by grind
  omega
 have key:B1<=x*r-X*B1\/B1<=X*B1-x*r:=by
  rcases Int.lt_trichotomy x 0 with hx|hx|hx
  ·rcases Int.lt_or_le 0 X with hX0|hX0
   ·right
    have a1:1*B1<=X*B1:=YFz (by omega) (by omega)
    have a2:0<=(-x)*r:=Int.mul_nonneg (by omega) hr0
    have a3:(-x)*r= -(x*r):=by grind
    omega
   ·exfalso
    have a1:0<=(-X)*v1:=Int.mul_nonneg (by omega) g1
    have a2:0<=(-x)*v2:=Int.mul_nonneg (by omega) g2
    have a3:(-X)*v1= -(X*v1):=by grind
    have a4:(-x)*v2= -(x*v2):=by grind
    omega
  ·subst hx
   have hXne:X≠0:=fun e=>by rw[e]at f1;omega
   rw[Int.zero_mul]
   rcases Int.lt_or_le 0 X with hX0|hX0
   ·right
    have a1:1*B1<=X*B1:=YFz (by omega) (by omega)
    omega
   ·left
    have a1:1*B1<=(-X)*B1:=YFz (by omega) (by omega)
    have a3:(-X)*B1= -(X*B1):=by grind
    omega
  ·rcases Int.lt_or_le X 0 with hX0|hX0
   ·left
    have a1:1*B1<=(-X)*B1:=YFz (by omega) (by omega)
    have a3:(-X)*B1= -(X*B1):=by grind
    have a2:0<=x*r:=Int.mul_nonneg (by omega) hr0
    omega
   ·exfalso
    have a1:0<=X*v1:=Int.mul_nonneg hX0 g1
    have a2:1*v2<=x*v2:=YFz (by omega) g2
    omega
 rcases hs with rfl|rfl
 ·rw[f2];omega
 ·rw[f2];omega
def YBx(A B:Int)(T M:Nat):Prop:=∃a b,eSt A B a b/\M<=b/\b<=a/\b<T
theorem Yp0{A B:Int}{T M:Nat}:∀(n a b:Nat),eSlo T M n a b=true->eSt A B a b->YBx A B T M
 |0,_,_,h,_=>by cases h
 |n+1,a,b,h,hs=>by
  have h:Bool.casesOn (motive:=fun _=>Bool) (YGs T b) (Bool.and (YGs M b) (YGs b a)) (eSlo T M n b (YGo a b))=true:=h
  cases hb:YGs T b with
  |false=>
   rw[hb]at h
   have h:Bool.and (YGs M b) (YGs b a)=true:=h
   have h:=Bool.and_eq_true_iff.1 h
   refine⟨a,b,hs,YFV h.1,YFV h.2,Nat.lt_of_not_le fun hh=>?_⟩
   rw[Nat.ble_eq_true_of_le hh]at hb;cases hb
  |true=>
   rw[hb]at h
   exact Yp0 n _ _ h (YW hs)
theorem YuX{A B:Int}{T M:Nat}:∀(n a b:Nat),eGo T M n a b=true->eSt A B a b->YBx A B T M
 |0,_,_,h,_=>by cases h
 |n+1,a,b,h,hs=>by
  obtain⟨c1,hc1⟩:∃c,c=YGo a b:=⟨_,rfl⟩
  have s1:eSt A B b c1:=by rw[hc1];exact YW hs
  obtain⟨c2,hc2⟩:∃c,c=YGo b c1:=⟨_,rfl⟩
  have s2:eSt A B c1 c2:=by rw[hc2];exact YW s1
  obtain⟨c3,hc3⟩:∃c,c=YGo c1 c2:=⟨_,rfl⟩
  have s3:eSt A B c2 c3:=by rw[hc3];exact YW s2
  obtain⟨c4,hc4⟩:∃c,c=YGo c2 c3:=⟨_,rfl⟩
  have s4:eSt A B c3 c4:=by rw[hc4];exact YW s3
  obtain⟨c5,hc5⟩:∃c,c=YGo c3 c4:=⟨_,rfl⟩
  have s5:eSt A B c4 c5:=by rw[hc5];exact YW s4
  obtain⟨c6,hc6⟩:∃c,c=YGo c4 c5:=⟨_,rfl⟩
  have s6:eSt A B c5 c6:=by rw[hc6];exact YW s5
  obtain⟨c7,hc7⟩:∃c,c=YGo c5 c6:=⟨_,rfl⟩
  have s7:eSt A B c6 c7:=by rw[hc7];exact YW s6
  obtain⟨c8,hc8⟩:∃c,c=YGo c6 c7:=⟨_,rfl⟩
  have s8:eSt A B c7 c8:=by rw[hc8];exact YW s7
  obtain⟨c9,hc9⟩:∃c,c=YGo c7 c8:=⟨_,rfl⟩
  have s9:eSt A B c8 c9:=by rw[hc9];exact YW s8
  obtain⟨c10,hc10⟩:∃c,c=YGo c8 c9:=⟨_,rfl⟩
  have s10:eSt A B c9 c10:=by rw[hc10];exact YW s9
  obtain⟨c11,hc11⟩:∃c,c=YGo c9 c10:=⟨_,rfl⟩
  have s11:eSt A B c10 c11:=by rw[hc11];exact YW s10
  obtain⟨c12,hc12⟩:∃c,c=YGo c10 c11:=⟨_,rfl⟩
  have s12:eSt A B c11 c12:=by rw[hc12];exact YW s11
  obtain⟨c13,hc13⟩:∃c,c=YGo c11 c12:=⟨_,rfl⟩
  have s13:eSt A B c12 c13:=by rw[hc13];exact YW s12
  obtain⟨c14,hc14⟩:∃c,c=YGo c12 c13:=⟨_,rfl⟩
  have s14:eSt A B c13 c14:=by rw[hc14];exact YW s13
  obtain⟨c15,hc15⟩:∃c,c=YGo c13 c14:=⟨_,rfl⟩
  have s15:eSt A B c14 c15:=by rw[hc15];exact YW s14
  obtain⟨c16,hc16⟩:∃c,c=YGo c14 c15:=⟨_,rfl⟩
  have s16:eSt A B c15 c16:=by rw[hc16];exact YW s15
  have h:Bool.casesOn (motive:=fun _=>Bool) (YGs T c16) (eSlo T M 17 a b) (eGo T M n c15 c16)=true:=by
   subst hc16
   subst hc15
   subst hc14
   subst hc13
   subst hc12
   subst hc11
   subst hc10
   subst hc9
   subst hc8
   subst hc7
   subst hc6
   subst hc5
   subst hc4
   subst hc3
   subst hc2
   subst hc1
   exact h
  cases hb:YGs T c16 with
  |false=>
   rw[hb]at h
   exact Yp0 _ _ _ h hs
  |true=>
   rw[hb]at h
   exact YuX n _ _ h s16
theorem YpT{A B T M n V:Nat}(h:eGo T M n A B=true)(hM:0<M)(hV:2*V*T<=A){v u:Int}(h0:0<v)(h1:v<=V):(M:Int)<=v*B-u*A\/(M:Int)<=u*A-v*B:=by
 obtain⟨a,b,hs,h2,h3,h4⟩:=YuX n A B h (eSt_0 A B)
 have h5:2*V*b<A:=by
  rcases YFB V with rfl|hp
  ·omega
  ·have h6:2*V*(b+1)<=2*V*T:=YFe _ h4
   rw[YFJ]at h6
   omega
 have h5':2*(V:Int)*(b:Int)<(A:Int):=by
  have:=Int.ofNat_lt.2 h5
  rw[YFU,YFU]at this
  exact this
 have:=Yxf hs (by omega) h3 h5' (u:=u) h0 h1
 omega
end Go.Proofs.YtmiclogmkfobgaaGreat.LB
set_option maxRecDepth 100000
namespace Go.Proofs.YtmiclogmkfobgaaGreat.LB
def eLn:Nat:=0xb17217f7d1cf79abc9e3b39803f2f6af40f343267298b62d8a0d175b8baafa2be7b876206debac98559552fb4afa1b10ed2eae35c138214427573b291169b8253e96ca16224ae8c51acbda11317c387eb9ea9bc3b136603b256fa0ec7657f74b72ce87b19d6548caf5dfa6bd38303248655fa1872f20e3a2da2d97c50f3fd5c607f4ca11fb5bfb90610d30f88fe551a2ee569d6dfc1efa157d2e23de1400b39617460775db8990e5c943e732b479cd33cccc4e659393514c4c1a1e0bd1d6095d25669b333564a3376a9c7f8a5e148e82074db6015cfe7aa30c480a5417350d2c955d5179b1e17b9dae313cdb6c606cb1078f735d1b2db31b5f50b5185064c18b4d162db3b365853d7598a1951ae27
def eSer(y:Nat)(n:Nat):Nat->Nat->Nat->Nat:=
 Nat.rec (fun _ _ s=>s) (fun _ ih i m s=>Bool.casesOn (YFL m 0) (ih (Nat.succ i) (YGt (Nat.shiftRight (Nat.mul m y) 2164) (Nat.succ i)) (YFD s m)) s) n
def eRt(q:Nat):Nat:=Nat.shiftRight (eSer (YGt eLn q) 500 0 (Nat.pow 2 2164) 0) 64
def ePt(n:Nat):Nat:=Nat.pow 2 n
def eA:Nat:=ePt 2100
def eT:Nat:=ePt 1094
def eM:Nat:=ePt 1070
def eDnN(N x t:Nat):Nat:=Nat.shiftRight (Nat.mul x t) N
def eUpN(N y t:Nat):Nat:=Nat.succ (Nat.shiftRight (Nat.mul y t) N)
def eDn(x t:Nat):Nat:=eDnN 2100 x t
def eUp(y t:Nat):Nat:=eUpN 2100 y t
def eRng(q s t:Nat)(n:Nat):Nat->Nat->Nat->Bool:=
 Nat.rec (fun _ _ _=>true) (fun _ ih r x y=>Bool.casesOn (Bool.casesOn (YFL (YF1 r q) 1) true (Bool.and (YGs y (YFD x 1099511627776)) (eGo eT eM 100 eA x))) false
  (ih (Nat.succ r) (eDn x s) (eUp y t))) n
def ePw(s t:Nat)(f:Nat):Nat->(Nat->Nat->Bool)->Bool:=
 Nat.rec (fun _ _=>false) (fun _ ih r k=>Bool.casesOn (YFL r 0) (ih (YGt r 2) (fun x y=>(fun x2 y2=>Bool.casesOn (YFL (YGo r 2) 1) (k x2 y2) (k (eDn x2 s) (eUp y2 t))) (eDn x x) (eUp y y))) (k eA eA)) f
def eGrp(s t q r n:Nat):Bool:=Bool.and (ePw t s 19 q (fun x y=>Bool.and (YGs (Nat.mul 2 eA) x) (YGs y (Nat.mul 2 eA)))) (ePw s t 19 r (fun x y=>eRng q s t n r x y))
def eOk(q r n:Nat):Bool:=eGrp (Nat.sub (eRt q) 1048576) (YFD (eRt q) 1048576) q r n
theorem Yxb(N x t:Nat):eDnN N x t=x*t/ePt N:=Nat.shiftRight_eq_div_pow _ N
theorem Yxg(N x t:Nat):eUpN N x t=x*t/ePt N+1:=congrArg Nat.succ (Nat.shiftRight_eq_div_pow _ N)
theorem ePt_pos(n:Nat):0<ePt n:=YFF (by decide)
theorem YuW(x t:Nat):eDn x t=x*t/eA:=Yxb 2100 x t
theorem YuZ(x t:Nat):eUp x t=x*t/eA+1:=Yxg 2100 x t
theorem Ydz:0<eA:=ePt_pos 2100
theorem YA3{a b:Nat}(h:YGs (Nat.mul 2 a) b=true):2*a<=b:=YFV h
theorem YA4{a b:Nat}(h:YGs b (Nat.mul 2 a)=true):b<=2*a:=YFV h
def eLw(q r x:Nat):Prop:=x^q<=2^r*eA^q
def eHi(q r y:Nat):Prop:=2^r*eA^q<=y^q
theorem YBc{K x t q a b:Nat}(hK:0<K)(h1:x^q<=2^a*K^q)(h2:t^q<=2^b*K^q):(x*t/K)^q<=2^(a+b)*K^q:=by
 have h3:=YFl (Nat.div_mul_le_self (x*t) K) q
 rw[YFo,YFo]at h3
 have h4:=YFt h1 h2
 refine YFj (c:=K^q) ?_ (YFF hK)
 refine YFa h3 (YFa h4 (YFr ?_))
 rw[YFi]
 ac_rfl
theorem YDT{K x t q a b:Nat}(hK:0<K)(h1:2^a*K^q<=x^q)(h2:2^b*K^q<=t^q):2^(a+b)*K^q<=(x*t/K+1)^q:=by
 have h0:x*t<=(x*t/K+1)*K:=by
  have:=YFH (x*t) K
  have:=YFC (x*t) hK
  rw[YFw,YFR,YFc (x*t/K)];omega
 have h3:=YFl h0 q
 rw[YFo,YFo]at h3
 have h4:=YFt h1 h2
 refine YFj (c:=K^q) ?_ (YFF hK)
 refine YFa (YFr ?_) (YFa h4 h3)
 rw[YFi]
 ac_rfl
theorem Yxe{q r s x t:Nat}(h1:eLw q r x)(h2:eLw q s t):eLw q (r+s) (eDn x t):=by
 rw[YuW];exact YBc Ydz h1 h2
theorem Yxd{q r s x t:Nat}(h1:eHi q r x)(h2:eHi q s t):eHi q (r+s) (eUp x t):=by
 rw[YuZ];exact YDT Ydz h1 h2
def ePD(s r x:Nat):Prop:=x*eA^r<=s^r*eA
def ePU(t r y:Nat):Prop:=t^r*eA<=y*eA^r
theorem YCF{K s r r' x x':Nat}(hK:0<K)(h1:x*K^r<=s^r*K)(h2:x'*K^r'<=s^r'*K):x*x'/K*K^(r+r')<=s^(r+r')*K:=by
 have h3:=YE9 (K^(r+r')) (Nat.div_mul_le_self (x*x') K)
 have h4:=YFt h1 h2
 refine YFj (c:=K) ?_ hK
 refine YFa (YFr ?_) (YFa h3 (YFa (YFr ?_) (YFa h4 (YFr ?_))))
 ·ac_rfl
 ·rw[YFi];ac_rfl
 ·rw[YFi];ac_rfl
theorem YCJ{K s r r' x x':Nat}(hK:0<K)(h1:s^r*K<=x*K^r)(h2:s^r'*K<=x'*K^r'):s^(r+r')*K<=(x*x'/K+1)*K^(r+r'):=by
 have h0:x*x'<=(x*x'/K+1)*K:=by
  have:=YFH (x*x') K
  have:=YFC (x*x') hK
  rw[YFw,YFR,YFc (x*x'/K)];omega
 have h3:=YE9 (K^(r+r')) h0
 have h4:=YFt h1 h2
 refine YFj (c:=K) ?_ hK
 refine YFa (YFr ?_) (YFa h4 (YFa (YFr ?_) (YFa h3 (YFr ?_))))
 ·rw[YFi];ac_rfl
 ·rw[YFi];ac_rfl
 ·ac_rfl
theorem Ylb{s r r' x x':Nat}(h1:ePD s r x)(h2:ePD s r' x'):ePD s (r+r') (eDn x x'):=by
 unfold ePD at*;rw[YuW];exact YCF Ydz h1 h2
theorem Ylc{s r r' x x':Nat}(h1:ePU s r x)(h2:ePU s r' x'):ePU s (r+r') (eUp x x'):=by
 unfold ePU at*;rw[YuZ];exact YCJ Ydz h1 h2
theorem ePD_1(s:Nat):ePD s 1 s:=by unfold ePD;rw[YGl,YGl];exact YFk _
theorem ePU_1(s:Nat):ePU s 1 s:=by unfold ePU;rw[YGl,YGl];exact YFk _
theorem ePD_0(s:Nat):ePD s 0 eA:=by unfold ePD;rw[YGn,YGn,YGb,YFR];exact YFk _
theorem ePU_0(s:Nat):ePU s 0 eA:=by unfold ePU;rw[YGn,YGn,YGb,YFR];exact YFk _
theorem YpY{s t:Nat}:∀(f r:Nat)(k:Nat->Nat->Bool),ePw s t f r k=true->∃x y,ePD s r x/\ePU t r y/\k x y=true
 |0,_,_,h=>by cases h
 |f+1,r,k,h=>by
  have h:Bool.casesOn (motive:=fun _=>Bool) (YFL r 0) (ePw s t f (YGt r 2) (fun x y=>(fun x2 y2=>Bool.casesOn (YFL (YGo r 2) 1) (k x2 y2) (k (eDn x2 s) (eUp y2 t))) (eDn x x) (eUp y y))) (k eA eA)=true:=h
  cases hb:YFL r 0 with
  |true=>
   rw[hb]at h
   have hr:r=0:=YFv hb
   rw[hr]
   exact⟨_,_,ePD_0 s,ePU_0 t,h⟩
  |false=>
   rw[hb]at h
   obtain⟨x,y,h1,h2,h3⟩:=YpY f _ _ h
   have h1:ePD s (r/2) x:=h1
   have h2:ePU t (r/2) y:=h2
   have h3:Bool.casesOn (motive:=fun _=>Bool) (YFL (YGo r 2) 1) (k (eDn x x) (eUp y y)) (k (eDn (eDn x x) s) (eUp (eUp y y) t))=true:=h3
   cases hm:YFL (YGo r 2) 1 with
   |false=>
    rw[hm]at h3
    have hr:r/2+r/2=r:=by
     have:r%2≠1:=fun e=>by
      have e:YGo r 2=1:=e
      rw[e]at hm;cases hm
     omega
    refine⟨_,_,?_,?_,h3⟩
    ·have:=Ylb h1 h1;rw[hr]at this;exact this
    ·have:=Ylc h2 h2;rw[hr]at this;exact this
   |true=>
    rw[hm]at h3
    have hr:r/2+r/2+1=r:=by
     have:r%2=1:=YFv hm
     omega
    refine⟨_,_,?_,?_,h3⟩
    ·have:=Ylb (Ylb h1 h1) (ePD_1 s);rw[hr]at this;exact this
    ·have:=Ylc (Ylc h2 h2) (ePU_1 t);rw[hr]at this;exact this
theorem pd_lw{K s q r x:Nat}(hK:0<K)(h1:s^q<=2^1*K^q)(h2:x*K^r<=s^r*K):x^q<=2^r*K^q:=by
 have h3:=YFl h2 q
 have h4:=YFl h1 r
 rw[YFo,YFo,<-YFh,<-YFh]at h3
 rw[YFo,<-YFh,<-YFh,<-YFh,YFR,YFc q r]at h4
 refine YFj (c:=K^(r*q)) ?_ (YFF hK)
 refine YFa h3 (YFa (YE9 _ h4) (YFr ?_))
 ac_rfl
theorem pu_hi{K s q r x:Nat}(hK:0<K)(h1:2^1*K^q<=s^q)(h2:s^r*K<=x*K^r):2^r*K^q<=x^q:=by
 have h3:=YFl h2 q
 have h4:=YFl h1 r
 rw[YFo,YFo,<-YFh,<-YFh]at h3
 rw[YFo,<-YFh,<-YFh,<-YFh,YFR,YFc q r]at h4
 refine YFj (c:=K^(r*q)) ?_ (YFF hK)
 refine YFa (YFr ?_) (YFa (YE9 _ h4) h3)
 ac_rfl
def eFr(q r:Nat):Prop:=∃x y,eLw q r x/\eHi q r y/\y<=x+1099511627776/\eGo eT eM 100 eA x=true
theorem YpZ{q s t:Nat}(hs:eLw q 1 s)(ht:eHi q 1 t):∀(n r x y:Nat),eRng q s t n r x y=true->eLw q r x->eHi q r y->∀i,i<n->YF1 (r+i) q=1->eFr q (r+i)
 |0,_,_,_,_,_,_,i,hi,_=>absurd hi (YGe _)
 |n+1,r,x,y,h,hx,hy,i,hi,hg=>by
  have h:Bool.casesOn (motive:=fun _=>Bool) (Bool.casesOn (motive:=fun _=>Bool) (YFL (YF1 r q) 1) true (Bool.and (YGs y (YFD x 1099511627776)) (eGo eT eM 100 eA x))) false (eRng q s t n (Nat.succ r) (eDn x s) (eUp y t))=true:=h
  cases hb:Bool.casesOn (motive:=fun _=>Bool) (YFL (YF1 r q) 1) true (Bool.and (YGs y (YFD x 1099511627776)) (eGo eT eM 100 eA x))with
  |false=>rw[hb]at h;cases h
  |true=>
   rw[hb]at h
   cases i with
   |zero=>
    have hg:YF1 r q=1:=hg
    rw[hg]at hb
    have hb:Bool.and (YGs y (YFD x 1099511627776)) (eGo eT eM 100 eA x)=true:=hb
    have hb:=Bool.and_eq_true_iff.1 hb
    exact⟨x,y,hx,hy,YFV hb.1,hb.2⟩
   |succ i=>
    have:=YpZ hs ht n (r+1) _ _ h (Yxe hx hs) (Yxd hy ht) i (by omega) (by rw[show r+1+i=r+(i+1)by omega];exact hg)
    rw[show r+1+i=r+(i+1)by omega]at this
    exact this
theorem Yxc{s t q r n:Nat}(h:eGrp s t q r n=true):∀i,i<n->YF1 (r+i) q=1->eFr q (r+i):=by
 have h:=Bool.and_eq_true_iff.1 h
 obtain⟨x,y,h1,h2,h3⟩:=YpY _ _ _ h.1
 have h3:=Bool.and_eq_true_iff.1 h3
 have ht:eHi q 1 t:=by
  have g:2*eA<=x:=YA3 h3.1
  have g1:=YE9 (eA^q) g
  have g2:=YFa g1 h1
  unfold eHi
  refine YFj (c:=eA) (YFa (YFr ?_) g2) Ydz
  rw[YGl];ac_rfl
 have hs:eLw q 1 s:=by
  have g:y<=2*eA:=YA4 h3.2
  have g1:=YE9 (eA^q) g
  have g2:=YFa h2 g1
  unfold eLw
  refine YFj (c:=eA) (YFa g2 (YFr ?_)) Ydz
  rw[YGl];ac_rfl
 obtain⟨x,y,k1,k2,k3⟩:=YpY _ _ _ h.2
 exact YpZ hs ht n r x y k3 (pd_lw Ydz hs k1) (pu_hi Ydz ht k2)
theorem YBy{q r n:Nat}(h:eOk q r n=true):∀i,i<n->YF1 (r+i) q=1->eFr q (r+i):=Yxc h
end Go.Proofs.YtmiclogmkfobgaaGreat.LB
set_option maxRecDepth 100000
namespace Go.Proofs.YtmiclogmkfobgaaGreat.LB
theorem ePt_add(a b:Nat):ePt a*ePt b=ePt (a+b):=(YFi 2 a b).symm
theorem ePt_1:ePt 1=2:=rfl
theorem YmF{a b:Nat}(h:a<=b):ePt a<=ePt b:=YFq (by decide) h
theorem YBz{a b:Nat}(h:a<b):ePt a<ePt b:=(Nat.pow_lt_pow_iff_right (by decide)).2 h
theorem YpW:1099511627776=ePt 40:=rfl
def eV:Nat:=ePt 1005
def eG:Nat:=ePt 2035
theorem eVT:2*eV*eT<=eA:=by
 have e:ePt 1*ePt 1005*ePt 1094=ePt 2100:=by rw[ePt_add,ePt_add]
 rw[ePt_1]at e
 unfold eV eT eA
 exact YFr e
theorem eV_M:eV*1099511627776<eM:=by
 have e:ePt 1005*ePt 40<ePt 1070:=by rw[ePt_add];exact YBz (by decide)
 rw[<-YpW]at e
 unfold eV eM
 exact e
theorem eV_G:eV*eA<=eM*eG:=by
 have e:ePt 1005*ePt 2100<=ePt 1070*ePt 2035:=by rw[ePt_add,ePt_add];exact YmF (by decide)
 unfold eV eA eM eG
 exact e
theorem Yxp{A M G V q r u v x y e:Nat}(hA:0<A)(hx:x^q<=2^r*A^q)(hy:2^r*A^q<=y^q)(hxy:y<=x+e)(hV:V*e<M)(hG:V*A<=M*G)(hv:v<=V)(hu:u<=V)(hq:0<q)
 (hfar:M+u*A<=v*x\/M+v*x<=u*A)(h:u^q<2^r*v^q):u^q*(G+1)^q<=2^r*v^q*G^q:=by
 rcases hfar with h1|h1
 ·have h2:u*(G+1)*A<=v*G*x:=by
   have a1:=YE9 G h1
   have a2:=YE9 A hu
   rw[YFw]at a1
   have e1:u*(G+1)*A=u*A*G+u*A:=by rw[YFJ,YGb,YFw];ac_rfl
   have e2:v*G*x=v*x*G:=by ac_rfl
   omega
  have h3:=YFl h2 q
  rw[YFo,YFo,YFo,YFo]at h3
  have h4:=YFe (v^q*G^q) hx
  refine YFj (c:=A^q) ?_ (YFF hA)
  refine YFa h3 (YFa h4 (YFr ?_))
  ac_rfl
 ·exfalso
  have h2:v*y<=u*A:=by
   have a1:=YFe v hxy
   have a2:=YE9 e hv
   rw[YFJ]at a1
   omega
  have h3:=YFl h2 q
  rw[YFo,YFo]at h3
  have h4:=YFe (v^q) hy
  have h5:2^r*v^q*A^q<=u^q*A^q:=by
   refine YFa (YFr ?_) (YFa h4 h3)
   ac_rfl
  have h6:=YFj h5 (YFF hA)
  omega
theorem YBP{q r:Nat}(hq:0<q)(h:eFr q r){u v:Nat}(hv0:0<v)(hv:v<=eV)(hu:u<=eV)(hlt:u^q<2^r*v^q):u^q*(eG+1)^q<=2^r*v^q*eG^q:=by
 obtain⟨x,y,hx,hy,hxy,hg⟩:=h
 have hf:=YpT hg (ePt_pos 1070) eVT (v:=(v:Int)) (u:=(u:Int)) (by omega) (Int.ofNat_le.2 hv)
 refine Yxp Ydz hx hy hxy eV_M eV_G hv hu hq ?_ hlt
 rw[<-YFU,<-YFU]at hf
 generalize u*eA=a at*
 generalize v*x=b at*
 omega
theorem two_G:∀{G:Nat},1<=G->2*G^G<=(G+1)^G:=by
 intro G hG
 have h:∀k:Nat,G^k*(G+k)<=(G+1)^k*G:=by
  intro k
  induction k with
  |zero=>simp
  |succ k ih=>
   have h1:=YE9 (G+1) ih
   have e1:(G+1)^k*G*(G+1)=(G+1)^(k+1)*G:=by rw[YFm];ac_rfl
   rw[e1]at h1
   refine YFa ?_ h1
   rw[YFm,YFg,YFg]
   refine YFe _ ?_
   have e2:G*(G+(k+1))=G*G+G*k+G:=by rw[YFJ,YFJ,YGb];omega
   have e3:(G+k)*(G+1)=G*G+G*k+(G+k):=by rw[YFJ,YGb,YFw,YFc k G]
   rw[e2,e3];omega
 have h1:=h G
 refine YFj (c:=G) ?_ hG
 refine YFa (YFr ?_) h1
 rw[show G+G=2*G by omega];ac_rfl
theorem Yij{G q U W:Nat}(hG:1<=G)(h:U*(G+1)^q<=W*G^q):2^q*U^G<=W^G:=by
 have h1:=YFl h G
 rw[YFo,YFo,<-YFh,<-YFh,YFc q G,YFh,YFh]at h1
 have h2:=YFl (two_G hG) q
 rw[YFo]at h2
 refine YFj (c:=(G^G)^q) ?_ (YFF (YFF hG))
 refine YFa (YFr ?_) (YFa (YFe (U^G) h2) h1)
 ac_rfl
theorem YjO:0<eG:=ePt_pos 2035
theorem Yq5{u v:Nat}(hu:u<=eV)(h:u<v):u*(eG+1)<=v*eG:=by
 have h1:eV<=eG:=by unfold eV eG;exact YmF (by decide)
 have h2:=YE9 eG (show u+1<=v from h)
 rw[YFw,YFR]at h2
 rw[YFJ,YGb]
 omega
def eAll(q:Nat):Prop:=∀r,r<q->YF1 r q=1->r=0\/eFr q r
theorem Ywy{q r:Nat}(hq:0<q)(hr:r<q)(h:eAll q)(hg:YF1 r q=1){u v:Nat}(hv0:0<v)(hv:v<=eV)(hu:u<=eV)(hlt:u^q<2^r*v^q):2^q*(u^q)^eG<=(2^r*v^q)^eG:=by
 rcases h r hr hg with rfl|hf
 ·rw[Nat.gcd_zero_left]at hg
  subst hg
  have hlt2:u<v:=by rw[YGn,YFR,YGl,YGl]at hlt;exact hlt
  have h1:=Yq5 hu hlt2
  have h2:u^1*(eG+1)^1<=2^0*v^1*eG^1:=by rw[YGn,YFR,YGl,YGl,YGl,YGl];exact h1
  exact Yij YjO h2
 ·exact Yij YjO (YBP hq hf hv0 hv hu hlt)
theorem YwA{q r:Nat}(hq:0<q)(hr:r<q)(h:∀e,e∣q->eAll e){u v:Nat}(hv0:0<v)(hu:2*u<=eV)(hlt:u^q<2^r*v^q):2^q*(u^q)^eG<=(2^r*v^q)^eG:=by
 rcases YFu eV v with hv|hv
 ·have h1:(2*u)^q<=2^r*v^q:=YFa (YFl (by omega) q) (Nat.le_mul_of_pos_left _ (YFF (by decide)))
  have h2:=YFl h1 eG
  refine YFa ?_ h2
  rw[YFo,YFo]
  refine YE9 _ ?_
  exact Nat.le_self_pow (by have:=YjO;omega) _
 ·obtain⟨g,hgd⟩:∃g,g=YF1 r q:=⟨_,rfl⟩
  have hg0:0<g:=by rw[hgd];exact Nat.gcd_pos_of_pos_right _ hq
  obtain⟨r1,hr1⟩:g∣r:=by rw[hgd];exact Nat.gcd_dvd_left _ _
  obtain⟨q1,hq1⟩:g∣q:=by rw[hgd];exact Nat.gcd_dvd_right _ _
  have hc:YF1 r1 q1=1:=by
   have e:=hgd
   rw[hr1,hq1,Nat.gcd_mul_left]at e
   exact Nat.eq_of_mul_eq_mul_left hg0 (by omega)
  have hq0:0<q1:=by
   rcases YFB q1 with e|e
   ·rw[e]at hq1;omega
   ·exact e
  have hr2:r1<q1:=by
   rw[hr1,hq1]at hr
   exact Nat.lt_of_mul_lt_mul_left hr
  have e1:∀w:Nat,w^q=(w^q1)^g:=fun w=>by rw[hq1,YFc,YFh]
  have e2:2^r=(2^r1)^g:=by rw[hr1,YFc,YFh]
  rw[e1 u,e1 v,e2,<-YFo]at hlt
  have hlt':=(Nat.pow_lt_pow_iff_left (by omega)).1 hlt
  have hk:=Ywy hq0 hr2 (h q1 ⟨g,by rw[hq1,YFc]⟩) hc hv0 hv (by omega) hlt'
  have hk2:=YFl hk g
  rw[e1 u,e1 v,e2,<-YFo]
  have sw:∀w:Nat,(w^eG)^g=(w^g)^eG:=fun w=>by rw[<-YFh,<-YFh,YFc]
  have e3:(2^q1)^g=2^q:=by rw[<-YFh,YFc,<-hq1]
  rw[YFo,sw,sw,e3]at hk2
  exact hk2
end Go.Proofs.YtmiclogmkfobgaaGreat.LB
set_option maxRecDepth 100000
namespace Go.Proofs.YtmiclogmkfobgaaGreat.LB
theorem sep_L{d q n m k:Nat}(hq:0<q)(ht:∀e,e∣q->eAll e)(hk:1<=k)(hm:2*m^d<=eV)(hlt:m^(d*q)<2^n*k^(d*q)):2^q*(m^(d*q))^eG<=(2^n*k^(d*q))^eG:=by
 have e1:m^(d*q)=(m^d)^q:=YFh _ _ _
 have e2:2^n*k^(d*q)=2^(n%q)*(2^(n/q)*k^d)^q:=by
  rw[YFo,<-YFh,<-YFh,<-YFg,<-YFi,YFc (n/q) q,Nat.mod_add_div]
 rw[e1,e2]at hlt⊢
 exact YwA hq (YFC _ hq) ht (YF3 (YFF (by decide)) (YFF hk)) hm hlt
theorem sep_den{L q n num den m k G:Nat}(hL:0<L)(hden:0<den)(hE:num*L=n*den)(hlt:m^den<2^num*k^den)(hsep:m^L<2^n*k^L->2^q*(m^L)^G<=(2^n*k^L)^G):
 2^(q*den)*(m^den)^(G*L)<=(2^num*k^den)^(G*L):=by
 have eY:(m^den)^L=(m^L)^den:=by rw[<-YFh,<-YFh,YFc]
 have eX:(2^num*k^den)^L=(2^n*k^L)^den:=by
  rw[YFo,YFo,<-YFh,<-YFh,<-YFh,<-YFh,hE,YFc den L]
 have h1:=Nat.pow_lt_pow_left hlt (show L≠0 by omega)
 rw[eY,eX]at h1
 have h2:=hsep ((Nat.pow_lt_pow_iff_left (by omega)).1 h1)
 have h3:=YFl h2 den
 have e3:∀w:Nat,(w^G)^den=(w^den)^G:=fun w=>by rw[<-YFh,<-YFh,YFc]
 rw[YFo,<-YFh,e3,e3,<-eY,<-eX,<-YFh _ L G,<-YFh _ L G,YFc L G]at h3
 exact h3
theorem sep_fin{X Y G S w q L d den:Nat}(hY:0<Y)(hL:L=d*q)(hq:0<q)(hden:0<den)(hS:w*d<S)(hgap:2^(q*den)*Y^(G*L)<=X^(G*L))(hlog:X^(G*S)<=Y^(G*S)*2^(den*w)):False:=by
 have h1:=YFl hgap S
 have h2:=YFl hlog L
 have e1:∀z:Nat,(z^(G*L))^S=(z^(G*S))^L:=fun z=>by rw[<-YFh,<-YFh];congr 1;ac_rfl
 rw[YFo,e1,e1,<-YFh]at h1
 rw[YFo,<-YFh 2 (den*w) L]at h2
 have h3:=YFa h1 h2
 rw[YFc ((Y^(G*S))^L)]at h3
 have h4:=YFj h3 (YFF (YFF hY))
 have h5:=(Nat.pow_le_pow_iff_right (by decide)).1 h4
 rw[hL]at h5
 have e5:den*w*(d*q)=q*den*(w*d):=by ac_rfl
 rw[e5]at h5
 have h6:=Nat.le_of_mul_le_mul_left h5 (YF3 hq hden)
 omega
end Go.Proofs.YtmiclogmkfobgaaGreat.LB
set_option maxRecDepth 100000
namespace Go.Proofs.YtmiclogmkfobgaaGreat.LB
theorem Ytx{A M G V U q r u v x y e:Nat}(hA:0<A)(hx:x^q<=2^r*A^q)(hy:2^r*A^q<=y^q)(hxy:y<=x+e)(hG:U*A+V*e*(G+1)<=M*G)(hv:v<=V)(hu:u<=U)(hq:0<q)
 (hfar:M+u*A<=v*x\/M+v*x<=u*A)(h:2^r*v^q<u^q):2^r*v^q*(G+1)^q<=u^q*G^q:=by
 rcases hfar with h1|h1
 ·exfalso
  have h3:=YFl (show u*A<=v*x by omega) q
  rw[YFo,YFo]at h3
  have h4:=YFe (v^q) hx
  have h5:u^q*A^q<=2^r*v^q*A^q:=YFa h3 (YFa h4 (YFr (by ac_rfl)))
  have h6:=YFj h5 (YFF hA)
  omega
 ·have h2:v*y*(G+1)<=u*A*G:=by
   have a1:=YFe v hxy
   have a2:=YE9 e hv
   have a3:=YE9 A hu
   have a4:=YE9 G h1
   rw[YFJ]at a1
   have a5:=YE9 (G+1) (show v*y<=v*x+V*e by omega)
   rw[YFw]at a4
   have e1:(v*x+V*e)*(G+1)=v*x*G+v*x+V*e*(G+1):=by rw[YFw,YFJ (v*x),YGb]
   omega
  have h3:=YFl h2 q
  rw[YFo,YFo,YFo,YFo]at h3
  have h4:=YFe (v^q*(G+1)^q) hy
  refine YFj (c:=A^q) ?_ (YFF hA)
  refine YFa (YFr ?_) (YFa h4 (YFa (YFr ?_) (YFa h3 (YFr ?_)))) <;> ac_rfl
def eU:Nat:=ePt 1004
theorem eUV:eU<=eV:=YmF (by decide)
theorem eU_G:eU*eA+eV*1099511627776*(eG+1)<=eM*eG:=by
 have e1:ePt 1004*ePt 2100=ePt 3104:=ePt_add _ _
 have e2:ePt 1070*ePt 2035=ePt 3105:=ePt_add _ _
 have e3:ePt 1005*ePt 40*ePt 2036=ePt 3081:=by rw[ePt_add,ePt_add]
 have e4:ePt 3081<=ePt 3104:=YmF (by decide)
 have e5:ePt 3105=2*ePt 3104:=by rw[<-ePt_1,ePt_add]
 have e6:ePt 2036=2*ePt 2035:=by rw[<-ePt_1,ePt_add]
 have hp:=ePt_pos 2035
 have e7:ePt 1005*ePt 40*(ePt 2035+1)<=ePt 1005*ePt 40*ePt 2036:=YFe _ (by omega)
 rw[<-YpW]at e7
 unfold eU eA eV eG eM
 rw[YpW]at e7⊢
 omega
theorem Yxs{q r:Nat}(hq:0<q)(h:eFr q r){u v:Nat}(hv0:0<v)(hv:v<=eV)(hu:u<=eU)(hlt:2^r*v^q<u^q):2^r*v^q*(eG+1)^q<=u^q*eG^q:=by
 obtain⟨x,y,hx,hy,hxy,hg⟩:=h
 have hf:=YpT hg (ePt_pos 1070) eVT (v:=(v:Int)) (u:=(u:Int)) (by omega) (Int.ofNat_le.2 hv)
 refine Ytx Ydz hx hy hxy eU_G hv hu hq ?_ hlt
 rw[<-YFU,<-YFU]at hf
 generalize u*eA=a at*
 generalize v*x=b at*
 omega
theorem Ys5{q r:Nat}(hq:0<q)(hr:r<q)(h:eAll q)(hg:YF1 r q=1){u v:Nat}(hv0:0<v)(hu:u<=eU)(hlt:2^r*v^q<u^q):2^q*(2^r*v^q)^eG<=(u^q)^eG:=by
 have hvu:v<u:=by
  have h1:v^q<u^q:=YFG (Nat.le_mul_of_pos_left _ (YFF (by decide))) hlt
  exact(Nat.pow_lt_pow_iff_left (by omega)).1 h1
 have hv:v<=eV:=by have:=eUV;omega
 rcases h r hr hg with rfl|hf
 ·rw[Nat.gcd_zero_left]at hg
  subst hg
  have h1:=Yq5 hv hvu
  have h2:2^0*v^1*(eG+1)^1<=u^1*eG^1:=by rw[YGn,YFR,YGl,YGl,YGl,YGl];exact h1
  exact Yij YjO h2
 ·exact Yij YjO (Yxs hq hf hv0 hv hu hlt)
theorem Ys8{q r:Nat}(hq:0<q)(hr:r<q)(h:∀e,e∣q->eAll e){u v:Nat}(hv0:0<v)(hu:u<=eU)(hlt:2^r*v^q<u^q):2^q*(2^r*v^q)^eG<=(u^q)^eG:=by
 obtain⟨g,hgd⟩:∃g,g=YF1 r q:=⟨_,rfl⟩
 have hg0:0<g:=by rw[hgd];exact Nat.gcd_pos_of_pos_right _ hq
 obtain⟨r1,hr1⟩:g∣r:=by rw[hgd];exact Nat.gcd_dvd_left _ _
 obtain⟨q1,hq1⟩:g∣q:=by rw[hgd];exact Nat.gcd_dvd_right _ _
 have hc:YF1 r1 q1=1:=by
  have e:=hgd
  rw[hr1,hq1,Nat.gcd_mul_left]at e
  exact Nat.eq_of_mul_eq_mul_left hg0 (by omega)
 have hq0:0<q1:=by
  rcases YFB q1 with e|e
  ·rw[e]at hq1;omega
  ·exact e
 have hr2:r1<q1:=by
  rw[hr1,hq1]at hr
  exact Nat.lt_of_mul_lt_mul_left hr
 have e1:∀w:Nat,w^q=(w^q1)^g:=fun w=>by rw[hq1,YFc,YFh]
 have e2:2^r=(2^r1)^g:=by rw[hr1,YFc,YFh]
 rw[e1 u,e1 v,e2,<-YFo]at hlt
 have hlt':=(Nat.pow_lt_pow_iff_left (by omega)).1 hlt
 have hk:=Ys5 hq0 hr2 (h q1 ⟨g,by rw[hq1,YFc]⟩) hc hv0 hu hlt'
 have hk2:=YFl hk g
 rw[e1 u,e1 v,e2,<-YFo]
 have sw:∀w:Nat,(w^eG)^g=(w^g)^eG:=fun w=>by rw[<-YFh,<-YFh,YFc]
 have e3:(2^q1)^g=2^q:=by rw[<-YFh,YFc,<-hq1]
 rw[YFo,sw,sw,e3]at hk2
 exact hk2
theorem sep_L2{d q n m k:Nat}(hq:0<q)(ht:∀e,e∣q->eAll e)(hk:1<=k)(hm:m^d<=eU)(hlt:2^n*k^(d*q)<m^(d*q)):2^q*(2^n*k^(d*q))^eG<=(m^(d*q))^eG:=by
 have e1:m^(d*q)=(m^d)^q:=YFh _ _ _
 have e2:2^n*k^(d*q)=2^(n%q)*(2^(n/q)*k^d)^q:=by
  rw[YFo,<-YFh,<-YFh,<-YFg,<-YFi,YFc (n/q) q,Nat.mod_add_div]
 rw[e1,e2]at hlt⊢
 exact Ys8 hq (YFC _ hq) ht (YF3 (YFF (by decide)) (YFF hk)) hm hlt
theorem sep_den2{L q n num den m k G:Nat}(hL:0<L)(hden:0<den)(hE:num*L=n*den)(hlt:2^num*k^den<m^den)(hsep:2^n*k^L<m^L->2^q*(2^n*k^L)^G<=(m^L)^G):
 2^(q*den)*(2^num*k^den)^(G*L)<=(m^den)^(G*L):=by
 have eY:(m^den)^L=(m^L)^den:=by rw[<-YFh,<-YFh,YFc]
 have eX:(2^num*k^den)^L=(2^n*k^L)^den:=by
  rw[YFo,YFo,<-YFh,<-YFh,<-YFh,<-YFh,hE,YFc den L]
 have h1:=Nat.pow_lt_pow_left hlt (show L≠0 by omega)
 rw[eY,eX]at h1
 have h2:=hsep ((Nat.pow_lt_pow_iff_left (by omega)).1 h1)
 have h3:=YFl h2 den
 have e3:∀w:Nat,(w^G)^den=(w^den)^G:=fun w=>by rw[<-YFh,<-YFh,YFc]
 rw[YFo,<-YFh,e3,e3,<-eY,<-eX,<-YFh _ L G,<-YFh _ L G,YFc L G]at h3
 exact h3
end Go.Proofs.YtmiclogmkfobgaaGreat.LB
namespace Go.Proofs.YtmiclogmkfobgaaGreat
open Go Go.Vx
def cdiv(x d:Nat):Nat:=if x/d*d<x then x/d+1 else x/d
theorem Ya9(x d:Nat)(hd:0<d):x<=cdiv x d*d:=by
 have h:=YFH x d
 have h2:=YFC x hd
 rw[YFc]at h
 unfold cdiv
 split
 ·rw[YFw,YFR];omega
 ·omega
theorem Yam{x d k:Nat}(h:x<=k*d):cdiv x d<=k:=by
 unfold cdiv
 rcases YFB d with h0|h0
 ·subst h0
  simp only[Nat.mul_zero,Nat.div_zero]at*
  split <;> omega
 split
 ·rename_i h1
  rw[Nat.lt_iff_add_one_le]at*
  refine Nat.lt_of_mul_lt_mul_right (a:=d) ?_
  omega
 ·exact Nat.div_le_of_le_mul (by rw[YFc];exact h)
theorem Yqy(x d:Nat):x/d<=cdiv x d:=by
 unfold cdiv
 split <;> omega
theorem Ydb{x y d:Nat}(h:x<=y):x/d<=cdiv y d:=YFa (Nat.div_le_div_right h) (Yqy y d)
theorem Ypu{x d:Nat}(hd:0<d):cdiv (cdiv x d) 2=cdiv x (d*2):=by
 refine Nat.le_antisymm (Yam (Yam ?_)) (Yam ?_)
 ·have:=Ya9 x (d*2) (by omega)
  rw[YFg,YFc 2 d];exact this
 ·have h1:=Ya9 x d hd
  have h2:=YE9 d (Ya9 (cdiv x d) 2 (by decide))
  rw[YFc d 2,<-YFg];omega
def gl(M:Nat)(t:Bool):Nat->Nat->Nat->Nat->Nat×Nat
 |0,_,_,S=>(S,S+1)
 |f+1,A,B,S=>
  if A*A/M<2*M then
   if cdiv (B*B) M<2*M then gl M t f (A*A/M) (cdiv (B*B) M) (2*S)
   else(S*2^(f+1),(S+1)*2^(f+1))
  else
   if(t&&decide (2*M<=cdiv (cdiv (B*B) M) 2))=true then(S*2^(f+1),(S+1)*2^(f+1))
   else gl M t f (A*A/M/2) (cdiv (cdiv (B*B) M) 2) (2*S+1)
theorem YeX(M:Nat)(t:Bool):∀(f A B S:Nat),S*2^f<=(gl M t f A B S).1/\(gl M t f A B S).2<=(S+1)*2^f
 |0,A,B,S=>by simp [gl]
 |f+1,A,B,S=>by
  have e1:∀x,x*2^(f+1)=x*2*2^f:=fun x=>by rw[YFm,YFg,YFc 2 (2^f)]
  have m:∀x y,x<=y->x*2^f<=y*2^f:=fun x y h=>YE9 _ h
  rw[gl]
  split
  ·split
   ·obtain⟨h1,h2⟩:=YeX M t f (A*A/M) (cdiv (B*B) M) (2*S)
    rw[e1,e1]
    exact⟨YFa (m _ _ (by omega)) h1,YFa h2 (m _ _ (by omega))⟩
   ·exact⟨YFk _,YFk _⟩
  ·split
   ·exact⟨YFk _,YFk _⟩
   ·obtain⟨h1,h2⟩:=YeX M t f (A*A/M/2) (cdiv (cdiv (B*B) M) 2) (2*S+1)
    rw[e1,e1]
    exact⟨YFa (m _ _ (by omega)) h1,YFa h2 (m _ _ (by omega))⟩
theorem YvC{P A N M A1:Nat}(hM:0<M)(h:P*A<=N*M)(h1:A1*M<=A*A):P*P*A1<=N*N*M:=by
 refine YFj (c:=M) ?_ hM
 have k1:P*P*(A1*M)<=P*P*(A*A):=YFe _ h1
 have k2:(P*A)*(P*A)<=(N*M)*(N*M):=YFt h h
 have e1:P*P*A1*M=P*P*(A1*M):=YFg ..
 have e2:P*P*(A*A)=(P*A)*(P*A):=by simp only[YFg,YFY]
 have e3:(N*M)*(N*M)=N*N*M*M:=by simp only[YFg,YFY]
 omega
theorem YrT{P B N M B1:Nat}(hM:0<M)(h:N*M<=P*B)(h1:B*B<=B1*M):N*N*M<=P*P*B1:=by
 refine YFj (c:=M) ?_ hM
 have k1:P*P*(B*B)<=P*P*(B1*M):=YFe _ h1
 have k2:(N*M)*(N*M)<=(P*B)*(P*B):=YFt h h
 have e1:P*P*B1*M=P*P*(B1*M):=YFg ..
 have e2:P*P*(B*B)=(P*B)*(P*B):=by simp only[YFg,YFY]
 have e3:(N*M)*(N*M)=N*N*M*M:=by simp only[YFg,YFY]
 omega
theorem YcW(S:Nat):2^(2*S)=2^S*2^S:=by rw[<-YFi];congr 1;omega
theorem Yrb(N f:Nat):N^(2^(f+1))=(N*N)^(2^f):=by
 rw[YFm,YFc (2^f) 2,YFh,Nat.pow_two]
theorem Yil(M:Nat)(t:Bool)(hM:0<M):∀(f A B S N:Nat),2^S*A<=N*M->N*M<=2^S*B->M<=A->B<=2*M->2^(gl M t f A B S).1<=N^(2^f)/\N^(2^f)<=2^(gl M t f A B S).2:=by
 have stop:∀(f A B S N:Nat),2^S*A<=N*M->N*M<=2^S*B->M<=A->B<=2*M->2^S<=N/\N<=2^(S+1):=by
  intro f A B S N h1 h2 ha hb
  constructor
  ·refine YFj (c:=M) ?_ hM
   have:=YFe (2^S) ha
   omega
  ·refine YFj (c:=M) ?_ hM
   have:=YFe (2^S) hb
   rw[YFm,YFg]
   omega
 have stop2:∀(f S N:Nat),2^S<=N/\N<=2^(S+1)->2^(S*2^f)<=N^(2^f)/\N^(2^f)<=2^((S+1)*2^f):=fun f S N h=>by
  rw[YFh,YFh]
  exact⟨YFl h.1 _,YFl h.2 _⟩
 intro f
 induction f with
 |zero=>
  intro A B S N h1 h2 ha hb
  have:=stop 0 A B S N h1 h2 ha hb
  simpa [gl]using this
 |succ f ih=>
  intro A B S N h1 h2 ha hb
  have hs:=stop2 (f+1) S N (stop f A B S N h1 h2 ha hb)
  have hA:A*A/M*M<=A*A:=Nat.div_mul_le_self _ _
  have hB:B*B<=cdiv (B*B) M*M:=Ya9 _ _ hM
  have k1:=YvC hM h1 hA
  have k2:=YrT hM h2 hB
  have hA1:M<=A*A/M:=(YF0 hM).2 (YFt ha ha)
  have hB1:cdiv (B*B) M<=4*M:=Yam (by
   have:=YFt hb hb
   have e:4*M*M=2*M*(2*M):=by rw[Nat.mul_mul_mul_comm,YFg]
   omega)
  rw[gl,Yrb]
  rw[Yrb]at hs
  split
  ·split
   ·refine ih _ _ _ _ ?_ ?_ hA1 (by omega)
    ·rw[YcW];exact k1
    ·rw[YcW];exact k2
   ·exact hs
  ·rename_i hge
   split
   ·exact hs
   ·have hB2:cdiv (B*B) M<=cdiv (cdiv (B*B) M) 2*2:=Ya9 _ _ (by decide)
    have hA2:A*A/M/2*2<=A*A/M:=Nat.div_mul_le_self _ _
    have e3:∀x,2^(2*S+1)*x=2^S*2^S*(x*2):=fun x=>by rw[YFm,YcW,YFg,YFc 2 x]
    refine ih _ _ _ _ ?_ ?_ (by omega) (Yam (by omega))
    ·rw[e3]
     exact YFa (YFe _ hA2) k1
    ·rw[e3]
     exact YFa k2 (YFe _ hB2)
theorem Yqb(M E:Nat)(t:Bool)(hM:0<M)(hE:0<E)(g:Nat):∀(f A B S A' B':Nat),E*A<=A'->A'<=B'->B'<=E*B->
 (gl M t f A B S).1*2^g<=(gl (M*E) false (f+g) A' B' S).1/\(gl (M*E) false (f+g) A' B' S).2<=(gl M t f A B S).2*2^g:=by
 intro f
 induction f with
 |zero=>
  intro A B S A' B' _ _ _
  have:=YeX (M*E) false (0+g) A' B' S
  simpa [gl]using this
 |succ f ih=>
  intro A B S A' B' ha hab hb
  have stop:S*2^(f+1)*2^g<=(gl (M*E) false (f+1+g) A' B' S).1/\(gl (M*E) false (f+1+g) A' B' S).2<=(S+1)*2^(f+1)*2^g:=by
   have:=YeX (M*E) false (f+1+g) A' B' S
   rw[YFg,YFg,<-YFi]
   exact this
  have hME:0<M*E:=YF3 hM hE
  have q1:E*(A*A/M)<=A'*A'/(M*E):=by
   rw[YF0 hME]
   have h1:A*A/M*M<=A*A:=Nat.div_mul_le_self _ _
   have h2:=YFe (E*E) h1
   have h3:=YFt ha ha
   have e1:E*(A*A/M)*(M*E)=E*E*(A*A/M*M):=by simp only[YFg,YFY,YFc]
   have e2:E*A*(E*A)=E*E*(A*A):=by simp only[YFg,YFY,YFc]
   omega
  have q2:cdiv (B'*B') (M*E)<=E*cdiv (B*B) M:=Yam (by
   have h1:B*B<=cdiv (B*B) M*M:=Ya9 _ _ hM
   have h2:=YFe (E*E) h1
   have h3:=YFt hb hb
   have e1:E*cdiv (B*B) M*(M*E)=E*E*(cdiv (B*B) M*M):=by simp only[YFg,YFY,YFc]
   have e2:E*B*(E*B)=E*E*(B*B):=by simp only[YFg,YFY,YFc]
   omega)
  have q3:A'*A'/(M*E)<=cdiv (B'*B') (M*E):=Ydb (YFt hab hab)
  have e2M:2*(M*E)=E*(2*M):=by rw[<-YFg,YFc]
  by_cases c1:A*A/M<2*M
  ·by_cases c2:cdiv (B*B) M<2*M
   ·have d2:cdiv (B'*B') (M*E)<2*(M*E):=by
     rw[e2M]
     exact YFG q2 (Nat.mul_lt_mul_of_pos_left c2 hE)
    have d1:A'*A'/(M*E)<2*(M*E):=by omega
    rw[show f+1+g=(f+g)+1 by omega,gl,if_pos c1,if_pos c2,gl,if_pos d1,if_pos d2]
    exact ih _ _ _ _ _ q1 q3 q2
   ·rw[gl.eq_def M t (f+1)]
    simp only
    rw[if_pos c1,if_neg c2]
    exact stop
  ·have d1:¬A'*A'/(M*E)<2*(M*E):=by
    have:E*(2*M)<=E*(A*A/M):=YFe _ (by omega)
    omega
   by_cases c2:(t&&decide (2*M<=cdiv (cdiv (B*B) M) 2))=true
   ·rw[gl.eq_def M t (f+1)]
    simp only
    rw[if_neg c1,if_pos c2]
    exact stop
   ·rw[show f+1+g=(f+g)+1 by omega,gl,if_neg c1,if_neg c2,gl,if_neg d1,if_neg (by simp)]
    refine ih _ _ _ _ _ ?_ (Ydb q3) (Yam ?_)
    ·rw[YF0 (by decide)]
     have h1:A*A/M/2*2<=A*A/M:=Nat.div_mul_le_self _ _
     have h2:=YFe E h1
     rw[YFg];omega
    ·have h1:cdiv (B*B) M<=cdiv (cdiv (B*B) M) 2*2:=Ya9 _ _ (by decide)
     have h2:=YFe E h1
     rw[YFg];omega
end Go.Proofs.YtmiclogmkfobgaaGreat
