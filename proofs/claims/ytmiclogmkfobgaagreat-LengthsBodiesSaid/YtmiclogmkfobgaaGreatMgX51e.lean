/- Words of 64 bits, walked: Len64, LeadingZeros64, Mul64, Div64. -/
import Derived.Test.YtmiclogmkfobgaaGreatMgX51d
import Derived.Test.YtmiclogmkfobgaaGreatBL
open And renaming intro->YGH
open Bool renaming and_eq_false_iff->YGZ,and_eq_true->YGi,eq_iff_iff->YHz,false_and->YHp,false_eq_true->YGC,false_or->YHx,not_and->YHt,not_eq_false'->YG0,not_eq_true'->YGA,or_eq_false_iff->YG8,or_eq_true->YG6,true_and->YHq
open Int renaming eq_ofNat_of_zero_le->YGM,mul_le_mul_of_nonneg_right->YGE,mul_nonneg->YHv,natCast_mul->YG1,toNat->YHE,toNat_natCast->YGb,toNat_zero->YHw
open Go.IntWalk renaming i64_in->YGd,u64_in->YGF,up_tdiv->YHh,up_tmod->YHF
open List renaming getD_eq_getElem?_getD->YGl,getElem?_append_left->YGR,getElem?_append_right->YG4,getElem?_take->YHl,length_append->YHg,length_cons->YHf,length_take->YHb,mem_append->YGT,mem_cons->YGK,mem_cons_of_mem->YGx,mem_cons_self->YGy,mem_singleton->YGU,take_length->YHe
open Nat renaming add_zero->YHi,div_add_mod->YGP,div_le_self->YHm,div_lt_iff_lt_mul->YGL,eq_zero_or_pos->YGI,gcd->YHa,le_div_iff_mul_le->YG9,le_of_eq->YGu,le_of_lt->YHn,le_of_not_lt->YHy,le_refl->YGr,le_trans->YGg,lt_of_le_of_lt->YGN,lt_or_ge->YGz,mod_lt->YGJ,mul_assoc->YGm,mul_comm->YGj,mul_le_mul->YGB,mul_le_mul_left->YGk,mul_le_mul_right->YGf,mul_left_comm->YG5,mul_one->YHj,mul_pos->YHd,pow_add->YGo,pow_le_pow_left->YGp,pow_le_pow_right->YGs,pow_one->YHr,pow_succ->YGt,pow_zero->YHA,reduceAdd->YGa,reduceEqDiff->YF8,reduceLeDiff->YF9,reduceMul->YHC,succ_mul->YHD,zero_add->YHu,zero_le->YHk
open Go.Proofs.Tryz renaming prog->YGc
set_option linter.all false
namespace Go.Proofs.YtmiclogmkfobgaaGreat
open Go Go.Vx
set_option maxRecDepth 100000
set_option maxHeartbeats 4000000
theorem YfM:∀(f x:Nat),x<2^f->Lib.bitLenAux f x=Yo x
 |0,x,h=>by
  have:x=0:=by simpa using h
  subst this;rfl
 |f+1,x,h=>by
  rw[Lib.bitLenAux]
  split
  ·rename_i h0;subst h0;rfl
  ·rename_i h0
   rw[YGt]at h
   rw[YfM f (x/2) (by omega),Yfp (a:=x) (by omega)];omega
theorem Yqc{x:Nat}(h:x<18446744073709551616):Lib.bitLen x=Yo x:=YfM 64 x h
def len64C:Ctr:={ alias:=false,of:=fun l=>match l with
 | [.int .u64 x]=> .pre (0<=x/\x<=18446744073709551615) (.fin (.int .i64 (Yo x.toNat)) [])
 |_=>noC}
theorem Yji:len64C.ok YGc 146:=by
 intro args vs z k hsat hx hc
 simp only[len64C]at hc
 split at hc
 ·rename_i x
  obtain⟨⟨h0,h1⟩,hc⟩:=hc
  cases hx with|cons _ v _ l g1 hx=>
  cases hx
  cases g1
  refine(len64_calls x z.toWorld h0 h1).mono ?_
  rintro e w' ⟨rfl,rfl⟩
  rw[Yqc (by omega)]
  exact⟨_,[],_,[],z.I,Yaa z,hc,rfl,.x _ _ (.int _ _),hp0 (hJ:=Yaa z) hsat,BelowI.refl _ _,fun _=>⟨trivial,trivial⟩⟩
 ·exact hc.1.elim
def v136:VF:=⟨6,[.tmp 2],(ZR [Zi 2 0] (ZR [Zm 3 0,Zc 4 146 3,u1 5 (.ari .sub) [.cn (.int .i64 64),.tm 4],Zm 2 5] .ret))⟩
theorem YAK:Yg YGc Tryz.f136=some v136:=by kernel_rfl
def v80:VF:=⟨51,[.tmp 4,.tmp 5],(ZR [u1 4 .mov [.cn (.int .u64 0)],u1 5 .mov [.cn (.int .u64 0)]] (ZR [Zm 14 0,u1 15 (.bit .and) [.tm 14,.cn (.int .u64 4294967295)],Zm 6 15] (ZR [Zm 16 0,u1 17 .shr [.tm 16,.cn (.int .u64 32)],Zm 7 17] (ZR [Zm 18 1,u1 19 (.bit .and) [.tm 18,.cn (.int .u64 4294967295)],Zm 8 19] (ZR [Zm 20 1,u1 21 .shr [.tm 20,.cn (.int .u64 32)],Zm 9 21] (ZR [Zm 22 6,Zm 23 8,Zo 24 .mul 22 23,Zm 10 24] (ZR [Zm 25 7,Zm 26 8,Zo 27 .mul 25 26,Zm 28 10,u1 29 .shr [.tm 28,.cn (.int .u64 32)],Zo 30 .add 27 29,Zm 11 30] (ZR [Zm 31 11,u1 32 (.bit .and) [.tm 31,.cn (.int .u64 4294967295)],Zm 12 32] (ZR [Zm 33 11,u1 34 .shr [.tm 33,.cn (.int .u64 32)],Zm 13 34] (ZR [Zm 35 12,Zm 36 6,Zm 37 9,Zo 38 .mul 36 37,Zo 39 .add 35 38,Zm 12 39] (ZR [Zm 40 7,Zm 41 9,Zo 42 .mul 40 41,Zm 43 13,Zo 44 .add 42 43,Zm 45 12,u1 46 .shr [.tm 45,.cn (.int .u64 32)],Zo 47 .add 44 46,Zm 4 47] (ZR [Zm 48 0,Zm 49 1,Zo 50 .mul 48 49,Zm 5 50] .ret))))))))))))⟩
theorem YFK:Yg YGc Tryz.f80=some v80:=by kernel_rfl
def v109:VF:=⟨135,[.tmp 6,.tmp 7],(ZR [u1 6 .mov [.cn (.int .u64 0)],u1 7 .mov [.cn (.int .u64 0)]] (.seq (ZR [Zm 19 2,u1 20 (.cmp .eql) [.tm 19,.cn (.int .u64 0)]] (ZC 20 .stuck .skip)) (.seq (ZR [Zm 22 2,Zm 23 0,Zr 24 .leq 22 23] (ZC 24 .stuck .skip)) (.seq (ZR [Zm 26 0,u1 27 (.cmp .eql) [.tm 26,.cn (.int .u64 0)]] (ZC 27 (.seq (.draw [] [Zu 28 1,Zu 29 2,w1 30 .quo [.tm 28,.tm 29],Zu 31 1,Zu 32 2,w1 33 .rem [.tm 31,.tm 32],Zu 6 30,Zu 7 33]) .ret) .skip)) (ZR [Zm 34 2,Zc 35 136 34,u1 36 (.conv .u64) [.tm 35],Zm 8 36] (ZR [Zm 37 2,Zm 38 8,u1 39 .shl [.tm 37,.tm 38],Zm 2 39] (ZR [Zm 40 2,u1 41 .shr [.tm 40,.cn (.int .u64 32)],Zm 9 41] (ZR [Zm 42 2,u1 43 (.bit .and) [.tm 42,.cn (.int .u64 4294967295)],Zm 10 43] (ZR [Zm 44 0,Zm 45 8,u1 46 .shl [.tm 44,.tm 45],Zm 47 1,Zm 48 8,u1 49 (.ari .sub) [.cn (.int .u64 64),.tm 48],u1 50 .shr [.tm 47,.tm 49],u1 51 (.bit .or) [.tm 46,.tm 50],Zm 11 51] (ZR [Zm 52 1,Zm 53 8,u1 54 .shl [.tm 52,.tm 53],Zm 12 54] (ZR [Zm 55 12,u1 56 .shr [.tm 55,.cn (.int .u64 32)],Zm 13 56] (ZR [Zm 57 12,u1 58 (.bit .and) [.tm 57,.cn (.int .u64 4294967295)],Zm 14 58] (ZR [Zm 59 11,Zm 60 9,u1 61 .quo [.tm 59,.tm 60],Zm 15 61] (ZR [Zm 62 11,Zm 63 15,Zm 64 9,Zo 65 .mul 63 64,Zo 66 .sub 62 65,Zm 16 66] (.seq (.block 0 (.loop (.seq (ZR [Zm 67 15,u1 68 (.cmp .geq) [.tm 67,.cn (.int .u64 4294967296)],Zm 69 68,Zg 70 69 false 15,Zg 71 69 false 10,u2 72 69 false (.ari .mul) [.tm 70,.tm 71],Zg 73 69 false 16,u2 74 69 false (.ari .mul) [.cn (.int .u64 4294967296),.tm 73],Zg 75 69 false 13,u2 76 69 false (.ari .add) [.tm 74,.tm 75],u2 77 69 false (.cmp .gtr) [.tm 72,.tm 76],u1 78 .or [.tm 69,.tm 77]] (ZC 78 .skip (.exit 0))) (.block 1 (ZR [Zm 79 15,u1 80 (.ari .sub) [.tm 79,.cn (.int .u64 1)],Zm 15 80] (ZR [Zm 81 16,Zm 82 9,Zo 83 .add 81 82,Zm 16 83] (ZR [Zm 84 16,u1 85 (.cmp .geq) [.tm 84,.cn (.int .u64 4294967296)]] (ZC 85 (.exit 0) .skip)))))))) (ZR [Zm 86 11,u1 87 (.ari .mul) [.tm 86,.cn (.int .u64 4294967296)],Zm 88 13,Zo 89 .add 87 88,Zm 90 15,Zm 91 2,Zo 92 .mul 90 91,Zo 93 .sub 89 92,Zm 17 93] (ZR [Zm 94 17,Zm 95 9,u1 96 .quo [.tm 94,.tm 95],Zm 18 96] (ZR [Zm 97 17,Zm 98 18,Zm 99 9,Zo 100 .mul 98 99,Zo 101 .sub 97 100,Zm 16 101] (.seq (.block 2 (.loop (.seq (ZR [Zm 102 18,u1 103 (.cmp .geq) [.tm 102,.cn (.int .u64 4294967296)],Zm 104 103,Zg 105 104 false 18,Zg 106 104 false 10,u2 107 104 false (.ari .mul) [.tm 105,.tm 106],Zg 108 104 false 16,u2 109 104 false (.ari .mul) [.cn (.int .u64 4294967296),.tm 108],Zg 110 104 false 14,u2 111 104 false (.ari .add) [.tm 109,.tm 110],u2 112 104 false (.cmp .gtr) [.tm 107,.tm 111],u1 113 .or [.tm 104,.tm 112]] (ZC 113 .skip (.exit 2))) (.block 3 (ZR [Zm 114 18,u1 115 (.ari .sub) [.tm 114,.cn (.int .u64 1)],Zm 18 115] (ZR [Zm 116 16,Zm 117 9,Zo 118 .add 116 117,Zm 16 118] (ZR [Zm 119 16,u1 120 (.cmp .geq) [.tm 119,.cn (.int .u64 4294967296)]] (ZC 120 (.exit 2) .skip)))))))) (ZR [Zm 121 15,u1 122 (.ari .mul) [.tm 121,.cn (.int .u64 4294967296)],Zm 123 18,Zo 124 .add 122 123,Zm 125 17,u1 126 (.ari .mul) [.tm 125,.cn (.int .u64 4294967296)],Zm 127 14,Zo 128 .add 126 127,Zm 129 18,Zm 130 2,Zo 131 .mul 129 130,Zo 132 .sub 128 131,Zm 133 8,u1 134 .shr [.tm 132,.tm 133],Zm 6 124,Zm 7 134] .ret))))))))))))))))))))⟩
theorem YAl:Yg YGc Tryz.f109=some v109:=by kernel_rfl
def lz64C:Ctr:={ alias:=false,of:=fun l=>match l with
 | [.int .u64 x]=> .pre (0<=x/\x<=18446744073709551615) (.fin (.int .i64 (64-(Yo x.toNat:Int))) [])
 |_=>noC}
def mul64C:Ctr:={ alias:=false,of:=fun l=>match l with
 | [.int .u64 x,.int .u64 y]=> .pre ((0<=x/\x<=18446744073709551615)/\0<=y/\y<=18446744073709551615) (.fin (.tup [.int .u64 (x*y/18446744073709551616),.int .u64 (x*y%18446744073709551616)]) [])
 |_=>noC}
def div64C:Ctr:={ alias:=false,of:=fun l=>match l with
 | [.int .u64 h,.int .u64 x,.int .u64 y]=> .pre ((0<=x/\x<=18446744073709551615)/\0<=h/\h<y/\y<=18446744073709551615) (.fin (.tup [.int .u64 ((h*18446744073709551616+x)/y),.int .u64 ((h*18446744073709551616+x)%y)]) [])
 |_=>noC}
def B0:Env:={ ct:=fun n=>match n with|146=>some len64C|_=>none,fn:=fun _=>none,meth:=fun _ _=>none}
theorem Ys9:B0.ct 146=some len64C:=rfl
theorem YBn:Yq YGc B0:=by
 refine⟨fun f c h=>?_,fun f vf h=>?_,(fun _ _ _ h=>by cases h),by kernel_rfl,(fun _ h=>by cases h)⟩
 ·simp only[B0]at h
  split at h
  ·cases h;exact⟨Yji,Tryz.f146,Tryz.func146,by kernel_rfl,by kernel_rfl⟩
  ·cases h
 ·cases h
theorem YyU:lz64C.ok YGc 136:=by
 refine Yb Tryz.func136 YAK YBn 100 lz64C fun args k h=>?_
 simp only[lz64C]at h
 split at h
 ·rename_i x
  obtain⟨⟨h0,h1⟩,h⟩:=h
  refine⟨[.int .u64 x],by simp [leL,le],?_⟩
  (try dsimp only[v136,Ys9,len64C,go_sem,reduceIte])
  (try simp only[Yc,YGa,YF9,reduceCtorEq,YF8])
  refine⟨⟨h0,h1⟩,Yf ?_⟩
  have:Yo x.toNat<=64:=bitsN_le.2 (by have:(2:Nat)^64=18446744073709551616:=rfl;omega)
  rw[YGd _ (by omega)]
  exact h
 ·exact h.1.elim
theorem Yka{x:Nat}(h:x<18446744073709551616):bitI .and .u64 (x:Int) 4294967295=((x%4294967296:Nat):Int):=Yt7 h
theorem Yub{x y:Nat}(hx:x<18446744073709551616)(hy:y<18446744073709551616):bitI .or .u64 (x:Int) (y:Int)=((x||| y:Nat):Int):=Yr0 hx hy
theorem Ye3:mul64C.ok YGc 80:=by
 refine Yb Tryz.func80 YFK YBn 200 mul64C fun args k h=>?_
 simp only[mul64C]at h
 split at h
 ·rename_i x y
  obtain⟨⟨⟨h0,h1⟩,h2,h3⟩,h⟩:=h
  obtain⟨x,rfl⟩:=YGM h0
  obtain⟨y,rfl⟩:=YGM h2
  refine⟨[.int .u64 x,.int .u64 y],by simp [leL,le],?_⟩
  (try dsimp only[v80,go_sem,reduceIte])
  (try simp only[Yc,YGa,YF9,reduceCtorEq,YF8])
  have hx:x<18446744073709551616:=by omega
  have hy:y<18446744073709551616:=by omega
  obtain⟨e,b1,b2,b3,b4,b5,b6,b7,b8⟩:=YDh hx hy
  have s32:∀z:Nat,(z:Int).fdiv (2^min (YHE 32) IntKind.u64.bits)=((z/4294967296:Nat):Int):=fun z=>YbL (s:=32) (by decide)
  have hm:∀z:Nat,z%4294967296<18446744073709551616:=fun z=>by omega
  try rw[show IntKind.u64.bits=64 from rfl]at*
  rw[Yka hx,Yka hy,s32 x,s32 y,Yll b1,s32 (x%4294967296*(y%4294967296)),Yll b2,Yea b3,s32 (x/4294967296*(y%4294967296)+x%4294967296*(y%4294967296)/4294967296),Yka b3,Yll b4,Yea b5,s32,Yll b6,Yea b7,Yea b8,e,Ymi]
  refine⟨by decide,by decide,by decide,by decide,by decide,?_⟩
  have h:k (.tup [.int .u64 ((x:Int)*y/18446744073709551616),.int .u64 ((x:Int)*y%18446744073709551616)]) []:=h
  have e2:((x*y/18446744073709551616:Nat):Int)=(x:Int)*y/18446744073709551616:=by
   rw[<-YG1];generalize x*y=z;omega
  rw[e2]
  exact Yc1 h
 ·exact h.1.elim
def B2:Env:={ ct:=fun n=>match n with|136=>some lz64C|_=>none,fn:=fun _=>none,meth:=fun _ _=>none}
theorem Yta:B2.ct 136=some lz64C:=rfl
theorem B2_ok:Yq YGc B2:=by
 refine⟨fun f c h=>?_,fun f vf h=>?_,(fun _ _ _ h=>by cases h),by kernel_rfl,(fun _ h=>by cases h)⟩
 ·simp only[B2]at h
  split at h
  ·cases h;exact⟨YyU,Tryz.f136,Tryz.func136,by kernel_rfl,by kernel_rfl⟩
  ·cases h
 ·cases h
theorem YiQ:div64C.ok YGc 109:=by
 refine Yb Tryz.func109 YAl B2_ok 300 div64C fun args k h=>?_
 simp only[div64C]at h
 split at h
 ·rename_i hh x y
  obtain⟨⟨⟨h0,h1⟩,h2,h3,h4⟩,h⟩:=h
  obtain⟨x,rfl⟩:=YGM h0
  obtain⟨hh,rfl⟩:=YGM h2
  obtain⟨y,rfl⟩:=YGM (by omega:0<=y)
  refine⟨[.int .u64 hh,.int .u64 x,.int .u64 y],by simp [leL,le],?_⟩
  (try dsimp only[v109,Yta,lz64C,go_sem,reduceIte])
  (try simp only[Yc,YGa,YF9,reduceCtorEq,YF8])
  have hx:x<18446744073709551616:=by omega
  have hy:y<18446744073709551616:=by omega
  have hlt:hh<y:=by omega
  try rw[show IntKind.u64.bits=64 from rfl]at*
  refine⟨fun hc=>by omega,fun _=>⟨fun hc=>by omega,fun _=>⟨fun hz=>?_,fun hz=>?_⟩⟩⟩
  ·obtain rfl:hh=0:=by omega
   have e1:(x:Int).tdiv y=((x/y:Nat):Int):=YHh rfl rfl
   have e2:(x:Int).tmod y=((x%y:Nat):Int):=YHF rfl rfl
   have h:k (.tup [.int .u64 ((((0:Nat):Int)*18446744073709551616+x)/y),.int .u64 ((((0:Nat):Int)*18446744073709551616+x)%y)]) []:=h
   have e3:((0:Nat):Int)*18446744073709551616+x=x:=by omega
   rw[e3]at h
   rw[e1,e2,Ya7 (YGN (YHm _ _) hx)]
   refine⟨by omega,by omega,?_⟩
   exact Yc1 h
  ·obtain⟨s,hs⟩:∃s,s=64-Yo y:=⟨_,rfl⟩
   obtain⟨f1,f2,f3⟩:=YoC hy (by omega)
   rw[<-hs]at f2 f3
   have hs64:s<=64:=by omega
   obtain⟨g1,g2,g3⟩:=YuA (h:=hh) hs64 hx
   have hsh:hh*2^s<y*2^s:=Nat.mul_lt_mul_of_pos_right hlt (YH s)
   have es:IntKind.u64.wrap (64-(Yo ((y:Int)).toNat:Int))=(s:Int):=by
    rw[YGb,YGF _ (by omega)];omega
   have es2:IntKind.u64.wrap (64-(s:Int))=((64-s:Nat):Int):=by rw[YGF _ (by omega)];omega
   have sY:=YfH hs64 f3
   have sH:=YfH hs64 (Nat.lt_trans hsh f3)
   have sX1:=YbL (x:=x) (s:=64-s) (by omega)
   have hxs:x/2^(64-s)<18446744073709551616:=YGN (YHm _ _) hx
   have sO:=Yub (Nat.lt_trans hsh f3) hxs
   rw[g1]at sO
   have sX:IntKind.u64.wrap ((x:Int)*2^min s 64)=((x*2^s%18446744073709551616:Nat):Int):=by
    rw[Nat.min_eq_left hs64]
    have:(x:Int)*2^s=((x*2^s:Nat):Int):=by simp
    rw[this,YEJ]
   have s32:∀z:Nat,(z:Int).fdiv (2^min (YHE 32) 64)=((z/4294967296:Nat):Int):=fun z=>YbL (s:=32) (by decide)
   have mY:=Yka f3
   have mX:=Yka (YGJ (x*2^s) (show 0<18446744073709551616 by omega))
   rw[es]
   simp only[YGb,es2,sY,sH,sX1,sO,sX,s32,mY,mX]
   have hN:=g3
   generalize hY:y*2^s=Y at f2 f3 hsh⊢
   generalize hX:x*2^s%18446744073709551616=X at hN⊢
   generalize hA:hh*2^s+x/2^(64-s)=A at hN⊢
   have hX6:X<18446744073709551616:=by rw[<-hX];exact YGJ _ (show 0<18446744073709551616 by omega)
   have hAY:A<Y:=by
    have:hh*2^s+2^s<=y*2^s:=by rw[<-YHD];exact YGf _ hlt
    omega
   clear mY mX sX sO sX1 sH sY es es2 g1 g2 g3
   have y1a:2147483648<=Y/4294967296:=by omega
   have y1b:Y/4294967296<4294967296:=by omega
   have y1p:0<Y/4294967296:=by omega
   have eY:Y/4294967296*4294967296+Y%4294967296=Y:=Nat.div_add_mod' Y 4294967296
   have y0b:Y%4294967296<4294967296:=by omega
   have u1b:X/4294967296<4294967296:=by omega
   have u0b:X%4294967296<4294967296:=by omega
   have hYp:0<Y:=by omega
   have start:=fun(a u:Nat) (ha:a<Y) (hu:u<4294967296)=>(YqB (u:=u) y1a y0b (by rw[eY];exact ha) hu).resolve_right (by omega)
   have eq0:∀a:Nat,a<Y->IntKind.u64.wrap ((a:Int).tdiv ((Y/4294967296:Nat):Int))=((a/(Y/4294967296):Nat):Int):=fun a ha=>by
    have:(a:Int).tdiv ((Y/4294967296:Nat):Int)=((a/(Y/4294967296):Nat):Int):=YHh rfl rfl
    rw[this];exact Ya7 (YGN (YHm _ _) (Nat.lt_trans ha f3))
   have er0:∀a:Nat,a<Y->IntKind.u64.wrap ((a:Int)-IntKind.u64.wrap (((a/(Y/4294967296):Nat):Int)*((Y/4294967296:Nat):Int)))=((a-a/(Y/4294967296)*(Y/4294967296):Nat):Int):=fun a ha=>by
    have hle:a/(Y/4294967296)*(Y/4294967296)<=a:=Nat.div_mul_le_self _ _
    have h6:=Nat.lt_trans ha f3
    rw[Yll (YGN hle h6),YsU hle h6]
   --the word behind a digit
   have eR:∀a u q:Nat,u<4294967296->q=(a*4294967296+u)/Y->IntKind.u64.wrap (IntKind.u64.wrap (IntKind.u64.wrap ((a:Int)*4294967296)+(u:Int))-IntKind.u64.wrap ((q:Int)*(Y:Int)))=(((a*4294967296+u)%Y:Nat):Int):=fun a u q hu hq=>by
    have e:=YGP (a*4294967296+u) Y
    have hm:=YGJ (a*4294967296+u) hYp
    rw[<-hq,YGj]at e
    have e2:((q*Y:Nat):Int)=(q:Int)*(Y:Int):=YG1 _ _
    generalize(a*4294967296+u)%Y=m at*
    simp only[Ymi]
    rw[<-e2]
    generalize q*Y=t at*
    omega
   --the condition of a loop
   have cnd:∀(q r u:Nat),r<4294967296->u<4294967296->((decide (4294967296<=(q:Int)) || decide (IntKind.u64.wrap (IntKind.u64.wrap (4294967296*(r:Int))+(u:Int))<IntKind.u64.wrap ((q:Int)*((Y%4294967296:Nat):Int))))=true↔4294967296<=q\/4294967296*r+u<q*(Y%4294967296)):=fun q r u hr hu=>by
    rcases YGz q 4294967296 with hq|hq
    ·have hm:q*(Y%4294967296)<=4294967295*4294967295:=YGB (by omega) (by omega)
     rw[Yll (by omega),YGF (4294967296*(r:Int)) (by omega),YGF _ (by omega),YG6,decide_eq_true_eq,decide_eq_true_eq]
     generalize q*(Y%4294967296)=t
     omega
    ·simp [hq];omega
   have sY1:∀r:Nat,r<4294967296->IntKind.u64.wrap ((r:Int)+((Y/4294967296:Nat):Int))=((r+Y/4294967296:Nat):Int):=fun r hr=>Yea (by omega)
   have dY:∀q:Nat,0<q->q<=4294967297->IntKind.u64.wrap ((q:Int)-1)=((q-1:Nat):Int):=fun q h1 h2=>by rw[YGF _ (by omega)];omega
   rw[eq0 A hAY,er0 A hAY]
   refine⟨⟨by omega,by omega⟩,by omega,by decide,by omega,by omega,by omega,by decide,by omega,?_⟩
   refine Loop.keep [2,5,0,0,0,1,0] (Nat×Nat) (fun x=>[(15,.int .u64 x.1),(16,.int .u64 x.2)]) (fun _=>[]) [] (fun x=>YfK (Y/4294967296) (Y%4294967296) A (X/4294967296) x.1 x.2/\x.2<4294967296) (fun x=>x.1) ?_ ?_
   ·refine⟨(A/(Y/4294967296),A-A/(Y/4294967296)*(Y/4294967296)),start A (X/4294967296) hAY u1b,?_⟩
    (try dsimp only[go_sem,reduceIte])
    simp only[Ya]
   ·rintro⟨q,r⟩ ⟨hd,hr⟩
    dsimp only at hd hr
    (try dsimp only[go_sem,reduceIte])
    (try simp only[Yc,YGa,YF9,reduceCtorEq,YF8])
    rw[cnd q r _ hr u1b]
    have hql:=hd.le
    refine⟨fun hc=>?_,fun hc=>?_⟩
    ·obtain⟨hq0,hn⟩:=YiP hd y1p (by rw[eY];exact hAY) u1b hc
     rw[dY q hq0 hql,sY1 r hr]
     refine⟨fun hb=>⟨by omega,?_⟩,fun hb=>⟨(q-1,r+Y/4294967296),⟨hn,by simp only;omega⟩,by simp only;omega,?_⟩⟩
     ·have hQ1:=YgK hn y1p y0b (by omega) (by omega)
      rw[eY]at hQ1
      generalize q-1=Q1 at hQ1⊢
      have hR1Y:(A*4294967296+X/4294967296)%Y<Y:=YGJ _ hYp
      rw[eR A _ Q1 u1b hQ1]
      generalize hR1:(A*4294967296+X/4294967296)%Y=R1 at hR1Y⊢
      rw[eq0 R1 hR1Y,er0 R1 hR1Y]
      refine Loop.keep [2,5,0,0,3,0,1] (Nat×Nat) (fun x=>[(18,.int .u64 x.1),(16,.int .u64 x.2)]) (fun _=>[]) [] (fun x=>YfK (Y/4294967296) (Y%4294967296) R1 (X%4294967296) x.1 x.2/\x.2<4294967296) (fun x=>x.1) ?_ ?_
      ·refine⟨(R1/(Y/4294967296),R1-R1/(Y/4294967296)*(Y/4294967296)),start R1 (X%4294967296) hR1Y u0b,?_⟩
       (try dsimp only[go_sem,reduceIte])
       simp only[Ya]
      ·rintro⟨q,r⟩ ⟨hd,hr⟩
       dsimp only at hd hr
       (try dsimp only[go_sem,reduceIte])
       (try simp only[Yc,YGa,YF9,reduceCtorEq,YF8])
       rw[cnd q r _ hr u0b]
       have hql:=hd.le
       refine⟨fun hc=>?_,fun hc=>?_⟩
       ·obtain⟨hq0,hn⟩:=YiP hd y1p (by rw[eY];exact hR1Y) u0b hc
        rw[dY q hq0 hql,sY1 r hr]
        refine⟨fun hb=>?_,fun hb=>⟨(q-1,r+Y/4294967296),⟨hn,by simp only;omega⟩,by simp only;omega,?_⟩⟩
        ·have hQ0:=YgK hn y1p y0b (by omega) (by omega)
         rw[eY]at hQ0
         generalize q-1=Q0 at hQ0⊢
         obtain⟨eT1,eT2⟩:=Yd2 hYp hQ1 hR1.symm hQ0
         have eX:X/4294967296*4294967296+X%4294967296=X:=Nat.div_add_mod' X 4294967296
         rw[eX,hN,<-hY,Nat.mul_div_mul_right _ _ (YH s)]at eT1
         rw[eX,hN,<-hY,Nat.mul_mod_mul_right]at eT2
         have hNy:(hh*18446744073709551616+x)/y<18446744073709551616:=by
          rw[YGL (by omega)];omega
         rw[YGb,eR R1 _ Q0 u0b hQ0,YbL hs64,<-hY,eT2,Nat.mul_div_cancel _ (YH s),YGF ((Q1:Int)*4294967296) (by omega),YGF _ (by omega)]
         refine⟨by omega,?_⟩
         have h:k (.tup [.int .u64 (((hh:Int)*18446744073709551616+x)/y),.int .u64 (((hh:Int)*18446744073709551616+x)%y)]) []:=h
         have e1:((hh:Int)*18446744073709551616+x)/y=(Q1:Int)*4294967296+Q0:=by
          have:((hh:Int)*18446744073709551616+x)/y=(((hh*18446744073709551616+x)/y:Nat):Int):=by
           rw[Int.natCast_ediv] <;> first|rfl| (congr 1;omega)
          rw[this,<-eT1];omega
         have e2:((hh:Int)*18446744073709551616+x)%y=(((hh*18446744073709551616+x)%y:Nat):Int):=by
          rw[Int.natCast_emod] <;> first|rfl| (congr 1;omega)
         rw[e1,e2]at h
         exact Yc1 h
        ·simp only[Ya]
       ·have hc:¬(4294967296<=q\/4294967296*r+X%4294967296<q*(Y%4294967296)):=fun hh=>by
         have:=(cnd q r _ hr u0b).2 hh
         rw[hc]at this;cases this
        have hQ0:=YiO hd y1p (by omega)
        rw[eY]at hQ0
        generalize q=Q0 at hQ0⊢
        obtain⟨eT1,eT2⟩:=Yd2 hYp hQ1 hR1.symm hQ0
        have eX:X/4294967296*4294967296+X%4294967296=X:=Nat.div_add_mod' X 4294967296
        rw[eX,hN,<-hY,Nat.mul_div_mul_right _ _ (YH s)]at eT1
        rw[eX,hN,<-hY,Nat.mul_mod_mul_right]at eT2
        have hNy:(hh*18446744073709551616+x)/y<18446744073709551616:=by
         rw[YGL (by omega)];omega
        rw[YGb,eR R1 _ Q0 u0b hQ0,YbL hs64,<-hY,eT2,Nat.mul_div_cancel _ (YH s),YGF ((Q1:Int)*4294967296) (by omega),YGF _ (by omega)]
        refine⟨by omega,?_⟩
        have h:k (.tup [.int .u64 (((hh:Int)*18446744073709551616+x)/y),.int .u64 (((hh:Int)*18446744073709551616+x)%y)]) []:=h
        have e1:((hh:Int)*18446744073709551616+x)/y=(Q1:Int)*4294967296+Q0:=by
         have:((hh:Int)*18446744073709551616+x)/y=(((hh*18446744073709551616+x)/y:Nat):Int):=by
          rw[Int.natCast_ediv] <;> first|rfl| (congr 1;omega)
         rw[this,<-eT1];omega
        have e2:((hh:Int)*18446744073709551616+x)%y=(((hh*18446744073709551616+x)%y:Nat):Int):=by
         rw[Int.natCast_emod] <;> first|rfl| (congr 1;omega)
        rw[e1,e2]at h
        exact Yc1 h
     ·simp only[Ya]
    ·have hc:¬(4294967296<=q\/4294967296*r+X/4294967296<q*(Y%4294967296)):=fun hh=>by
      have:=(cnd q r _ hr u1b).2 hh
      rw[hc]at this;cases this
     have hQ1:=YiO hd y1p (by omega)
     rw[eY]at hQ1
     refine⟨by omega,?_⟩
     generalize q=Q1 at hQ1⊢
     have hR1Y:(A*4294967296+X/4294967296)%Y<Y:=YGJ _ hYp
     rw[eR A _ Q1 u1b hQ1]
     generalize hR1:(A*4294967296+X/4294967296)%Y=R1 at hR1Y⊢
     rw[eq0 R1 hR1Y,er0 R1 hR1Y]
     refine Loop.keep [2,5,0,0,3,0,1] (Nat×Nat) (fun x=>[(18,.int .u64 x.1),(16,.int .u64 x.2)]) (fun _=>[]) [] (fun x=>YfK (Y/4294967296) (Y%4294967296) R1 (X%4294967296) x.1 x.2/\x.2<4294967296) (fun x=>x.1) ?_ ?_
     ·refine⟨(R1/(Y/4294967296),R1-R1/(Y/4294967296)*(Y/4294967296)),start R1 (X%4294967296) hR1Y u0b,?_⟩
      (try dsimp only[go_sem,reduceIte])
      simp only[Ya]
     ·rintro⟨q,r⟩ ⟨hd,hr⟩
      dsimp only at hd hr
      (try dsimp only[go_sem,reduceIte])
      (try simp only[Yc,YGa,YF9,reduceCtorEq,YF8])
      rw[cnd q r _ hr u0b]
      have hql:=hd.le
      refine⟨fun hc=>?_,fun hc=>?_⟩
      ·obtain⟨hq0,hn⟩:=YiP hd y1p (by rw[eY];exact hR1Y) u0b hc
       rw[dY q hq0 hql,sY1 r hr]
       refine⟨fun hb=>?_,fun hb=>⟨(q-1,r+Y/4294967296),⟨hn,by simp only;omega⟩,by simp only;omega,?_⟩⟩
       ·have hQ0:=YgK hn y1p y0b (by omega) (by omega)
        rw[eY]at hQ0
        generalize q-1=Q0 at hQ0⊢
        obtain⟨eT1,eT2⟩:=Yd2 hYp hQ1 hR1.symm hQ0
        have eX:X/4294967296*4294967296+X%4294967296=X:=Nat.div_add_mod' X 4294967296
        rw[eX,hN,<-hY,Nat.mul_div_mul_right _ _ (YH s)]at eT1
        rw[eX,hN,<-hY,Nat.mul_mod_mul_right]at eT2
        have hNy:(hh*18446744073709551616+x)/y<18446744073709551616:=by
         rw[YGL (by omega)];omega
        rw[YGb,eR R1 _ Q0 u0b hQ0,YbL hs64,<-hY,eT2,Nat.mul_div_cancel _ (YH s),YGF ((Q1:Int)*4294967296) (by omega),YGF _ (by omega)]
        refine⟨by omega,?_⟩
        have h:k (.tup [.int .u64 (((hh:Int)*18446744073709551616+x)/y),.int .u64 (((hh:Int)*18446744073709551616+x)%y)]) []:=h
        have e1:((hh:Int)*18446744073709551616+x)/y=(Q1:Int)*4294967296+Q0:=by
         have:((hh:Int)*18446744073709551616+x)/y=(((hh*18446744073709551616+x)/y:Nat):Int):=by
          rw[Int.natCast_ediv] <;> first|rfl| (congr 1;omega)
         rw[this,<-eT1];omega
        have e2:((hh:Int)*18446744073709551616+x)%y=(((hh*18446744073709551616+x)%y:Nat):Int):=by
         rw[Int.natCast_emod] <;> first|rfl| (congr 1;omega)
        rw[e1,e2]at h
        exact Yc1 h
       ·simp only[Ya]
      ·have hc:¬(4294967296<=q\/4294967296*r+X%4294967296<q*(Y%4294967296)):=fun hh=>by
        have:=(cnd q r _ hr u0b).2 hh
        rw[hc]at this;cases this
       have hQ0:=YiO hd y1p (by omega)
       rw[eY]at hQ0
       generalize q=Q0 at hQ0⊢
       obtain⟨eT1,eT2⟩:=Yd2 hYp hQ1 hR1.symm hQ0
       have eX:X/4294967296*4294967296+X%4294967296=X:=Nat.div_add_mod' X 4294967296
       rw[eX,hN,<-hY,Nat.mul_div_mul_right _ _ (YH s)]at eT1
       rw[eX,hN,<-hY,Nat.mul_mod_mul_right]at eT2
       have hNy:(hh*18446744073709551616+x)/y<18446744073709551616:=by
        rw[YGL (by omega)];omega
       rw[YGb,eR R1 _ Q0 u0b hQ0,YbL hs64,<-hY,eT2,Nat.mul_div_cancel _ (YH s),YGF ((Q1:Int)*4294967296) (by omega),YGF _ (by omega)]
       refine⟨by omega,?_⟩
       have h:k (.tup [.int .u64 (((hh:Int)*18446744073709551616+x)/y),.int .u64 (((hh:Int)*18446744073709551616+x)%y)]) []:=h
       have e1:((hh:Int)*18446744073709551616+x)/y=(Q1:Int)*4294967296+Q0:=by
        have:((hh:Int)*18446744073709551616+x)/y=(((hh*18446744073709551616+x)/y:Nat):Int):=by
         rw[Int.natCast_ediv] <;> first|rfl| (congr 1;omega)
        rw[this,<-eT1];omega
       have e2:((hh:Int)*18446744073709551616+x)%y=(((hh*18446744073709551616+x)%y:Nat):Int):=by
        rw[Int.natCast_emod] <;> first|rfl| (congr 1;omega)
       rw[e1,e2]at h
       exact Yc1 h
 ·exact h.1.elim
def v128:VF:=⟨6,[.tmp 2],(ZR [u1 2 .mov [.cn .nil]] (ZR [Zm 3 0,u1 4 (.conv .u64) [.tm 3],Zc 5 151 4,Zm 2 5] .ret))⟩
theorem YAD:Yg YGc Tryz.f128=some v128:=by kernel_rfl
def v126:VF:=⟨14,[.tmp 4],(ZR [u1 4 .mov [.cn .nil]] (ZR [Zm 8 0,Zm 9 1,Zd 10 149 8 9,Zm 7 10,Ze 11 0 7,Ze 12 1 7,Zm 5 11,Zm 6 12] (ZR [Zm 13 5,Zm 4 13] .ret)))⟩
theorem YAB:Yg YGc Tryz.f126=some v126:=by kernel_rfl
def v127:VF:=⟨14,[.tmp 4],(ZR [u1 4 .mov [.cn .nil]] (ZR [Zm 8 0,Zm 9 1,Zd 10 150 8 9,Zm 7 10,Ze 11 0 7,Ze 12 1 7,Zm 5 11,Zm 6 12] (ZR [Zm 13 5,Zm 4 13] .ret)))⟩
theorem YAC:Yg YGc Tryz.f127=some v127:=by kernel_rfl
def v101:VF:=⟨15,[.tmp 4],(ZR [u1 4 .mov [.cn (.bool false)]] (ZR [Zm 8 0,Zm 9 1,Zd 10 129 8 9,Zm 7 10,Ze 11 0 7,Ze 12 1 7,Zm 5 11,Zm 6 12] (ZR [Zm 13 5,Zq 14 .gtr 13 0,Zm 4 14] .ret)))⟩
theorem YAd:Yg YGc Tryz.f101=some v101:=by kernel_rfl
def v148:VF:=⟨34,[.tmp 6],(ZR [u1 6 .mov [.cn .nil]] (ZR [Zm 12 0,Zm 13 1,Zd 14 155 12 13,Zm 11 14,Ze 15 0 11,Ze 16 1 11,Zm 7 15,Zm 8 16] (.seq (ZR [Zm 18 7,Zm 19 1,u1 20 .neg [.tm 19],Zd 21 155 18 20,Zm 17 21,Ze 22 0 17,Ze 23 1 17,Zm 9 22,Zm 10 23] (ZR [Zm 24 2,Zm 25 24,Zg 26 25 true 0,Zg 27 25 true 9,u2 28 25 true (.call 101) [.tm 26,.tm 27],u1 29 .and [.tm 25,.tm 28]] (ZC 29 (.region [Zm 30 7,u1 31 (.call 128) [.cn (.int .i64 1)],Zd 32 126 30 31,Zm 7 32]) .skip))) (ZR [Zm 33 7,Zm 6 33] .ret))))⟩
theorem YAU:Yg YGc Tryz.f148=some v148:=by kernel_rfl
def v125:VF:=⟨97,[.tmp 4,.tmp 5],(ZR [u1 4 .mov [.cn .nil],u1 5 .mov [.cn .nil]] (ZR [Zm 15 0,u1 16 (.conv .u64) [.tm 15],Zc 17 146 16,u1 18 (.ari .sub) [.tm 17,.cn (.int .i64 1)],Zm 6 18] (ZR [Zm 19 6,Zc 20 128 19,Zm 21 1,u1 22 (.call 148) [.tm 20,.tm 21,.cn (.bool false)],Zm 7 22] (.seq (ZR [Zm 23 0,Zm 24 0,u1 25 (.ari .sub) [.tm 24,.cn (.int .i64 1)],u1 26 (.bit .and) [.tm 23,.tm 25],Zq 27 .eql 26 0] (ZC 27 (ZR [Zm 28 7,Zm 29 7,Zm 4 28,Zm 5 29] .ret) .skip)) (ZR [Zm 30 1,u1 31 (.ari .mul) [.cn (.int .i64 2),.tm 30],Zp 32 31 64,Zm 8 32] (ZR [Zm 33 0,Zc 34 128 33,Zm 35 8,Zm 36 6,Zo 37 .sub 35 36,u1 38 (.call 148) [.tm 34,.tm 37,.cn (.bool false)],Zm 9 38] (ZR [Zm 39 9,Zm 10 39] (ZR [u1 40 (.call 128) [.cn (.int .i64 2)],Zm 41 8,u1 42 (.call 148) [.tm 40,.tm 41,.cn (.bool false)],Zm 11 42] (ZR [Zm 43 6,Zc 44 128 43,Zm 12 44,Zi 13 0] (.seq (.block 0 (.loop (.seq (ZR [Zm 45 13,Zm 46 1,Zr 47 .lss 45 46] (ZC 47 .skip (.exit 0))) (.seq (.block 1 (ZR [Zm 50 9,Zm 51 9,Zd 52 127 50 51,Zm 53 8,u1 54 .neg [.tm 53],u1 55 (.call 148) [.tm 52,.tm 54,.cn (.bool false)],Zm 56 10,Zm 57 10,Zd 58 127 56 57,Zm 59 8,u1 60 .neg [.tm 59],u1 61 (.call 148) [.tm 58,.tm 60,.cn (.bool true)],Zm 9 55,Zm 10 61] (ZR [Zi 14 0] (.seq (.block 2 (ZR [Zm 63 11,Zm 64 9,Zd 65 101 63 64,u1 66 .not [.tm 65],Zm 62 66] (ZC 62 (.region [Zm 67 9,u1 68 (.call 148) [.tm 67,.cn (.int .i64 (-1)),.cn (.bool false)],Zm 69 10,u1 70 (.call 148) [.tm 69,.cn (.int .i64 (-1)),.cn (.bool true)],Zm 9 68,Zm 10 70,Zi 14 1]) (ZR [Zm 72 11,Zm 73 10,Zd 74 101 72 73,u1 75 .not [.tm 74],Zm 71 75] (ZC 71 (ZR [Zm 76 12,Zm 77 1,Zm 78 13,Zo 79 .sub 77 78,u1 80 (.call 148) [.tm 76,.tm 79,.cn (.bool false)],Zm 81 12,u1 82 (.call 128) [.cn (.int .i64 1)],Zd 83 126 81 82,Zm 84 1,Zm 85 13,Zo 86 .sub 84 85,u1 87 (.call 148) [.tm 83,.tm 86,.cn (.bool false)],Zm 4 80,Zm 5 87] .ret) .skip))))) (.region [Zm 88 12,u1 89 (.call 148) [.tm 88,.cn (.int .i64 1),.cn (.bool false)],Zm 90 14,Zc 91 128 90,Zd 92 126 89 91,Zm 12 92]))))) (.region [Zm 48 13,Zp 49 48 1,Zm 13 49]))))) (ZR [Zm 93 12,Zm 94 12,u1 95 (.call 128) [.cn (.int .i64 1)],Zd 96 126 94 95,Zm 4 93,Zm 5 96] .ret)))))))))))⟩
theorem YAA:Yg YGc Tryz.f125=some v125:=by kernel_rfl
theorem Yfr(a:Nat):nl (capF a)<=512:=by
 unfold capF
 split
 ·assumption
 ·rw[nl_0];omega
def addW(a b:Nat):Nat:=capF (a+b)
def mulW(a b:Nat):Nat:=capF (a*b)
def movW(a:Nat)(d:Int)(up:Bool):Nat:=
 if(up&&decide (capF (shF (capF (shF a d)) (-d))<a))=true then addW (capF (shF a d)) 1 else capF (shF a d)
theorem Yca(a b:Nat):nl (addW a b)<=512:=Yfr _
theorem Yfz(a b:Nat):nl (mulW a b)<=512:=Yfr _
theorem Ybf(a:Nat)(d:Int)(up:Bool):nl (movW a d up)<=512:=by
 unfold movW
 split <;> exact Yfr _
theorem Yt{a:Nat}(h:nl a<=512):okW a (nl a) 1 (fun k=>[.int .u32 (dig a k)]):=⟨Ye (by omega),rfl,h⟩
theorem YkO{a:Nat}(h:a<18446744073709551616):nl a<=2:=nl_le.2 (by omega)
def numWC:Ctr:={ alias:=false,of:=fun l=>match l with
 | [.int .i64 n]=> .pre (0<=n/\n<=9223372036854775807) (.fin (natS false n.toNat) [])
 |_=>noC}
def addWC:Ctr:={ alias:=false,of:=fun l=>match l with
 | [.vs _ z n sz get,.vs _ z' m sz' get']=> .ex Nat fun a=> .ex Nat fun b=> .pre (okW a n sz get/\okW b m sz' get') (.all Bool fun y=> .fin (natS y (addW a b)) [])
 |_=>noC}
def timesWC:Ctr:={ alias:=false,of:=fun l=>match l with
 | [.vs _ z n sz get,.vs _ z' m sz' get']=> .ex Nat fun a=> .ex Nat fun b=> .pre (okW a n sz get/\okW b m sz' get') (.all Bool fun y=> .fin (natS y (mulW a b)) [])
 |_=>noC}
def aboveC:Ctr:={ alias:=false,of:=fun l=>match l with
 | [.vs _ z n sz get,.vs _ z' m sz' get']=> .ex Nat fun a=> .ex Nat fun b=> .pre (okW a n sz get/\okW b m sz' get') (.fin (.bool (decide (b<a))) [])
 |_=>noC}
def movC:Ctr:={ alias:=false,of:=fun l=>match l with
 | [.vs _ z n sz get,.int .i64 d,.bool up]=> .ex Nat fun a=> .pre (okW a n sz get/\ -20000<=d/\d<=20000) (.all Bool fun y=> .fin (natS y (movW a d up)) [])
 |_=>noC}
def RA0:Env:={ ct:=fun n=>match n with|151=>some ofC|149=>some wAddC|150=>some wMulC|129=>some wCmpC|155=>some wShiftC|_=>none,fn:=fun _=>none,meth:=fun _ _=>none}
theorem Ype:RA0.ct 151=some ofC:=rfl
theorem Ypc:RA0.ct 149=some wAddC:=rfl
theorem Ypd:RA0.ct 150=some wMulC:=rfl
theorem Ypb:RA0.ct 129=some wCmpC:=rfl
theorem YmB:Yq YGc RA0:=by
 refine⟨fun f c h=>?_,fun f vf h=>?_,(fun _ _ _ h=>by cases h),by kernel_rfl,(fun _ h=>by cases h)⟩
 ·simp only[RA0]at h
  split at h
  ·cases h;exact⟨YF3,Tryz.f151,Tryz.func151,by kernel_rfl,by kernel_rfl⟩
  ·cases h;exact⟨YBh,Tryz.f149,Tryz.func149,by kernel_rfl,by kernel_rfl⟩
  ·cases h;exact⟨YBj,Tryz.f150,Tryz.func150,by kernel_rfl,by kernel_rfl⟩
  ·cases h;exact⟨YBi,Tryz.f129,Tryz.func129,by kernel_rfl,by kernel_rfl⟩
  ·cases h;exact⟨Yln,Tryz.f155,Tryz.func155,by kernel_rfl,by kernel_rfl⟩
  ·cases h
 ·cases h
theorem YlZ:numWC.ok YGc 128:=by
 refine Yb Tryz.func128 YAD YmB 200 numWC fun args k h=>?_
 simp only[numWC]at h
 split at h
 ·rename_i n
  obtain⟨⟨h0,h1⟩,h⟩:=h
  refine⟨[.int .i64 n],by simp [leL,le],?_⟩
  dsimp only[v128,Ype,ofC,natS,go_sem,reduceIte]
  simp only[Yc,YGa,YF9,reduceCtorEq,YF8]
  rw[YGF _ (by omega)]
  exact⟨⟨h0,by omega⟩,Yaj (t:=true) h⟩
 ·exact h.1.elim
theorem YpX:addWC.ok YGc 126:=by
 refine Yb Tryz.func126 YAB YmB 200 addWC fun args k h=>?_
 simp only[addWC]at h
 split at h
 ·rename_i t1 z1 n sz get t2 z2 m sz' get'
  obtain⟨a,b,⟨⟨⟨rfl,hn,ha,hg⟩,hna,hn5⟩,⟨rfl,hm,hb,hg'⟩,hmb,hm5⟩,h⟩:=h
  refine⟨[.vs t1 z1 n 1 (fun k=>[.int .u32 (dig a k)]),.vs t2 z2 m 1 (fun k=>[.int .u32 (dig b k)])],⟨by simpa [le]using hg,by simpa [le]using hg',trivial⟩,?_⟩
  dsimp only[v126,Ypc,wAddC,natS,go_sem,reduceIte]
  simp only[Yc,YGa,YF9,reduceCtorEq,YF8]
  subst hna hmb
  exact⟨a,b,⟨Yt hn5,Yt hm5⟩,fun y=>⟨by decide,by decide,Yaj (t:=true) (h y)⟩⟩
 ·exact h.1.elim
theorem Yv4:timesWC.ok YGc 127:=by
 refine Yb Tryz.func127 YAC YmB 200 timesWC fun args k h=>?_
 simp only[timesWC]at h
 split at h
 ·rename_i t1 z1 n sz get t2 z2 m sz' get'
  obtain⟨a,b,⟨⟨⟨rfl,hn,ha,hg⟩,hna,hn5⟩,⟨rfl,hm,hb,hg'⟩,hmb,hm5⟩,h⟩:=h
  refine⟨[.vs t1 z1 n 1 (fun k=>[.int .u32 (dig a k)]),.vs t2 z2 m 1 (fun k=>[.int .u32 (dig b k)])],⟨by simpa [le]using hg,by simpa [le]using hg',trivial⟩,?_⟩
  dsimp only[v127,Ypd,wMulC,natS,go_sem,reduceIte]
  simp only[Yc,YGa,YF9,reduceCtorEq,YF8]
  subst hna hmb
  exact⟨a,b,⟨Yt hn5,Yt hm5⟩,fun y=>⟨by decide,by decide,Yaj (t:=true) (h y)⟩⟩
 ·exact h.1.elim
theorem Ylv:aboveC.ok YGc 101:=by
 refine Yb Tryz.func101 YAd YmB 200 aboveC fun args k h=>?_
 simp only[aboveC]at h
 split at h
 ·rename_i t1 z1 n sz get t2 z2 m sz' get'
  obtain⟨a,b,⟨⟨⟨rfl,hn,ha,hg⟩,hna,hn5⟩,⟨rfl,hm,hb,hg'⟩,hmb,hm5⟩,h⟩:=h
  refine⟨[.vs t1 z1 n 1 (fun k=>[.int .u32 (dig a k)]),.vs t2 z2 m 1 (fun k=>[.int .u32 (dig b k)])],⟨by simpa [le]using hg,by simpa [le]using hg',trivial⟩,?_⟩
  dsimp only[v101,Ypb,wCmpC,natS,go_sem,reduceIte]
  simp only[Yc,YGa,YF9,reduceCtorEq,YF8]
  subst hna hmb
  have e:decide (0<ordN a b)=decide (b<a):=by
   unfold ordN
   by_cases h1:a<b
   ·rw[if_pos h1,decide_eq_false (by omega:¬b<a)];rfl
   ·rw[if_neg h1]
    by_cases h2:b<a
    ·rw[if_pos h2,decide_eq_true h2];rfl
    ·rw[if_neg h2,decide_eq_false h2];rfl
  refine⟨a,b,⟨Yt hn5,Yt hm5⟩,by decide,by decide,?_⟩
  rw[e]
  exact YK h
 ·exact h.1.elim
def RA1:Env:={ ct:=fun n=>match n with|155=>some wShiftC|101=>some aboveC|126=>some addWC|128=>some numWC|_=>none,fn:=fun _=>none,meth:=fun _ _=>none}
theorem Ypi:RA1.ct 155=some wShiftC:=rfl
theorem Ypf:RA1.ct 101=some aboveC:=rfl
theorem Ypg:RA1.ct 126=some addWC:=rfl
theorem Yph:RA1.ct 128=some numWC:=rfl
theorem YBA:Yq YGc RA1:=by
 refine⟨fun f c h=>?_,fun f vf h=>?_,(fun _ _ _ h=>by cases h),by kernel_rfl,(fun _ h=>by cases h)⟩
 ·simp only[RA1]at h
  split at h
  ·cases h;exact⟨Yln,Tryz.f155,Tryz.func155,by kernel_rfl,by kernel_rfl⟩
  ·cases h;exact⟨Ylv,Tryz.f101,Tryz.func101,by kernel_rfl,by kernel_rfl⟩
  ·cases h;exact⟨YpX,Tryz.f126,Tryz.func126,by kernel_rfl,by kernel_rfl⟩
  ·cases h;exact⟨YlZ,Tryz.f128,Tryz.func128,by kernel_rfl,by kernel_rfl⟩
  ·cases h
 ·cases h
theorem mov_c:movC.ok YGc 148:=by
 refine Yb Tryz.func148 YAU YBA 300 movC fun args k h=>?_
 simp only[movC]at h
 split at h
 ·rename_i t1 z1 n sz get d up
  obtain⟨a,⟨⟨⟨rfl,hn,ha,hg⟩,hna,hn5⟩,hd0,hd1⟩,h⟩:=h
  refine⟨[.vs t1 z1 n 1 (fun k=>[.int .u32 (dig a k)]),.int .i64 d,.bool up],⟨by simpa [le]using hg,⟨rfl,rfl⟩,rfl,trivial⟩,?_⟩
  dsimp only[v148,Ypi,Ypf,Ypg,Yph,wShiftC,aboveC,addWC,numWC,natS,go_sem,reduceIte]
  simp only[Yc,YGa,YF9,reduceCtorEq,YF8]
  subst hna
  have hneg:IntKind.i64.wrap (0-d)= -d:=by rw[YGd _ (by omega)];omega
  rw[hneg]
  have h1:nl 1<=512:=by have:= @YkO 1 (by decide);omega
  refine⟨a,⟨Yt hn5,hd0,hd1⟩,fun y=>⟨by decide,by decide,capF (shF a d),⟨Yt (Yfr _),by omega,by omega⟩,by decide,by decide,a,capF (shF (capF (shF a d)) (-d)),fun _=>⟨Yt hn5,Yt (Yfr _)⟩,fun hc=>⟨by decide,capF (shF a d),1,⟨Yt (Yfr _),Yt h1⟩,fun z=>?_⟩,fun hc=>?_⟩⟩
  ·have h:k (natS z (movW a d up)) []:=h z
   rw[movW,if_pos hc]at h
   exact Yaj (t:=true) h
  ·have h:k (natS y (movW a d up)) []:=h y
   rw[movW,if_neg (by rw[hc];decide)]at h
   exact Yaj (t:=true) h
 ·exact h.1.elim
def YbN(n:Int):Bool:=decide (bitI .and .i64 n (IntKind.i64.wrap (n-1))=0)
def logL(two:Nat)(deep:Int):Nat->Nat->Nat->Nat->Nat×Nat
 |0,_,_,sum=>(sum,addW sum 1)
 |f+1,a,b,sum=>
  let a1:=movW (mulW a a) (-deep) false
  let b1:=movW (mulW b b) (-deep) true
  if a1<two then
   if b1<two then logL two deep f a1 b1 (addW (movW sum 1 false) 0)
   else(movW sum ((f+1:Nat):Int) false,movW (addW sum 1) ((f+1:Nat):Int) false)
  else logL two deep f (movW a1 (-1) false) (movW b1 (-1) true) (addW (movW sum 1 false) 1)
def logF(n:Int)(p:Nat):Nat×Nat:=
 let k:=Yo n.toNat-1
 if YbN n=true then(movW k p false,movW k p false)
 else
  let deep:Int:=((2*p+64:Nat):Int)
  let a:=movW n.toNat (deep-k) false
  logL (movW 2 deep false) deep p a a k
theorem YlS{two:Nat}{deep:Int}:∀(f a b sum:Nat),nl sum<=512->nl (logL two deep f a b sum).1<=512/\nl (logL two deep f a b sum).2<=512
 |0,_,_,sum,h=>⟨h,Yca _ _⟩
 |f+1,a,b,sum,h=>by
  rw[logL]
  split
  ·split
   ·exact YlS f _ _ _ (Yca _ _)
   ·exact⟨Ybf sum _ false,Ybf (addW sum 1) _ false⟩
  ·exact YlS f _ _ _ (Yca _ _)
theorem YyQ(n:Int)(p:Nat)(hn:n<=9223372036854775807):nl (logF n p).1<=512/\nl (logF n p).2<=512:=by
 rw[logF]
 by_cases hb:YbN n=true
 ·rw[if_pos hb];exact⟨Ybf (Yo n.toNat-1) p false,Ybf (Yo n.toNat-1) p false⟩
 ·rw[if_neg hb]
  refine YlS _ _ _ _ ?_
  have h1:Yo n.toNat<=64:=bitsN_le.2 (by have:(2:Nat)^64=18446744073709551616:=rfl;omega)
  have:= @YkO (Yo n.toNat-1) (by omega)
  omega
structure LSt where
 i:Nat
 a:Nat
 b:Nat
 s:Nat
 za:Bool
 zb:Bool
 zs:Bool
theorem Yp2{k:SV->List HO->Prop}{al:Bool}{hp:List HO}{y z:Bool}{a b:Nat}(h:k (.tup [natS y a,natS z b]) []):YD al k (.tup [natS y a,natS z b]) hp:=
 YC (show k _ []from h) (Yv _ ⟨trivial,trivial,trivial⟩) (fun _=>by simp [natS,Yl,Ym])
def logC:Ctr:={ alias:=false,of:=fun l=>match l with
 | [.int .i64 n,.int .i64 p]=> .ex Nat fun q=> .pre (1<=n/\n<=9223372036854775807/\p=q/\q<=2048) (.all Bool fun y=> .all Bool fun z=> .fin (.tup [natS y (logF n q).1,natS z (logF n q).2]) [])
 |_=>noC}
def RA2:Env:={ ct:=fun n=>match n with|146=>some len64C|101=>some aboveC|126=>some addWC|127=>some timesWC|128=>some numWC|148=>some movC|_=>none,fn:=fun _=>none,meth:=fun _ _=>none}
theorem YjU:RA2.ct 146=some len64C:=rfl
theorem YjQ:RA2.ct 101=some aboveC:=rfl
theorem YjR:RA2.ct 126=some addWC:=rfl
theorem YjS:RA2.ct 127=some timesWC:=rfl
theorem YjT:RA2.ct 128=some numWC:=rfl
theorem YjV:RA2.ct 148=some movC:=rfl
theorem YBB:Yq YGc RA2:=by
 refine⟨fun f c h=>?_,fun f vf h=>?_,(fun _ _ _ h=>by cases h),by kernel_rfl,(fun _ h=>by cases h)⟩
 ·simp only[RA2]at h
  split at h
  ·cases h;exact⟨Yji,Tryz.f146,Tryz.func146,by kernel_rfl,by kernel_rfl⟩
  ·cases h;exact⟨Ylv,Tryz.f101,Tryz.func101,by kernel_rfl,by kernel_rfl⟩
  ·cases h;exact⟨YpX,Tryz.f126,Tryz.func126,by kernel_rfl,by kernel_rfl⟩
  ·cases h;exact⟨Yv4,Tryz.f127,Tryz.func127,by kernel_rfl,by kernel_rfl⟩
  ·cases h;exact⟨YlZ,Tryz.f128,Tryz.func128,by kernel_rfl,by kernel_rfl⟩
  ·cases h;exact⟨mov_c,Tryz.f148,Tryz.func148,by kernel_rfl,by kernel_rfl⟩
  ·cases h
 ·cases h
theorem log_c:logC.ok YGc 125:=by
 refine Yb Tryz.func125 YAA YBB 600 logC fun args k h=>?_
 simp only[logC]at h
 split at h
 ·rename_i n p'
  obtain⟨p,⟨hn0,hn1,rfl,hp⟩,h⟩:=h
  refine⟨[.int .i64 n,.int .i64 p],by simp [leL,le],?_⟩
  dsimp only[v125,YjU,YjQ,YjR,YjT,YjV,YjS,len64C,aboveC,addWC,numWC,timesWC,movC,natS,go_sem,reduceIte]
  simp only[Yc,YGa,YF9,reduceCtorEq,YF8]
  have hb1:Yo n.toNat<=64:=bitsN_le.2 (by have:(2:Nat)^64=18446744073709551616:=rfl;omega)
  have hb0:Yo n.toNat≠0:=fun e=>by have:=bitsN_eq0.1 e;omega
  obtain⟨K,hK⟩:∃K,K=Yo n.toNat-1:=⟨_,rfl⟩
  have eu:IntKind.u64.wrap n=n:=YGF _ (by omega)
  have ek:IntKind.i64.wrap ((Yo n.toNat:Int)-1)=(K:Int):=by rw[hK,YGd _ (by omega)];omega
  have ed:IntKind.i64.wrap (IntKind.i64.wrap (2*(p:Int))+64)=((2*p+64:Nat):Int):=by rw[YGd (2*(p:Int)) (by omega),YGd _ (by omega)];omega
  obtain⟨D,hD⟩:∃D:Int,D=((2*p+64:Nat):Int):=⟨_,rfl⟩
  have edk:IntKind.i64.wrap (D-(K:Int))=D-(K:Int):=YGd _ (by omega)
  rw[eu,ek,ed,<-hD,edk,YGb]
  have hKw:nl K<=512:=by have:= @YkO K (by omega);omega
  have hnw:nl n.toNat<=512:=by have:= @YkO n.toNat (by omega);omega
  have h2w:nl 2<=512:=by have:= @YkO 2 (by decide);omega
  refine⟨by omega,by omega,K,⟨Yt hKw,by omega,by omega⟩,fun y=>⟨fun hc=>?_,fun hc=>⟨by omega,n.toNat,⟨Yt hnw,by omega,by omega⟩,fun z=>⟨by decide,2,⟨Yt h2w,by omega,by omega⟩,fun z2=>⟨by omega,?_⟩⟩⟩⟩⟩
  ·have h:k (.tup [natS y (logF n p).1,natS y (logF n p).2]) []:=h y y
   have e:logF n p=(movW K p false,movW K p false):=by rw[logF,if_pos (show YbN n=true from decide_eq_true hc),hK]
   rw[e]at h
   exact Yp2 h
  ·have e:logF n p=logL (movW 2 D false) D p (movW n.toNat (D-K) false) (movW n.toNat (D-K) false) K:=by rw[logF,if_neg (show¬YbN n=true from fun hh=>hc (of_decide_eq_true hh)),hK,hD]
   rw[e]at h
   generalize hA:movW n.toNat (D-(K:Int)) false=A at h⊢
   have hA5:nl A<=512:=by rw[<-hA];exact Ybf _ _ _
   generalize hT:movW 2 D false=T at h⊢
   have hT5:nl T<=512:=by rw[<-hT];exact Ybf _ _ _
   refine Loop.keep [1,6,2] LSt (fun x=>[(9,natS x.za x.a),(10,natS x.zb x.b),(12,natS x.zs x.s),(13,.int .i64 x.i)]) (fun _=>[]) [] (fun x=>x.i<=p/\logL T D p A A K=logL T D (p-x.i) x.a x.b x.s/\nl x.a<=512/\nl x.b<=512/\nl x.s<=512) (fun x=>p-x.i) ?_ ?_
   ·refine⟨⟨0,A,A,K,z,z,false⟩,⟨by simp only;omega,rfl,hA5,hA5,hKw⟩,?_⟩
    dsimp only[natS,go_sem,reduceIte]
    simp only[Ya]
    try simp
   ·rintro⟨i,a,b,S,za,zb,zs⟩ ⟨hi,he,ha5,hb5,hs5⟩
    dsimp only at hi he ha5 hb5 hs5
    dsimp only[YjU,YjQ,YjR,YjT,YjV,YjS,len64C,aboveC,addWC,numWC,timesWC,movC,natS,go_sem,reduceIte]
    simp only[Yc,YGa,YF9,reduceCtorEq,YF8]
    have eD:IntKind.i64.wrap (0-D)= -D:=by rw[YGd _ (by omega)];omega
    have ei:IntKind.i64.wrap ((p:Int)-(i:Int))=((p-i:Nat):Int):=by rw[YGd _ (by omega)];omega
    have h1w:nl 1<=512:=by have:= @YkO 1 (by decide);omega
    have h0w:nl 0<=512:=by rw[nl_0];omega
    rw[eD,ei]
    refine⟨fun hlt=>?_,fun hge=>⟨by decide,S,1,⟨Yt hs5,Yt h1w⟩,fun y=>?_⟩⟩
    ·obtain⟨q,hq⟩:∃q,p-i=q+1:=⟨p-i-1,by omega⟩
     rw[hq,logL]at he
     obtain⟨a1,ha1⟩:∃a1,a1=movW (mulW a a) (-D) false:=⟨_,rfl⟩
     obtain⟨b1,hb1⟩:∃b1,b1=movW (mulW b b) (-D) true:=⟨_,rfl⟩
     have ha15:nl a1<=512:=by rw[ha1];exact Ybf _ _ _
     have hb15:nl b1<=512:=by rw[hb1];exact Ybf _ _ _
     rw[<-ha1,<-hb1]at he
     refine⟨a,a,⟨Yt ha5,Yt ha5⟩,fun _=>⟨mulW a a,⟨Yt (Yfz _ _),by omega,by omega⟩,fun y1=>⟨b,b,⟨Yt hb5,Yt hb5⟩,fun _=>⟨mulW b b,⟨Yt (Yfz _ _),by omega,by omega⟩,fun y2=>?_⟩⟩⟩⟩
     rw[<-ha1,<-hb1]
     refine⟨T,a1,⟨Yt hT5,Yt ha15⟩,fun hc=>?_,fun hc=>⟨T,b1,⟨Yt hT5,Yt hb15⟩,fun hd=>?_,fun hd=>?_⟩⟩
     ·rw[if_neg hc]at he
      refine⟨a1,⟨Yt ha15,by decide,by decide⟩,fun y3=>⟨b1,⟨Yt hb15,by decide,by decide⟩,fun y4=>⟨S,⟨Yt hs5,by decide,by decide⟩,fun _=>⟨by decide,movW S 1 false,1,⟨Yt (Ybf _ _ _),Yt h1w⟩,fun y5=>?_⟩⟩⟩⟩
      refine⟨⟨i+1,movW a1 (-1) false,movW b1 (-1) true,addW (movW S 1 false) 1,y3,y4,y5⟩,⟨by simp only;omega,?_,Ybf a1 (-1) false,Ybf b1 (-1) true,Yca (movW S 1 false) 1⟩,by simp only;omega,?_⟩
      ·rw[show p-(i+1)=q by omega];exact he
      ·rw[YGd ((i:Int)+1) (by omega)]
       simp only[Ya]
       simp
     ·rw[if_pos hc,if_neg hd]at he
      refine⟨S,⟨Yt hs5,by omega,by omega⟩,fun y3=>⟨by decide,S,1,⟨Yt hs5,Yt h1w⟩,addW S 1,⟨Yt (Yca _ _),by omega,by omega⟩,fun y4=>?_⟩⟩
      have h:k (.tup [natS y3 (logL T D p A A K).1,natS y4 (logL T D p A A K).2]) []:=h y3 y4
      rw[he]at h
      rw[hq]
      exact Yp2 h
     ·rw[if_pos hc,if_pos hd]at he
      refine⟨S,⟨Yt hs5,by decide,by decide⟩,fun _=>⟨by decide,movW S 1 false,0,⟨Yt (Ybf _ _ _),Yt h0w⟩,fun y5=>?_⟩⟩
      refine⟨⟨i+1,a1,b1,addW (movW S 1 false) 0,y1,y2,y5⟩,⟨by simp only;omega,?_,ha15,hb15,Yca (movW S 1 false) 0⟩,by simp only;omega,?_⟩
      ·rw[show p-(i+1)=q by omega];exact he
      ·rw[YGd ((i:Int)+1) (by omega)]
       simp only[Ya]
       simp
    ·have h:k (.tup [natS zs (logL T D p A A K).1,natS y (logL T D p A A K).2]) []:=h zs y
     rw[he,show p-i=0 by omega,logL]at h
     exact Yp2 h
 ·exact h.1.elim
def v130:VF:=⟨12,[.tmp 4],(ZR [Zi 4 0] (.seq (.block 0 (.loop (.seq (ZR [Zm 5 1,Zq 6 .neq 5 0] (ZC 6 .skip (.exit 0))) (.block 1 (.draw [] [Zu 7 1,Zu 8 0,Zu 9 1,w1 10 .rem [.tm 8,.tm 9],Zu 0 7,Zu 1 10]))))) (ZR [Zm 11 0,Zm 4 11] .ret)))⟩
theorem YAF:Yg YGc Tryz.f130=some v130:=by kernel_rfl
def v100:VF:=⟨58,[.cell 4 true 2,.cell 5 true 2],(ZR [u1 4 (.alloc [.nil,.nil]) [],u1 5 (.alloc [.nil,.nil]) []] (.seq (ZR [Zm 12 0,Zl 13 12,Zi 14 0] (.block 0 (.loop (ZR [Zr 15 .lss 14 13] (.seq (ZC 15 .skip (.exit 0)) (.seq (.block 1 (ZR [Zx 16 2 12 14,Zt 17 2 16,Zn 7,Zs 2 7 17] (ZR [Za 19 0 7,Zf 20 1 19,Zm 21 1,Zd 22 125 20 21,Zm 18 22,Ze 23 0 18,Ze 24 1 18,Zm 8 23,Zm 9 24] (.seq (.draw [] [Zy 25 1 7,Zv 26 1 25,Zu 10 4,Zu 11 26]) (.seq (ZR [Zm 27 11,Zq 28 .lss 27 0] (ZC 28 (.region [Zm 29 11,u1 30 .neg [.tm 29],Zm 10 5,Zm 11 30]) .skip)) (.draw [] [Zu 31 10,Zu 32 10,Zu 33 10,w1 34 .nilCheck [.tm 33],Zy 35 0 34,Zv 36 1 35,Zu 37 8,Zu 38 11,Zu 42 10,w1 43 .nilCheck [.tm 42],Zy 44 1 43,Zv 45 1 44,Zu 46 9,Zu 47 11,w1 39 (.call 128) [.tm 38],Zz 40 127 37 39,Zz 41 126 36 40,w1 48 (.call 128) [.tm 47],Zz 49 127 46 48,Zz 50 126 45 49,w1 51 .nilCheck [.tm 31],Zy 52 0 51,ZS 1 52 41,w1 53 .nilCheck [.tm 32],Zy 54 1 53,ZS 1 54 50])))))) (.region [Zp 55 14 1,Zm 14 55]))))))) (ZR [Zt 56 2 4,Zt 57 2 5,Zs 2 4 56,Zs 2 5 57] .ret)))⟩
theorem YAc:Yg YGc Tryz.f100=some v100:=by kernel_rfl
def gcdC:Ctr:={ alias:=false,of:=fun l=>match l with
 | [.int .i64 a,.int .i64 b]=> .ex Nat fun x=> .ex Nat fun y=> .pre (a=x/\b=y/\x<=9223372036854775807/\y<=9223372036854775807) (.fin (.int .i64 (YHa x y)) [])
 |_=>noC}
def RA3:Env:={ ct:=fun _=>none,fn:=fun _=>none,meth:=fun _ _=>none}
theorem YBC:Yq YGc RA3:=by
 refine⟨fun f c h=>?_,fun f vf h=>?_,(fun _ _ _ h=>by cases h),by kernel_rfl,(fun _ h=>by cases h)⟩
 ·cases h
 ·cases h
theorem Yyl:gcdC.ok YGc 130:=by
 refine Yb Tryz.func130 YAF YBC 100 gcdC fun args k h=>?_
 simp only[gcdC]at h
 split at h
 ·rename_i a b
  obtain⟨x,y,⟨rfl,rfl,hx,hy⟩,h⟩:=h
  refine⟨[.int .i64 x,.int .i64 y],by simp [leL,le],?_⟩
  dsimp only[v130,go_sem,reduceIte]
  simp only[Yc,YGa,YF9,reduceCtorEq,YF8]
  refine Loop.keep [] (Nat×Nat) (fun s=>[(0,.int .i64 s.1),(1,.int .i64 s.2)]) (fun _=>[]) [] (fun s=>YHa s.1 s.2=YHa x y/\s.1<=9223372036854775807/\s.2<=9223372036854775807) (fun s=>s.2) ?_ ?_
  ·refine⟨(x,y),⟨rfl,hx,hy⟩,?_⟩
   dsimp only[go_sem,reduceIte]
   simp only[Ya]
  ·rintro⟨p,q⟩ ⟨he,hp,hq⟩
   dsimp only at he hp hq
   dsimp only[go_sem,reduceIte]
   simp only[Yc,YGa,YF9,reduceCtorEq,YF8]
   refine⟨fun hc=>⟨hc,(q,p%q),⟨?_,by simp only;omega,?_⟩,?_,?_⟩,fun hc=>Yf ?_⟩
   ·rw[<-he,Nat.gcd_comm p q]
    show YHa q (p%q)=YHa q p
    rw[Nat.gcd_comm q (p%q),<-Nat.gcd_rec]
   ·have:=YGJ p (by omega:0<q)
    simp only;omega
   ·exact YGJ p (by omega:0<q)
   ·have e:(p:Int).tmod q=((p%q:Nat):Int):=YHF rfl rfl
    rw[e]
    simp only[Ya]
   ·obtain rfl:q=0:=by omega
    rw[Nat.gcd_zero_right]at he
    rw[he];exact h
 ·exact h.1.elim
structure Bnd where
 ul:Nat
 uh:Nat
 dl:Nat
 dh:Nat
def YdB(p:Nat)(s:Bnd)(x:Int×Int):Bnd:=
 if x.2<0 then { s with dl:=addW s.dl (mulW (logF x.1 p).1 (-x.2).toNat),dh:=addW s.dh (mulW (logF x.1 p).2 (-x.2).toNat)}
 else { s with ul:=addW s.ul (mulW (logF x.1 p).1 x.2.toNat),uh:=addW s.uh (mulW (logF x.1 p).2 x.2.toNat)}
def Ycw(l:List (Int×Int))(p:Nat):Bnd:=l.foldl (YdB p) ⟨0,0,0,0⟩
def okT(x:Int×Int):Prop:=1<=x.1/\x.1<=1000000000001/\ -1000000000<=x.2/\x.2<=1000000000
def Bnd.ok(s:Bnd):Prop:=nl s.ul<=512/\nl s.uh<=512/\nl s.dl<=512/\nl s.dh<=512
theorem YjK(p:Nat)(s:Bnd)(x:Int×Int)(h:s.ok):(YdB p s x).ok:=by
 obtain⟨h1,h2,h3,h4⟩:=h
 unfold YdB
 split
 ·exact⟨h1,h2,Yca _ _,Yca _ _⟩
 ·exact⟨Yca _ _,Yca _ _,h3,h4⟩
def sumsC:Ctr:={ alias:=false,of:=fun l=>match l with
 | [.vs _ _ n sz get,.int .i64 p]=> .ex (List (Int×Int)) fun l=> .ex Nat fun q=> .pre (lsP 2 enc2 n sz get l/\(∀x,x∈l->okT x)/\n<=100/\p=q/\q<=2048)
     (.all Bool fun y1=> .all Bool fun y2=> .all Bool fun y3=> .all Bool fun y4=> .fin (.tup [.agg [natS y1 (Ycw l q).ul,natS y2 (Ycw l q).uh],.agg [natS y3 (Ycw l q).dl,natS y4 (Ycw l q).dh]]) [])
 |_=>noC}
def RA4:Env:={ ct:=fun n=>match n with|126=>some addWC|127=>some timesWC|128=>some numWC|125=>some logC|_=>none,fn:=fun _=>none,meth:=fun _ _=>none}
theorem Ypk:RA4.ct 126=some addWC:=rfl
theorem Ypl:RA4.ct 127=some timesWC:=rfl
theorem Ypm:RA4.ct 128=some numWC:=rfl
theorem Ypj:RA4.ct 125=some logC:=rfl
theorem YBD:Yq YGc RA4:=by
 refine⟨fun f c h=>?_,fun f vf h=>?_,(fun _ _ _ h=>by cases h),by kernel_rfl,(fun _ h=>by cases h)⟩
 ·simp only[RA4]at h
  split at h
  ·cases h;exact⟨YpX,Tryz.f126,Tryz.func126,by kernel_rfl,by kernel_rfl⟩
  ·cases h;exact⟨Yv4,Tryz.f127,Tryz.func127,by kernel_rfl,by kernel_rfl⟩
  ·cases h;exact⟨YlZ,Tryz.f128,Tryz.func128,by kernel_rfl,by kernel_rfl⟩
  ·cases h;exact⟨log_c,Tryz.f125,Tryz.func125,by kernel_rfl,by kernel_rfl⟩
  ·cases h
 ·cases h
structure SSt where
 i:Nat
 b:Bnd
 y1:Bool
 y2:Bool
 y3:Bool
 y4:Bool
theorem YEH:sumsC.ok YGc 100:=by
 refine Yb Tryz.func100 YAc YBD 500 sumsC fun args k h=>?_
 simp only[sumsC]at h
 split at h
 ·rename_i tt z n sz get p'
  obtain⟨l,p,⟨⟨rfl,rfl,hg⟩,hl,hn,rfl,hp⟩,h⟩:=h
  refine⟨[.vs tt z l.length 2 (fun k=>enc2 (l.getD k default)),.int .i64 p],⟨⟨id,rfl,rfl,rfl,hg⟩,⟨rfl,rfl⟩,trivial⟩,?_⟩
  dsimp only[v100,enc2,go_sem,reduceIte]
  simp only[Yc,YGa,YF9,reduceCtorEq,YF8]
  refine Loop.keep [0,0,2,0,6,0] SSt (fun s=>[(14,.int .i64 s.i)]) (fun s=>[(0,.box [natS s.y1 s.b.ul,natS s.y2 s.b.uh]),(1,.box [natS s.y3 s.b.dl,natS s.y4 s.b.dh])]) [] (fun s=>s.i<=l.length/\s.b=(l.take s.i).foldl (YdB p) ⟨0,0,0,0⟩/\s.b.ok) (fun s=>l.length-s.i) ?_ ?_
  ·refine⟨⟨0,⟨0,0,0,0⟩,true,true,true,true⟩,⟨by simp only;omega,rfl,by simp [Bnd.ok,nl_0]⟩,?_⟩
   dsimp only[natS,go_sem,reduceIte]
   simp only[Ya]
   simp [nl_0]
  ·rintro⟨i,B,y1,y2,y3,y4⟩ ⟨hi,hB,hok⟩
   dsimp only at hi hB hok
   dsimp only[Ypj,Ypk,Ypm,Ypl,logC,addWC,numWC,timesWC,natS,enc2,YGb,go_sem,reduceIte]
   simp only[Yc,YGa,YF9,reduceCtorEq,YF8]
   refine⟨fun hlt=>?_,fun hge=>?_⟩
   ·have hx:=hl _ (Yk (by omega:i<l.length))
    generalize hxe:l.getD i default=x at hx⊢
    obtain⟨q0,q1,q2,q3⟩:=hx
    have hstep:(l.take (i+1)).foldl (YdB p) ⟨0,0,0,0⟩=YdB p B x:=by
     rw[Yr (by omega),<-hB,hxe]
    obtain⟨g1,g2⟩:=YyQ x.1 p (by omega)
    obtain⟨o1,o2,o3,o4⟩:=hok
    refine⟨⟨by omega,by omega⟩,p,⟨q0,by omega,rfl,hp⟩,fun z1 z2=>⟨by decide,by decide,fun hc=>?_,fun hc=>?_⟩⟩
    ·have en:IntKind.i64.wrap (0-x.2)= -x.2:=by rw[YGd _ (by omega)];omega
     rw[en]
     have hnw:nl (-x.2).toNat<=512:=by have:= @YkO (-x.2).toNat (by omega);omega
     refine⟨⟨by omega,by omega⟩,(logF x.1 p).1,(-x.2).toNat,⟨Yt g1,Yt hnw⟩,fun _=>⟨B.dl,mulW (logF x.1 p).1 (-x.2).toNat,⟨Yt o3,Yt (Yfz _ _)⟩,fun z3=>⟨⟨by omega,by omega⟩,(logF x.1 p).2,(-x.2).toNat,⟨Yt g2,Yt hnw⟩,fun _=>⟨B.dh,mulW (logF x.1 p).2 (-x.2).toNat,⟨Yt o4,Yt (Yfz _ _)⟩,fun z4=>?_⟩⟩⟩⟩
     refine⟨⟨i+1,YdB p B x,y1,y2,z3,z4⟩,⟨by simp only;omega,hstep.symm,YjK p B x ⟨o1,o2,o3,o4⟩⟩,by simp only;omega,?_⟩
     simp only[YdB,if_pos hc]
     rw[YGd ((i:Int)+1) (by omega)]
     simp only[Ya]
     exact⟨by decide,by decide,by simp⟩
    ·have hnw:nl x.2.toNat<=512:=by have:= @YkO x.2.toNat (by omega);omega
     refine⟨⟨by omega,by omega⟩,(logF x.1 p).1,x.2.toNat,⟨Yt g1,Yt hnw⟩,fun _=>⟨B.ul,mulW (logF x.1 p).1 x.2.toNat,⟨Yt o1,Yt (Yfz _ _)⟩,fun z3=>⟨⟨by omega,by omega⟩,(logF x.1 p).2,x.2.toNat,⟨Yt g2,Yt hnw⟩,fun _=>⟨B.uh,mulW (logF x.1 p).2 x.2.toNat,⟨Yt o2,Yt (Yfz _ _)⟩,fun z4=>?_⟩⟩⟩⟩
     refine⟨⟨i+1,YdB p B x,z3,z4,y3,y4⟩,⟨by simp only;omega,hstep.symm,YjK p B x ⟨o1,o2,o3,o4⟩⟩,by simp only;omega,?_⟩
     simp only[YdB,if_neg hc]
     rw[YGd ((i:Int)+1) (by omega)]
     simp only[Ya]
     exact⟨by decide,by decide,by simp⟩
   ·obtain rfl:i=l.length:=by omega
    rw[YHe]at hB
    have h:k (.tup [.agg [natS y1 (Ycw l p).ul,natS y2 (Ycw l p).uh],.agg [natS y3 (Ycw l p).dl,natS y4 (Ycw l p).dh]]) []:=h y1 y2 y3 y4
    rw[Ycw,<-hB]at h
    exact YC h (Yv _ ⟨⟨trivial,trivial,trivial⟩,⟨trivial,trivial,trivial⟩,trivial⟩) (fun _=>by simp [natS,Yl,Ym])
 ·exact h.1.elim
def v123:VF:=⟨31,[.cell 6 true 2],(ZR [u1 3 .box [.tm 0],u1 6 (.alloc [(.int .u64 0),(.int .u64 0)]) []] (ZR [Zm 11 1,Zm 12 2,Zd 13 80 11 12,Zm 10 13,Ze 14 0 10,Ze 15 1 10,Zm 7 14,Zm 8 15] (ZR [Za 17 1 3,Zf 18 1 17,Zm 19 8,u1 20 .addc [.tm 18,.tm 19,.cn (.int .u64 0)],Zm 16 20,Ze 21 0 16,Ze 22 1 16,Zm 8 21,Zm 9 22] (ZR [Za 23 0 3,Zf 24 1 23,Zm 25 7,Zo 26 .add 24 25,Zm 27 9,Zo 28 .add 26 27,Zm 29 8,u1 30 (.build [(.int .u64 0),(.int .u64 0)] [(0,1),(1,1)]) [.tm 28,.tm 29],Zs 2 6 30] .ret))))⟩
theorem YAy:Yg YGc Tryz.f123=some v123:=by kernel_rfl
def v124:VF:=⟨24,[.tmp 4],(ZR [u1 2 .box [.tm 0],u1 3 .box [.tm 1],u1 4 .mov [.cn (.bool false)]] (ZR [Za 5 0 2,Zf 6 1 5,Za 7 0 3,Zf 8 1 7,Zr 9 .gtr 6 8,Zm 10 9,Zj 11 10 false 0 2,Zh 12 10 false 1 11,Zj 13 10 false 0 3,Zh 14 10 false 1 13,u2 15 10 false (.cmp .eql) [.tm 12,.tm 14],Zg 16 10 false 15,Zj 17 16 true 1 2,Zh 18 16 true 1 17,Zj 19 16 true 1 3,Zh 20 16 true 1 19,u2 21 16 true (.cmp .gtr) [.tm 18,.tm 20],u2 22 10 false .and [.tm 16,.tm 21],u1 23 .or [.tm 10,.tm 22],Zm 4 23] .ret))⟩
theorem YAz:Yg YGc Tryz.f124=some v124:=by kernel_rfl
def v122:VF:=⟨100,[.tmp 2,.tmp 3],(ZR [u1 2 .mov [.cn (.int .u64 0)],u1 3 .mov [.cn (.int .u64 0)]] (ZR [Zm 15 0,u1 16 (.conv .u64) [.tm 15],Zc 17 146 16,u1 18 (.ari .sub) [.tm 17,.cn (.int .i64 1)],Zm 4 18] (ZR [Zm 19 4,u1 20 (.conv .u64) [.tm 19],Zm 5 20] (.seq (ZR [Zm 21 0,Zm 22 0,u1 23 (.ari .sub) [.tm 22,.cn (.int .i64 1)],u1 24 (.bit .and) [.tm 21,.tm 23],Zq 25 .eql 24 0] (ZC 25 (ZR [Zm 26 5,u1 27 .shl [.tm 26,.cn (.int .u64 28)],Zm 28 5,u1 29 .shl [.tm 28,.cn (.int .u64 28)],Zm 2 27,Zm 3 29] .ret) .skip)) (ZR [Zm 30 0,u1 31 (.conv .u64) [.tm 30],Zm 32 4,u1 33 (.ari .sub) [.cn (.int .i64 63),.tm 32],u1 34 .shl [.tm 31,.tm 33],Zm 6 34] (ZR [Zm 35 6,Zm 7 35] (.seq (ZR [Zi 36 0] (.block 0 (.loop (ZR [Zq 37 .lss 36 28] (.seq (ZC 37 .skip (.exit 0)) (.seq (.block 1 (ZR [Zm 38 36,Zm 8 38] (ZR [Zm 40 6,Zm 41 6,Zd 42 80 40 41,Zm 39 42,Ze 43 0 39,Ze 44 1 39,Zm 9 43,Zm 10 44] (ZR [Zm 46 7,Zm 47 7,Zd 48 80 46 47,Zm 45 48,Ze 49 0 45,Ze 50 1 45,Zm 11 49,Zm 12 50] (ZR [Zm 51 9,u1 52 .shr [.tm 51,.cn (.int .u64 63)],Zm 13 52] (ZR [Zm 53 13,Zm 54 11,u1 55 .shr [.tm 54,.cn (.int .u64 63)],Zr 56 .eql 53 55,Zm 14 56] (.seq (ZR [Zm 57 13,u1 58 (.cmp .eql) [.tm 57,.cn (.int .u64 0)]] (ZC 58 (.region [Zm 59 9,u1 60 .shl [.tm 59,.cn (.int .u64 1)],Zm 61 10,u1 62 .shr [.tm 61,.cn (.int .u64 63)],u1 63 (.bit .or) [.tm 60,.tm 62],Zm 64 11,u1 65 .shl [.tm 64,.cn (.int .u64 1)],Zm 66 12,u1 67 .shr [.tm 66,.cn (.int .u64 63)],u1 68 (.bit .or) [.tm 65,.tm 67],Zm 69 12,u1 70 .shl [.tm 69,.cn (.int .u64 1)],Zm 9 63,Zm 11 68,Zm 12 70]) .skip)) (.seq (ZR [Zm 71 12,u1 72 (.cmp .gtr) [.tm 71,.cn (.int .u64 0)]] (ZC 72 (.region [Zm 73 11,u1 74 (.ari .add) [.tm 73,.cn (.int .u64 1)],Zm 11 74]) .skip)) (.seq (ZR [Zm 75 14,u1 76 .not [.tm 75],Zm 77 76,Zg 78 77 false 11,u2 79 77 false (.cmp .eql) [.tm 78,.cn (.int .u64 0)],u1 80 .or [.tm 77,.tm 79]] (ZC 80 (.seq (.draw [] [Zu 81 5,Zu 82 8,w1 83 (.ari .sub) [.cn (.int .i64 28),.tm 82],w1 84 .shl [.tm 81,.tm 83],Zu 85 5,w1 86 (.ari .add) [.tm 85,.cn (.int .u64 1)],Zu 87 8,w1 88 (.ari .sub) [.cn (.int .i64 28),.tm 87],w1 89 .shl [.tm 86,.tm 88],Zu 2 84,Zu 3 89]) .ret) .skip)) (.region [Zm 90 9,Zm 91 11,Zm 92 5,u1 93 .shl [.tm 92,.cn (.int .u64 1)],Zm 94 13,u1 95 (.bit .or) [.tm 93,.tm 94],Zm 6 90,Zm 7 91,Zm 5 95])))))))))) (.region [Zp 96 36 1,Zm 36 96]))))))) (ZR [Zm 97 5,Zm 98 5,u1 99 (.ari .add) [.tm 98,.cn (.int .u64 1)],Zm 2 97,Zm 3 99] .ret))))))))⟩
theorem YAx:Yg YGc Tryz.f122=some v122:=by kernel_rfl
def Yd6(a:Int×Int)(x y:Int):Int×Int:=
 (IntKind.u64.wrap (IntKind.u64.wrap (a.1+x*y/18446744073709551616)+(a.2+x*y%18446744073709551616)/18446744073709551616),(a.2+x*y%18446744073709551616)%18446744073709551616)
def YhA(a b:Int×Int):Bool:=decide (b.1<a.1) || (decide (a.1=b.1)&&decide (b.2<a.2))
def okL(a:Int×Int):Prop:=(0<=a.1/\a.1<=18446744073709551615)/\0<=a.2/\a.2<=18446744073709551615
def lpC:Ctr:={ alias:=false,of:=fun l=>match l with
 | [.agg [.int .u64 a,.int .u64 b],.int .u64 x,.int .u64 y]=> .pre (okL (a,b)/\(0<=x/\x<=18446744073709551615)/\0<=y/\y<=18446744073709551615) (.fin (.agg [.int .u64 (Yd6 (a,b) x y).1,.int .u64 (Yd6 (a,b) x y).2]) [])
 |_=>noC}
def loC:Ctr:={ alias:=false,of:=fun l=>match l with
 | [.agg [.int .u64 a,.int .u64 b],.agg [.int .u64 c,.int .u64 d]]=> .fin (.bool (YhA (a,b) (c,d))) []
 |_=>noC}
def RA5:Env:={ ct:=fun n=>match n with|80=>some mul64C|_=>none,fn:=fun _=>none,meth:=fun _ _=>none}
theorem YtK:RA5.ct 80=some mul64C:=rfl
theorem YvD:Yq YGc RA5:=by
 refine⟨fun f c h=>?_,fun f vf h=>?_,(fun _ _ _ h=>by cases h),by kernel_rfl,(fun _ h=>by cases h)⟩
 ·simp only[RA5]at h
  split at h
  ·cases h;exact⟨Ye3,Tryz.f80,Tryz.func80,by kernel_rfl,by kernel_rfl⟩
  ·cases h
 ·cases h
theorem lp_c:lpC.ok YGc 123:=by
 refine Yb Tryz.func123 YAy YvD 200 lpC fun args k h=>?_
 simp only[lpC]at h
 split at h
 ·rename_i a b x y
  obtain⟨⟨⟨⟨a0,a1⟩,b0,b1⟩,hx,hy⟩,h⟩:=h
  refine⟨[.agg [.int .u64 a,.int .u64 b],.int .u64 x,.int .u64 y],by simp [leL,le],?_⟩
  dsimp only[v123,YtK,mul64C,YxX,go_sem,reduceIte]
  simp only[Yc,YGa,YF9,reduceCtorEq,YF8]
  refine⟨⟨hx,hy⟩,by decide,by decide,⟨b0,Int.emod_nonneg _ (by decide),by decide,by decide⟩,by decide,by decide,?_⟩
  rw[Int.add_zero]
  exact YC (show k _ []from h) (Yv (.agg [.int .u64 (Yd6 (a,b) x y).1,.int .u64 (Yd6 (a,b) x y).2]) ⟨trivial,trivial,trivial⟩) (fun _=>by simp [Yl,Ym])
 ·exact h.1.elim
theorem lo_c:loC.ok YGc 124:=by
 refine Yb Tryz.func124 YAz YvD 200 loC fun args k h=>?_
 simp only[loC]at h
 split at h
 ·rename_i a b c d
  refine⟨[.agg [.int .u64 a,.int .u64 b],.agg [.int .u64 c,.int .u64 d]],by simp [leL,le],?_⟩
  dsimp only[v124,go_sem,reduceIte]
  simp only[Yc,YGa,YF9,reduceCtorEq,YF8]
  exact⟨fun h1 h2=>by rw[decide_eq_false h1,decide_eq_true h2];rfl,YK h⟩
 ·exact h.1.elim
def RA6:Env:={ ct:=fun n=>match n with|146=>some len64C|80=>some mul64C|_=>none,fn:=fun _=>none,meth:=fun _ _=>none}
theorem YjW:RA6.ct 146=some len64C:=rfl
theorem YmC:RA6.ct 80=some mul64C:=rfl
theorem YBE:Yq YGc RA6:=by
 refine⟨fun f c h=>?_,fun f vf h=>?_,(fun _ _ _ h=>by cases h),by kernel_rfl,(fun _ h=>by cases h)⟩
 ·simp only[RA6]at h
  split at h
  ·cases h;exact⟨Yji,Tryz.f146,Tryz.func146,by kernel_rfl,by kernel_rfl⟩
  ·cases h;exact⟨Ye3,Tryz.f80,Tryz.func80,by kernel_rfl,by kernel_rfl⟩
  ·cases h
 ·cases h
abbrev hiW(a:Int):Int:=a*a/18446744073709551616
abbrev loW(a:Int):Int:=a*a%18446744073709551616
abbrev sr63(x:Int):Int:=x.fdiv (2^min (YHE 63) 64)
abbrev sl1(x:Int):Int:=IntKind.u64.wrap (x*2^min (YHE 1) 64)
abbrev dblW(x y:Int):Int:=bitI .or .u64 (sl1 x) (sr63 y)
abbrev shW(S:Int)(f:Nat):Int:=IntKind.u64.wrap (S*2^min f 64)
def YaO:Nat->Int->Int->Int->Int×Int
 |0,S,_,_=>(S,IntKind.u64.wrap (S+1))
 |f+1,S,a,b=>
  if sr63 (hiW a)=0 then
   if 0<sl1 (loW b)then
    if(!decide (sr63 (hiW a)=sr63 (hiW b)) || decide (IntKind.u64.wrap (dblW (hiW b) (loW b)+1)=0))=true then(shW S (f+1),shW (IntKind.u64.wrap (S+1)) (f+1))
    else YaO f (bitI .or .u64 (sl1 S) (sr63 (hiW a))) (dblW (hiW a) (loW a)) (IntKind.u64.wrap (dblW (hiW b) (loW b)+1))
   else
    if(!decide (sr63 (hiW a)=sr63 (hiW b)) || decide (dblW (hiW b) (loW b)=0))=true then(shW S (f+1),shW (IntKind.u64.wrap (S+1)) (f+1))
    else YaO f (bitI .or .u64 (sl1 S) (sr63 (hiW a))) (dblW (hiW a) (loW a)) (dblW (hiW b) (loW b))
  else
   if 0<loW b then
    if(!decide (sr63 (hiW a)=sr63 (hiW b)) || decide (IntKind.u64.wrap (hiW b+1)=0))=true then(shW S (f+1),shW (IntKind.u64.wrap (S+1)) (f+1))
    else YaO f (bitI .or .u64 (sl1 S) (sr63 (hiW a))) (hiW a) (IntKind.u64.wrap (hiW b+1))
   else
    if(!decide (sr63 (hiW a)=sr63 (hiW b)) || decide (hiW b=0))=true then(shW S (f+1),shW (IntKind.u64.wrap (S+1)) (f+1))
    else YaO f (bitI .or .u64 (sl1 S) (sr63 (hiW a))) (hiW a) (hiW b)
def Ya4(n:Int):Int×Int:=
 if YbN n=true then(IntKind.u64.wrap (((Yo n.toNat-1:Nat):Int)*2^min (YHE 28) 64),IntKind.u64.wrap (((Yo n.toNat-1:Nat):Int)*2^min (YHE 28) 64))
 else YaO 28 ((Yo n.toNat-1:Nat):Int) (shW n (63-(Yo n.toNat-1))) (shW n (63-(Yo n.toNat-1)))
theorem Yav(x:Int):0<=IntKind.u64.wrap x/\IntKind.u64.wrap x<=18446744073709551615:=by rw[Ymi];omega
theorem Yez(x y:Int):0<=bitI .or .u64 x y/\bitI .or .u64 x y<=18446744073709551615:=Yav _
theorem Yq7{a:Int}(h0:0<=a)(h1:a<=18446744073709551615):0<=hiW a/\hiW a<=18446744073709551615:=by
 have h2:a*a<=18446744073709551615*18446744073709551615:=YbE h1 h1 h0 (by decide)
 have h3:0<=a*a:=YHv h0 h0
 unfold hiW
 omega
def quickC:Ctr:={ alias:=false,of:=fun l=>match l with
 | [.int .i64 n]=> .pre (1<=n/\n<=4611686018427387904) (.fin (.tup [.int .u64 (Ya4 n).1,.int .u64 (Ya4 n).2]) [])
 |_=>noC}
theorem Yzk:quickC.ok YGc 122:=by
 refine Yb Tryz.func122 YAx YBE 400 quickC fun args k h=>?_
 simp only[quickC]at h
 split at h
 ·rename_i n
  obtain⟨⟨n0,n1⟩,h⟩:=h
  refine⟨[.int .i64 n],by simp [leL,le],?_⟩
  dsimp only[v122,YjW,YmC,len64C,mul64C,go_sem,reduceIte]
  simp only[Yc,YGa,YF9,reduceCtorEq,YF8]
  have hb1:Yo n.toNat<=63:=bitsN_le.2 (by have:(2:Nat)^63=9223372036854775808:=rfl;omega)
  have hb0:Yo n.toNat≠0:=fun e=>by have:=bitsN_eq0.1 e;omega
  obtain⟨K,hK⟩:∃K,K=Yo n.toNat-1:=⟨_,rfl⟩
  have eu:IntKind.u64.wrap n=n:=YGF _ (by omega)
  have ek:IntKind.i64.wrap ((Yo n.toNat:Int)-1)=(K:Int):=by rw[hK,YGd _ (by omega)];omega
  have ek2:IntKind.i64.wrap (63-(K:Int))=((63-K:Nat):Int):=by rw[YGd _ (by omega)];omega
  have ek3:IntKind.u64.wrap (K:Int)=(K:Int):=YGF _ (by omega)
  rw[eu,ek,ek2,ek3]
  refine⟨by omega,fun hc=>⟨by decide,by decide,?_⟩,fun hc=>⟨by omega,?_⟩⟩
  ·rw[Ya4,if_pos (show YbN n=true from decide_eq_true hc),<-hK]at h
   exact YgB h
  ·have e:Ya4 n=YaO 28 K (shW n (63-K)) (shW n (63-K)):=by rw[Ya4,if_neg (show¬YbN n=true from fun hh=>hc (of_decide_eq_true hh)),<-hK]
   rw[e]at h
   rw[YGb]
   obtain⟨A,hA⟩:∃A,A=shW n (63-K):=⟨_,rfl⟩
   rw[<-hA]at h
   obtain⟨R,hR⟩:∃R,R=YaO 28 K A A:=⟨_,rfl⟩
   rw[<-hR]at h
   rw[show IntKind.u64.wrap (n*2^min (63-K) 64)=A from hA.symm]
   have hAr:0<=A/\A<=18446744073709551615:=by rw[hA];exact Yav _
   refine Loop.keep [] (Int×Int×Int×Nat) (fun s=>[(5,.int .u64 s.1),(6,.int .u64 s.2.1),(7,.int .u64 s.2.2.1),(36,.int .i64 s.2.2.2)]) (fun _=>[]) [] (fun s=>s.2.2.2<=28/\R=YaO (28-s.2.2.2) s.1 s.2.1 s.2.2.1/\(0<=s.2.1/\s.2.1<=18446744073709551615)/\0<=s.2.2.1/\s.2.2.1<=18446744073709551615) (fun s=>28-s.2.2.2) ?_ ?_
   ·refine⟨(K,A,A,0),⟨by simp only;omega,hR,hAr,hAr⟩,?_⟩
    dsimp only[go_sem,reduceIte]
    simp only[Ya]
    try simp
   ·rintro⟨S,a,b,i⟩ ⟨hi,he,ha,hb⟩
    dsimp only at hi he ha hb
    dsimp only[YjW,YmC,len64C,mul64C,go_sem,reduceIte]
    simp only[Yc,YGa,YF9,reduceCtorEq,YF8]
    have ei:IntKind.i64.wrap (28-(i:Int))=((28-i:Nat):Int):=by rw[YGd _ (by omega)];omega
    rw[ei]
    have hA2:=Yq7 ha.1 ha.2
    have hB2:=Yq7 hb.1 hb.2
    refine⟨fun hlt=>?_,fun hge=>?_⟩
    ·obtain⟨f,hf⟩:∃f,28-i=f+1:=⟨28-i-1,by omega⟩
     rw[hf,YaO]at he
     rw[hf,YGb]
     refine⟨ha,by decide,by decide,hb,by decide,by decide,by decide,by decide,fun hc1=>⟨by decide,by decide,by decide,by decide,by decide,fun hc2=>⟨fun hc3=>?_,fun hc3=>?_⟩,fun hc2=>⟨fun hc3=>?_,fun hc3=>?_⟩⟩,fun hc1=>⟨fun hc2=>⟨fun hc3=>?_,fun hc3=>?_⟩,fun hc2=>⟨fun hc3=>?_,fun hc3=>?_⟩⟩⟩
     ·rw[if_pos hc1,if_pos hc2,if_pos hc3]at he
      rw[he]at h
      exact⟨by omega,by omega,YgB h⟩
     ·rw[if_pos hc1,if_pos hc2,if_neg (by rw[hc3];decide)]at he
      refine⟨by decide,(bitI .or .u64 (sl1 S) (sr63 (hiW a)),dblW (hiW a) (loW a),IntKind.u64.wrap (dblW (hiW b) (loW b)+1),i+1),⟨by simp only;omega,by rw[show 28-(i+1)=f by omega];exact he,Yez _ _,Yav _⟩,by simp only;omega,?_⟩
      rw[YGd ((i:Int)+1) (by omega)]
      simp only[Ya]
      simp
     ·rw[if_pos hc1,if_neg hc2,if_pos hc3]at he
      rw[he]at h
      exact⟨by omega,by omega,YgB h⟩
     ·rw[if_pos hc1,if_neg hc2,if_neg (by rw[hc3];decide)]at he
      refine⟨by decide,(bitI .or .u64 (sl1 S) (sr63 (hiW a)),dblW (hiW a) (loW a),dblW (hiW b) (loW b),i+1),⟨by simp only;omega,by rw[show 28-(i+1)=f by omega];exact he,Yez _ _,Yez _ _⟩,by simp only;omega,?_⟩
      rw[YGd ((i:Int)+1) (by omega)]
      simp only[Ya]
      simp
     ·rw[if_neg hc1,if_pos hc2,if_pos hc3]at he
      rw[he]at h
      exact⟨by omega,by omega,YgB h⟩
     ·rw[if_neg hc1,if_pos hc2,if_neg (by rw[hc3];decide)]at he
      refine⟨by decide,(bitI .or .u64 (sl1 S) (sr63 (hiW a)),hiW a,IntKind.u64.wrap (hiW b+1),i+1),⟨by simp only;omega,by rw[show 28-(i+1)=f by omega];exact he,hA2,Yav _⟩,by simp only;omega,?_⟩
      rw[YGd ((i:Int)+1) (by omega)]
      simp only[Ya]
      simp
     ·rw[if_neg hc1,if_neg hc2,if_pos hc3]at he
      rw[he]at h
      exact⟨by omega,by omega,YgB h⟩
     ·rw[if_neg hc1,if_neg hc2,if_neg (by rw[hc3];decide)]at he
      refine⟨by decide,(bitI .or .u64 (sl1 S) (sr63 (hiW a)),hiW a,hiW b,i+1),⟨by simp only;omega,by rw[show 28-(i+1)=f by omega];exact he,hA2,hB2⟩,by simp only;omega,?_⟩
      rw[YGd ((i:Int)+1) (by omega)]
      simp only[Ya]
      simp
    ·rw[show 28-i=0 by omega,YaO]at he
     rw[he]at h
     exact YgB h
 ·exact h.1.elim
def v99:VF:=⟨72,[.tmp 2,.tmp 3],(ZR [Zi 2 0,u1 3 .mov [.cn (.bool false)]] (ZR [u1 4 (.allocArr 2 2 [(.int .u64 0),(.int .u64 0),(.int .u64 0),(.int .u64 0)]) [],u1 5 (.allocArr 2 2 [(.int .u64 0),(.int .u64 0),(.int .u64 0),(.int .u64 0)]) []] (.seq (ZR [Zm 10 0,Zl 11 10,Zi 12 0] (.block 0 (.loop (ZR [Zr 13 .lss 12 11] (.seq (ZC 13 .skip (.exit 0)) (.seq (.block 1 (ZR [Zx 14 2 10 12,Zt 15 2 14,Zn 7,Zs 2 7 15] (ZR [Za 17 0 7,Zf 18 1 17,Zc 19 122 18,Zm 16 19,Ze 20 0 16,Ze 21 1 16,Zm 8 20,Zm 9 21] (ZR [Za 22 1 7,Zf 23 1 22,Zq 24 .geq 23 0] (ZC 24 (.draw [] [w1 25 (.idxArr 2 2) [.tm 4,.cn (.int .i64 0)],Zw 26 2 25,Zu 27 8,Zy 28 1 7,Zv 29 1 28,w1 30 (.conv .u64) [.tm 29],w1 32 (.idxArr 2 2) [.tm 4,.cn (.int .i64 1)],Zw 33 2 32,Zu 34 9,Zy 35 1 7,Zv 36 1 35,w1 37 (.conv .u64) [.tm 36],w1 31 (.call 123) [.tm 26,.tm 27,.tm 30],w1 39 (.idxArr 2 2) [.tm 4,.cn (.int .i64 0)],w1 38 (.call 123) [.tm 33,.tm 34,.tm 37],ZS 2 39 31,w1 40 (.idxArr 2 2) [.tm 4,.cn (.int .i64 1)],ZS 2 40 38]) (.draw [] [w1 41 (.idxArr 2 2) [.tm 5,.cn (.int .i64 0)],Zw 42 2 41,Zu 43 8,Zy 44 1 7,Zv 45 1 44,w1 46 .neg [.tm 45],w1 47 (.conv .u64) [.tm 46],w1 49 (.idxArr 2 2) [.tm 5,.cn (.int .i64 1)],Zw 50 2 49,Zu 51 9,Zy 52 1 7,Zv 53 1 52,w1 54 .neg [.tm 53],w1 55 (.conv .u64) [.tm 54],w1 48 (.call 123) [.tm 42,.tm 43,.tm 47],w1 57 (.idxArr 2 2) [.tm 5,.cn (.int .i64 0)],w1 56 (.call 123) [.tm 50,.tm 51,.tm 55],ZS 2 57 48,w1 58 (.idxArr 2 2) [.tm 5,.cn (.int .i64 1)],ZS 2 58 56])))))) (.region [Zp 59 12 1,Zm 12 59]))))))) (.seq (.block 2 (ZR [u1 61 (.idxArr 2 2) [.tm 4,.cn (.int .i64 0)],Zt 62 2 61,u1 63 (.idxArr 2 2) [.tm 5,.cn (.int .i64 1)],Zt 64 2 63,Zd 65 124 62 64,Zm 60 65] (ZC 60 (ZR [Zi 2 1,u1 3 .mov [.cn (.bool true)]] .ret) (ZR [u1 67 (.idxArr 2 2) [.tm 5,.cn (.int .i64 0)],Zt 68 2 67,u1 69 (.idxArr 2 2) [.tm 4,.cn (.int .i64 1)],Zt 70 2 69,Zd 71 124 68 70,Zm 66 71] (ZC 66 (ZR [Zi 2 (-1),u1 3 .mov [.cn (.bool true)]] .ret) .skip))))) (ZR [Zi 2 0,u1 3 .mov [.cn (.bool false)]] .ret)))))⟩
theorem YF0:Yg YGc Tryz.f99=some v99:=by kernel_rfl
structure Gss where
 u0:Int×Int
 u1:Int×Int
 d0:Int×Int
 d1:Int×Int
def Gss.ok(s:Gss):Prop:=okL s.u0/\okL s.u1/\okL s.d0/\okL s.d1
def gssS(s:Gss)(x:Int×Int):Gss:=
 if 0<=x.2 then { s with u0:=Yd6 s.u0 (Ya4 x.1).1 x.2,u1:=Yd6 s.u1 (Ya4 x.1).2 x.2}
 else { s with d0:=Yd6 s.d0 (Ya4 x.1).1 (-x.2),d1:=Yd6 s.d1 (Ya4 x.1).2 (-x.2)}
def gss0:Gss:=⟨(0,0),(0,0),(0,0),(0,0)⟩
def YgV(l:List (Int×Int)):Int×Bool:=
 let s:=l.foldl gssS gss0
 if YhA s.u0 s.d1=true then(1,true)else if YhA s.d0 s.u1=true then(-1,true)else(0,false)
theorem Ygp(a:Int×Int)(x y:Int)(h:okL a):okL (Yd6 a x y):=by
 unfold Yd6
 exact⟨Yav _,Int.emod_nonneg _ (by decide),by show _%_<=_;omega⟩
theorem Yq3(s:Gss)(x:Int×Int)(h:s.ok):(gssS s x).ok:=by
 obtain⟨h1,h2,h3,h4⟩:=h
 unfold gssS
 split
 ·exact⟨Ygp _ _ _ h1,Ygp _ _ _ h2,h3,h4⟩
 ·exact⟨h1,h2,Ygp _ _ _ h3,Ygp _ _ _ h4⟩
theorem Yct:∀(f:Nat)(S a b:Int),(0<=S/\S<=18446744073709551615)->(0<=(YaO f S a b).1/\(YaO f S a b).1<=18446744073709551615)/\0<=(YaO f S a b).2/\(YaO f S a b).2<=18446744073709551615
 |0,S,a,b,h=>⟨h,Yav _⟩
 |f+1,S,a,b,h=>by
  rw[YaO]
  split
  ·split
   ·split
    ·exact⟨Yav _,Yav _⟩
    ·exact Yct f _ _ _ (Yez _ _)
   ·split
    ·exact⟨Yav _,Yav _⟩
    ·exact Yct f _ _ _ (Yez _ _)
  ·split
   ·split
    ·exact⟨Yav _,Yav _⟩
    ·exact Yct f _ _ _ (Yez _ _)
   ·split
    ·exact⟨Yav _,Yav _⟩
    ·exact Yct f _ _ _ (Yez _ _)
theorem YoD(n:Int)(hn:n<=4611686018427387904):(0<=(Ya4 n).1/\(Ya4 n).1<=18446744073709551615)/\0<=(Ya4 n).2/\(Ya4 n).2<=18446744073709551615:=by
 unfold Ya4
 split
 ·exact⟨Yav _,Yav _⟩
 ·have hb1:Yo n.toNat<=63:=bitsN_le.2 (by have:(2:Nat)^63=9223372036854775808:=rfl;omega)
  exact Yct _ _ _ _ ⟨by omega,by omega⟩
def guessC:Ctr:={ alias:=false,of:=fun l=>match l with
 | [.vs _ _ n sz get]=> .ex (List (Int×Int)) fun l=> .pre (lsP 2 enc2 n sz get l/\(∀x,x∈l->okT x)/\n<=100) (.fin (.tup [.int .i64 (YgV l).1,.bool (YgV l).2]) [])
 |_=>noC}
def RA7:Env:={ ct:=fun n=>match n with|122=>some quickC|123=>some lpC|124=>some loC|_=>none,fn:=fun _=>none,meth:=fun _ _=>none}
theorem Ypn:RA7.ct 122=some quickC:=rfl
theorem Ypo:RA7.ct 123=some lpC:=rfl
theorem Ypp:RA7.ct 124=some loC:=rfl
theorem YBF:Yq YGc RA7:=by
 refine⟨fun f c h=>?_,fun f vf h=>?_,(fun _ _ _ h=>by cases h),by kernel_rfl,(fun _ h=>by cases h)⟩
 ·simp only[RA7]at h
  split at h
  ·cases h;exact⟨Yzk,Tryz.f122,Tryz.func122,by kernel_rfl,by kernel_rfl⟩
  ·cases h;exact⟨lp_c,Tryz.f123,Tryz.func123,by kernel_rfl,by kernel_rfl⟩
  ·cases h;exact⟨lo_c,Tryz.f124,Tryz.func124,by kernel_rfl,by kernel_rfl⟩
  ·cases h
 ·cases h
theorem Ylz{k:SV->List HO->Prop}{al:Bool}{hp:List HO}{κ:IntKind}{x:Int}{b:Bool}(h:k (.tup [.int κ x,.bool b]) []):YD al k (.tup [.int κ x,.bool b]) hp:=
 YC (show k _ []from h) (Yv (.tup [.int κ x,.bool b]) ⟨trivial,trivial,trivial⟩) (fun _=>by simp [Yl,Ym])
theorem Yyn:guessC.ok YGc 99:=by
 refine Yb Tryz.func99 YF0 YBF 500 guessC fun args k h=>?_
 simp only[guessC]at h
 split at h
 ·rename_i tt z n sz get
  obtain⟨l,⟨⟨rfl,rfl,hg⟩,hl,hn⟩,h⟩:=h
  refine⟨[.vs tt z l.length 2 (fun k=>enc2 (l.getD k default))],⟨⟨id,rfl,rfl,rfl,hg⟩,trivial⟩,?_⟩
  dsimp only[v99,enc2,go_sem,reduceIte]
  simp only[Yc,YGa,YF9,reduceCtorEq,YF8]
  refine Loop.keep [0,3,0,4,0] (Nat×Gss) (fun s=>[(12,.int .i64 s.1)]) (fun s=>[(0,.own false 2 2 (YaN 2 [.int .u64 s.2.u0.1,.int .u64 s.2.u0.2,.int .u64 s.2.u1.1,.int .u64 s.2.u1.2])),(1,.own false 2 2 (YaN 2 [.int .u64 s.2.d0.1,.int .u64 s.2.d0.2,.int .u64 s.2.d1.1,.int .u64 s.2.d1.2]))]) [] (fun s=>s.1<=l.length/\s.2=(l.take s.1).foldl gssS gss0/\s.2.ok) (fun s=>l.length-s.1) ?_ ?_
  ·refine⟨(0,gss0),⟨by simp only;omega,rfl,by simp [Gss.ok,gss0,okL]⟩,?_⟩
   dsimp only[gss0,go_sem,reduceIte]
   simp only[Ya]
   exact⟨by decide,by decide,rfl⟩
  ·rintro⟨i,G⟩ ⟨hi,hG,hok⟩
   dsimp only at hi hG hok
   dsimp only[Ypn,Ypo,Ypp,quickC,lpC,loC,enc2,YGb,Int.reduceToNat,YHC,YHw,Int.toNat_one,go_sem,reduceIte]
   simp only[Yc,YGa,YF9,reduceCtorEq,YF8]
   refine⟨fun hlt=>?_,fun hge=>?_⟩
   ·have hx:=hl _ (Yk (by omega:i<l.length))
    generalize hxe:l.getD i default=x at hx⊢
    obtain⟨q0,q1,q2,q3⟩:=hx
    have hstep:(l.take (i+1)).foldl gssS gss0=gssS G x:=by
     rw[Yr (by omega),<-hG,hxe]
    obtain⟨g1,g2⟩:=YoD x.1 (by omega)
    have hok':=Yq3 G x hok
    obtain⟨o1,o2,o3,o4⟩:=hok
    refine⟨⟨by omega,by omega⟩,⟨by omega,by omega⟩,by decide,by decide,fun hc=>?_,fun hc=>?_⟩
    ·have ew:IntKind.u64.wrap x.2=x.2:=YGF _ (by omega)
     rw[ew]
     refine⟨by decide,by decide,by decide,by decide,⟨o1,g1,by omega,by omega⟩,by decide,⟨o2,g2,by omega,by omega⟩,by decide,by decide,by decide,(i+1,gssS G x),⟨by simp only;omega,hstep.symm,hok'⟩,by simp only;omega,?_⟩
     rw[YGd ((i:Int)+1) (by omega)]
     simp only[gssS,if_pos hc]
     simp only[Ya]
     refine⟨⟨by decide,by decide,by simp⟩,fun j hj=>?_⟩
     match j,hj with
     |0,_=>exact⟨⟨rfl,rfl⟩,⟨rfl,rfl⟩,trivial⟩
     |1,_=>exact⟨⟨rfl,rfl⟩,⟨rfl,rfl⟩,trivial⟩
    ·have en:IntKind.i64.wrap (0-x.2)= -x.2:=by rw[YGd _ (by omega)];omega
     rw[en]
     have ew:IntKind.u64.wrap (-x.2)= -x.2:=YGF _ (by omega)
     rw[ew]
     refine⟨by decide,by decide,by decide,by decide,⟨o3,g1,by omega,by omega⟩,by decide,⟨o4,g2,by omega,by omega⟩,by decide,by decide,by decide,(i+1,gssS G x),⟨by simp only;omega,hstep.symm,hok'⟩,by simp only;omega,?_⟩
     rw[YGd ((i:Int)+1) (by omega)]
     simp only[gssS,if_neg hc]
     simp only[Ya]
     refine⟨⟨by decide,by decide,by simp⟩,fun j hj=>?_⟩
     match j,hj with
     |0,_=>exact⟨⟨rfl,rfl⟩,⟨rfl,rfl⟩,trivial⟩
     |1,_=>exact⟨⟨rfl,rfl⟩,⟨rfl,rfl⟩,trivial⟩
   ·obtain rfl:i=l.length:=by omega
    rw[YHe]at hG
    rw[YgV,<-hG]at h
    refine⟨by decide,by decide,by decide,by decide,fun hc=>?_,fun hc=>⟨by decide,by decide,by decide,by decide,fun hd=>?_,fun hd=>?_⟩⟩
    ·rw[show YhA G.u0 G.d1=true from hc]at h
     exact Ylz h
    ·rw[show YhA G.u0 G.d1=false from hc,show YhA G.d0 G.u1=true from hd]at h
     exact Ylz h
    ·rw[show YhA G.u0 G.d1=false from hc,show YhA G.d0 G.u1=false from hd]at h
     exact Ylz h
 ·exact h.1.elim
def encB(x:Nat):List SV:=[.int .i64 x]
def hitF(out:List Nat)(n:Nat):Nat:=YbS (fun i=>decide (1<YHa (out.getD i 0) n)) out.length 0
def YcI:Nat->List Nat->List Nat->List Nat
 |0,_,out=>out
 |f+1,wait,out=>
  if wait.length=0 then out
  else if wait.getD (wait.length-1) 0=1 then YcI f (wait.take (wait.length-1)) out
  else if hitF out (wait.getD (wait.length-1) 0)<out.length then
   YcI f (wait.take (wait.length-1)++[YHa (out.getD (hitF out (wait.getD (wait.length-1) 0)) 0) (wait.getD (wait.length-1) 0),out.getD (hitF out (wait.getD (wait.length-1) 0)) 0/YHa (out.getD (hitF out (wait.getD (wait.length-1) 0)) 0) (wait.getD (wait.length-1) 0),wait.getD (wait.length-1) 0/YHa (out.getD (hitF out (wait.getD (wait.length-1) 0)) 0) (wait.getD (wait.length-1) 0)])
    (out.take (hitF out (wait.getD (wait.length-1) 0))++out.drop (hitF out (wait.getD (wait.length-1) 0)+1))
  else YcI f (wait.take (wait.length-1)) (out++[wait.getD (wait.length-1) 0])
def Ybj(out:List Nat)(x:Int×Int):List Nat:=YcI 3000 [x.1.toNat] out
def YiE(l:List (Int×Int)):List Nat:=l.foldl Ybj []
def Ys:List Nat->Nat
 | []=>1
 |x::l=>x*Ys l
theorem YV:∀(a b:List Nat),Ys (a++b)=Ys a*Ys b
 | [],b=>by simp [Ys]
 |x::a,b=>by rw[List.cons_append,Ys,Ys,YV a b,YGm]
theorem Ye8:∀{l:List Nat},(∀x,x∈l->1<=x)->1<=Ys l
 | [],_=>by decide
 |x::l,h=>by
  have h1:=Ye8 (l:=l) fun y hy=>h y (YGx _ hy)
  have h2:=h x (YGy ..)
  rw[Ys]
  exact YHd h2 h1
theorem Yd1{w:List Nat}(h:w.length≠0):w=w.take (w.length-1)++[w.getD (w.length-1) 0]:=by
 have:=Yag (l:=w) (i:=w.length-1) (by omega)
 rw[show w.length-1+1=w.length by omega,YHe]at this
 exact this
theorem Yn8{w:List Nat}{i:Nat}(h:i<w.length):w=w.take i++w.getD i 0::w.drop (i+1):=by
 have h1:=List.take_append_drop i w
 have h2:w.drop i=w.getD i 0::w.drop (i+1):=by
  rw[List.drop_eq_getElem_cons h,YGl,List.getElem?_eq_getElem h];rfl
 rw[h2]at h1
 exact h1.symm
structure DrOk (B f:Nat) (wait out:List Nat):Prop where
 wp:∀x,x∈wait->1<=x/\x<=1099511627776
 op:∀x,x∈out->2<=x/\x<=1099511627776
 pb:Yo (Ys out*Ys wait)<=B
 mu:3*Yo (Ys out*Ys wait)+wait.length<=f
theorem DrOk.pop{B f:Nat}{wait out:List Nat}(h:DrOk B f wait out)(hw:wait.length≠0)(h1:wait.getD (wait.length-1) 0=1):∃g,f=g+1/\DrOk B g (wait.take (wait.length-1)) out:=by
 have hm:=h.mu
 have hpb:=h.pb
 refine⟨f-1,by omega,?_⟩
 have e:=Yd1 hw
 have e2:Ys wait=Ys (wait.take (wait.length-1)):=by
  conv=>lhs;rw[e]
  rw[YV,h1];simp [Ys]
 refine⟨fun x hx=>h.wp x (List.mem_of_mem_take hx),h.op,by rw[<-e2];exact hpb,?_⟩
 rw[<-e2,YHb]
 omega
theorem DrOk.push{B f:Nat}{wait out:List Nat}(h:DrOk B f wait out)(hw:wait.length≠0)(h1:wait.getD (wait.length-1) 0≠1):∃g,f=g+1/\DrOk B g (wait.take (wait.length-1)) (out++[wait.getD (wait.length-1) 0]):=by
 have hm:=h.mu
 have hn:=h.wp _ (Yk (l:=wait) (i:=wait.length-1) (by omega))
 have hn':1<=wait.getD (wait.length-1) 0/\wait.getD (wait.length-1) 0<=1099511627776:=hn
 have hpb:=h.pb
 have e:=Yd1 hw
 have e2:Ys out*Ys wait=Ys (out++[wait.getD (wait.length-1) 0])*Ys (wait.take (wait.length-1)):=by
  conv=>lhs;rw[e]
  rw[YV,YV]
  simp only[Ys,YHj]
  rw[YGj (Ys (wait.take _)),YGm]
 refine⟨f-1,by omega,⟨fun x hx=>h.wp x (List.mem_of_mem_take hx),fun x hx=>?_,by rw[<-e2];exact hpb,?_⟩⟩
 ·rcases YGT.1 hx with hx|hx
  ·exact h.op x hx
  ·rw[YGU]at hx
   subst hx
   omega
 rw[<-e2,YHb]
 omega
theorem YhO{a b:Nat}(h:a<=b):Yo a<=Yo b:=bitsN_le.2 (YGN h (YcE b))
theorem DrOk.hit{B f:Nat}{wait out:List Nat}(h:DrOk B f wait out)(hw:wait.length≠0){i:Nat}(hi:i<out.length)(hg:1<YHa (out.getD i 0) (wait.getD (wait.length-1) 0)):
 ∃g,f=g+1/\DrOk B g (wait.take (wait.length-1)++[YHa (out.getD i 0) (wait.getD (wait.length-1) 0),out.getD i 0/YHa (out.getD i 0) (wait.getD (wait.length-1) 0),wait.getD (wait.length-1) 0/YHa (out.getD i 0) (wait.getD (wait.length-1) 0)]) (out.take i++out.drop (i+1)):=by
 have hm:=h.mu
 have hn:1<=wait.getD (wait.length-1) 0/\wait.getD (wait.length-1) 0<=1099511627776:=h.wp _ (Yk (l:=wait) (i:=wait.length-1) (by omega))
 have hb:2<=out.getD i 0/\out.getD i 0<=1099511627776:=h.op _ (Yk (l:=out) (i:=i) hi)
 have e:=Yd1 hw
 have e':=Yn8 hi
 generalize wait.getD (wait.length-1) 0=n at*
 generalize out.getD i 0=b at*
 have d1:=Nat.gcd_dvd_left b n
 have d2:=Nat.gcd_dvd_right b n
 generalize YHa b n=g at*
 obtain⟨b1,rfl⟩:=d1
 obtain⟨n1,rfl⟩:=d2
 rw[Nat.mul_div_cancel_left _ (by omega),Nat.mul_div_cancel_left _ (by omega)]
 have hb1:1<=b1:=Nat.pos_of_ne_zero fun hh=>by rw[hh,Nat.mul_zero]at hb;omega
 have hn1:1<=n1:=Nat.pos_of_ne_zero fun hh=>by rw[hh,Nat.mul_zero]at hn;omega
 have gb:g<=g*b1:=Nat.le_mul_of_pos_right _ hb1
 have bb:b1<=g*b1:=Nat.le_mul_of_pos_left _ (by omega)
 have nb:n1<=g*n1:=Nat.le_mul_of_pos_left _ (by omega)
 have hpt:1<=Ys (out.take i++out.drop (i+1))*Ys (wait.take (wait.length-1)):=by
  refine YHd (Ye8 fun x hx=>?_) (Ye8 fun x hx=>(h.wp x (List.mem_of_mem_take hx)).1)
  rcases YGT.1 hx with hx|hx
  ·have:=(h.op x (List.mem_of_mem_take hx)).1;omega
  ·have:=(h.op x (List.mem_of_mem_drop hx)).1;omega
 have eP:Ys out*Ys wait=g*(Ys (out.take i++out.drop (i+1))*Ys (wait.take (wait.length-1)++[g,b1,n1])):=by
  conv=>lhs;rw[e,e']
  simp only[YV,Ys,YHj]
  generalize Ys (out.take i)=A
  generalize Ys (out.drop (i+1))=B
  generalize Ys (wait.take (wait.length-1))=C
  simp only[YGm,YG5,YGj]
 have hp1:1<=Ys (out.take i++out.drop (i+1))*Ys (wait.take (wait.length-1)++[g,b1,n1]):=by
  rw[YV (wait.take _),<-YGm]
  refine YHd hpt ?_
  simp only[Ys,YHj]
  exact YHd (by omega) (YHd hb1 hn1)
 have hP:Yo (Ys (out.take i++out.drop (i+1))*Ys (wait.take (wait.length-1)++[g,b1,n1]))+1<=Yo (Ys out*Ys wait):=by
  generalize hQ:Ys (out.take i++out.drop (i+1))*Ys (wait.take (wait.length-1)++[g,b1,n1])=Q at*
  rw[eP]
  have h2:2*Q<=g*Q:=YGf _ (by omega)
  have h3:=Yfp (a:=g*Q) (by omega)
  have h4:Yo Q<=Yo (g*Q/2):=YhO (by omega)
  omega
 have hpb:=h.pb
 refine⟨f-1,by omega,⟨fun x hx=>?_,fun x hx=>?_,by omega,?_⟩⟩
 ·rcases YGT.1 hx with hx|hx
  ·exact h.wp x (List.mem_of_mem_take hx)
  ·simp only[YGK,List.not_mem_nil,or_false]at hx
   rcases hx with rfl|rfl|rfl <;> omega
 ·rcases YGT.1 hx with hx|hx
  ·exact h.op x (List.mem_of_mem_take hx)
  ·exact h.op x (List.mem_of_mem_drop hx)
 ·rw[YHg,YHb]
  simp only[YHf,List.length_nil]
  omega
theorem Ykb(a b:Nat):Yo (a*b)<=Yo a+Yo b:=by
 rw[bitsN_le,YGo]
 exact Nat.mul_lt_mul_of_lt_of_le (YcE a) (YHn (YcE b)) (YH _)
theorem DrOk.start{i N:Nat}{out:List Nat}(hN0:1<=N)(hN1:N<=1000000000001)(ho:∀x,x∈out->2<=x/\x<=1099511627776)(hb:Yo (Ys out)<=40*i+1)(hi:i<20):DrOk (40*(i+1)+1) 3000 [N] out:=by
 have h1:Yo N<=40:=bitsN_le.2 (by omega)
 have h2:Yo (Ys out*Ys [N])<=40*(i+1)+1:=by
  have:=Ykb (Ys out) (Ys [N])
  have e:Ys [N]=N:=by simp [Ys]
  rw[e]at this⊢
  omega
 refine⟨fun x hx=>?_,ho,h2,?_⟩
 ·rw[YGU]at hx
  subst hx
  omega
 ·simp only[YHf,List.length_nil]
  omega
def v102:VF:=⟨73,[.tmp 2],(ZR [u1 2 .mov [.cn .nil]] (ZR [u1 3 .mov [.cn .nil]] (.seq (ZR [Zm 11 0,Zl 12 11,Zi 13 0] (.block 0 (.loop (ZR [Zr 14 .lss 13 12] (.seq (ZC 14 .skip (.exit 0)) (.seq (.block 1 (ZR [Zx 15 2 11 13,Zt 16 2 15,Zn 5,Zs 2 5 16] (.scope (ZR [Za 17 0 5,Zf 18 1 17,u1 19 (.buildSlice 1 1 [(.int .i64 0)] [(0,1)]) [.tm 18],Zm 6 19] (.seq .skip (.block 2 (.loop (.seq (ZR [Zm 20 6,Zl 21 20,Zq 22 .gtr 21 0] (ZC 22 .skip (.exit 2))) (.block 3 (ZR [Zm 23 6,Zm 24 6,Zl 25 24,u1 26 (.ari .sub) [.tm 25,.cn (.int .i64 1)],Zx 27 1 23 26,Zf 28 1 27,Zm 7 28] (ZR [Zm 29 6,Zm 30 6,Zl 31 30,u1 32 (.ari .sub) [.tm 31,.cn (.int .i64 1)],u1 33 (.slice 1 false true) [.tm 29,.tm 32],Zm 6 33] (.seq (ZR [Zm 34 7,Zq 35 .eql 34 1] (ZC 35 (.exit 3) .skip)) (.seq (ZR [Zm 36 3,Zl 37 36,Zi 38 0] (.block 4 (.loop (ZR [Zr 39 .lss 38 37] (.seq (ZC 39 .skip (.exit 4)) (.seq (.block 5 (ZR [Zm 40 38,Zx 41 1 36 38,Zf 42 1 41,Zm 8 40,Zm 9 42] (ZR [Zm 43 9,Zm 44 7,Zd 45 130 43 44,Zm 10 45] (ZR [Zm 46 10,Zq 47 .gtr 46 1] (ZC 47 (.seq (.draw [] [Zu 48 3,Zu 49 8,w1 50 (.slice 1 false true) [.tm 48,.tm 49],Zu 51 3,Zu 52 8,w1 53 (.ari .add) [.tm 52,.cn (.int .i64 1)],w1 54 (.slice 1 true false) [.tm 51,.tm 53],w1 55 (.append 1 8 [(.int .i64 0)]) [.tm 50,.tm 54],Zu 3 55]) (.seq (.draw [] [Zu 56 6,Zu 57 10,Zu 58 9,Zu 59 10,w1 60 .quo [.tm 58,.tm 59],Zu 61 7,Zu 62 10,w1 63 .quo [.tm 61,.tm 62],w1 64 (.buildSlice 1 3 [(.int .i64 0)] [(0,1),(1,1),(2,1)]) [.tm 57,.tm 60,.tm 63],w1 65 (.append 1 8 [(.int .i64 0)]) [.tm 56,.tm 64],Zu 6 65]) (.exit 3))) .skip))))) (.region [Zp 66 38 1,Zm 38 66]))))))) (.region [Zm 67 3,Zm 68 7,u1 69 (.buildSlice 1 1 [(.int .i64 0)] [(0,1)]) [.tm 68],u1 70 (.append 1 8 [(.int .i64 0)]) [.tm 67,.tm 69],Zm 3 70])))))))))))))) (.region [Zp 71 13 1,Zm 13 71]))))))) (ZR [Zm 72 3,Zm 2 72] .ret))))⟩
theorem YAe:Yg YGc Tryz.f102=some v102:=by kernel_rfl
def baseC:Ctr:={ alias:=false,of:=fun l=>match l with
 | [.vs _ _ n sz get]=> .ex (List (Int×Int)) fun l=> .pre (lsP 2 enc2 n sz get l/\(∀x,x∈l->okT x)/\n<=20) (.all Bool fun y=> .fin (.vs true y (YiE l).length 1 (fun k=>encB ((YiE l).getD k 0))) [])
 |_=>noC}
def RA8:Env:={ ct:=fun n=>match n with|130=>some gcdC|_=>none,fn:=fun _=>none,meth:=fun _ _=>none}
theorem YjX:RA8.ct 130=some gcdC:=rfl
theorem YBG:Yq YGc RA8:=by
 refine⟨fun f c h=>?_,fun f vf h=>?_,(fun _ _ _ h=>by cases h),by kernel_rfl,(fun _ h=>by cases h)⟩
 ·simp only[RA8]at h
  split at h
  ·cases h;exact⟨Yyl,Tryz.f130,Tryz.func130,by kernel_rfl,by kernel_rfl⟩
  ·cases h
 ·cases h
structure DSt where
 f:Nat
 W:List Nat
 n:Nat
 out:List Nat
 yw:Bool
 yo:Bool
theorem YqH{f:Nat}:∀{wait out:List Nat},(YcI f wait out).length<=out.length+f:=by
 induction f with
 |zero=>intro wait out;rw[YcI];omega
 |succ f ih=>
  intro wait out
  rw[YcI]
  split
  ·omega
  ·split
   ·have:= @ih (wait.take (wait.length-1)) out;omega
   ·split
    ·rename_i hh
     refine YGg ih ?_
     rw[YHg,YHb,List.length_drop]
     omega
    ·refine YGg ih ?_
     rw[YHg]
     simp only[YHf,List.length_nil]
     omega
theorem YB8:baseC.ok YGc 102:=by
 refine Yb Tryz.func102 YAe YBG 800 baseC fun args k h=>?_
 simp only[baseC]at h
 split at h
 ·rename_i tt z n sz get
  obtain⟨l,⟨⟨rfl,rfl,hg⟩,hl,hn⟩,h⟩:=h
  refine⟨[.vs tt z l.length 2 (fun k=>enc2 (l.getD k default))],⟨⟨id,rfl,rfl,rfl,hg⟩,trivial⟩,?_⟩
  dsimp only[v102,enc2,go_sem,reduceIte]
  simp only[Yc,YGa,YF9,reduceCtorEq,YF8]
  refine Loop.keep [0,10,0] (Nat×List Nat×Bool) (fun s=>[(3,.own 0 0 s.2.1.length 1),(13,.int .i64 s.1)]) (fun s=>[(0,.own s.2.2 1 s.2.1.length (fun k=>encB (s.2.1.getD k 0)))]) [.gone] (fun s=>s.1<=l.length/\s.2.1=(l.take s.1).foldl Ybj []/\(∀x,x∈s.2.1->2<=x/\x<=1099511627776)/\Yo (Ys s.2.1)<=40*s.1+1/\s.2.1.length<=3000*s.1/\(s.2.2=true->s.2.1.length=0)) (fun s=>l.length-s.1) ?_ ?_
  ·refine⟨(0,[],true),⟨by simp only;omega,rfl,⟨fun x hx=>absurd hx (by simp),by decide,YGr _,fun _=>rfl⟩⟩,?_⟩
   dsimp only[List.length_nil,go_sem,reduceIte]
   simp only[Ya]
   simp
  ·rintro⟨i,out,yo⟩ ⟨hi,hG,hok,hbp,hlen,hyo⟩
   dsimp only at hi hG hok hbp hlen hyo
   dsimp only[enc2,YGb,go_sem,reduceIte]
   simp only[Yc,YGa,YF9,reduceCtorEq,YF8]
   refine⟨fun hlt=>?_,fun hge=>?_⟩
   ·have hx:=hl _ (Yk (by omega:i<l.length))
    have hstep:(l.take (i+1)).foldl Ybj []=Ybj out (l.getD i default):=by
     rw[Yr (by omega),<-hG]
    generalize l.getD i default=x at hx hstep⊢
    obtain⟨q0,q1,q2,q3⟩:=hx
    obtain⟨N,hN⟩:∃N:Nat,x.1=(N:Int):=⟨x.1.toNat,by omega⟩
    have hR:Ybj out x=YcI 3000 [N] out:=by rw[Ybj,hN,YGb]
    obtain⟨R,hRR⟩:∃R,R=Ybj out x:=⟨_,rfl⟩
    rw[<-hRR]at hR hstep
    rw[hN]
    have hmu:DrOk (40*(i+1)+1) 3000 [N] out:=DrOk.start (by omega) (by omega) hok hbp (by omega)
    refine⟨⟨by omega,by omega⟩,by decide,?_⟩
    refine Loop.keep [0,10,0,0] DSt (fun s=>[(3,.own 0 0 s.out.length 1),(6,.own 2 0 s.n 1)]) (fun s=>[(0,.own s.yo 1 s.out.length (fun k=>encB (s.out.getD k 0))),(2,.own s.yw 1 s.W.length (fun k=>encB (s.W.getD k 0)))]) [] (fun s=>s.n<=s.W.length/\DrOk (40*(i+1)+1) s.f (s.W.take s.n) s.out/\R=YcI s.f (s.W.take s.n) s.out/\s.out.length+s.f<=3000*(i+1)/\(s.yo=true->s.out.length=0)) (fun s=>s.f) ?_ ?_
    ·refine⟨⟨3000,[N],1,out,false,yo⟩,⟨YGr _,hmu,hR,by simp only;omega,hyo⟩,?_⟩
     dsimp only[List.length_nil,YHf,go_sem,reduceIte]
     simp only[Ya]
     refine⟨by decide,fun k hk=>⟨⟨rfl,rfl⟩,trivial⟩,fun k hk=>?_⟩
     obtain rfl:k=0:=by omega
     exact⟨⟨rfl,rfl⟩,trivial⟩
    ·rintro⟨f,W,n,out,yw,yo⟩ ⟨hnW,hmu,hR,hlen,hyo⟩
     dsimp only at hnW hmu hR hlen hyo
     dsimp only[YjX,gcdC,encB,YGb,go_sem,reduceIte]
     simp only[Yc,YGa,YF9,reduceCtorEq,YF8]
     have hwl:(W.take n).length=n:=by rw[YHb];omega
     refine⟨fun hpos=>?_,fun hz=>?_⟩
     ·have hwn:(W.take n).length≠0:=by omega
      have hgl:(W.take n).getD ((W.take n).length-1) 0=W.getD (n-1) 0:=by
       rw[hwl,YGl,YGl,YHl,if_pos (by omega)]
      have htl:(W.take n).take ((W.take n).length-1)=W.take (n-1):=by
       rw[hwl,List.take_take];congr 1;omega
      obtain⟨g,rfl⟩:∃g,f=g+1:=⟨f-1,by have:=hmu.mu;omega⟩
      have hnf:n<=70000:=by have:=hmu.mu;omega
      rw[Yn (by omega) (by omega),YGb]
      rw[YcI,if_neg hwn,hgl,htl]at hR
      obtain⟨v,hv⟩:∃v,v=W.getD (n-1) 0:=⟨_,rfl⟩
      have hvr:1<=v/\v<=1099511627776:=by
       have:=hmu.wp _ (Yk (l:=W.take n) (i:=(W.take n).length-1) (by omega))
       rw[show(W.take n).getD ((W.take n).length-1) default=W.getD (n-1) 0 from hgl,<-hv]at this
       exact this
      refine⟨⟨by omega,by omega⟩,by omega,⟨by omega,by omega⟩,fun h1=>?_,fun h1=>?_⟩
      ·have h1':W.getD (n-1) 0=1:=by omega
       obtain⟨g',hg',hd⟩:=hmu.pop hwn (by rw[hgl];exact h1')
       obtain rfl:g=g':=by omega
       rw[if_pos h1']at hR
       rw[htl]at hd
       refine⟨⟨g,W,n-1,out,yw,yo⟩,⟨by simp only;omega,hd,hR,by simp only;omega,hyo⟩,by simp only;omega,?_⟩
       simp only[Ya]
       exact⟨by decide,by decide⟩
      ·have h1':W.getD (n-1) 0≠1:=by omega
       rw[if_neg h1']at hR
       rw[<-hv]at hR h1'⊢
       refine Loop.keep [0,2,2,0,3,0,0,22,0] Nat (fun t=>[(38,.int .i64 t)]) (fun t=>[]) [] (fun t=>t<=out.length/\∀j,j<t->¬1<YHa (out.getD j 0) v) (fun t=>out.length-t) ?_ ?_
       ·refine⟨0,⟨by omega,fun j hj=>by omega⟩,?_⟩
        dsimp only[go_sem,reduceIte]
        simp only[Ya]
        exact⟨by decide,by decide,by decide,rfl⟩
       ·rintro t ⟨ht,hno⟩
        dsimp only[YjX,gcdC,encB,YGb,go_sem,reduceIte]
        simp only[Yc,YGa,YF9,reduceCtorEq,YF8]
        refine⟨fun hlt2=>?_,fun hge2=>?_⟩
        ·have hb:2<=out.getD t 0/\out.getD t 0<=1099511627776:=hmu.op _ (Yk (l:=out) (i:=t) (by omega))
         have w1:IntKind.i64.wrap ((t:Int)+1)=((t+1:Nat):Int):=by rw[YGd _ (by omega)];simp
         rw[w1,YGb]
         refine⟨⟨by omega,by omega⟩,by omega,out.getD t 0,v,⟨rfl,rfl,by omega,by omega⟩,fun hgt=>?_,fun hng=>?_⟩
         ·have hgt':1<YHa (out.getD t 0) v:=by omega
          have hh:hitF out v=t:=YgZ (fun j hj=>decide_eq_false (hno j hj)) (by omega) (fun _=>decide_eq_true hgt')
          obtain⟨g',hg',hd⟩:=hmu.hit hwn (i:=t) (by omega) (by rw[hgl,<-hv];exact hgt')
          obtain rfl:g=g':=by omega
          rw[hh,if_pos (by omega)]at hR
          rw[hgl,htl,<-hv]at hd
          obtain⟨b,hbd⟩:∃b,b=out.getD t 0:=⟨_,rfl⟩
          rw[<-hbd]at hR hd hb hgt hgt'⊢
          obtain⟨G,hG'⟩:∃G,G=YHa b v:=⟨_,rfl⟩
          rw[<-hG']at hR hd hgt hgt'⊢
          have e1:IntKind.i64.wrap ((b:Int).tdiv (G:Int))=((b/G:Nat):Int):=by
           have:(b:Int).tdiv (G:Int)=((b/G:Nat):Int):=YHh rfl rfl
           have h2:b/G<=b:=YHm _ _
           rw[this]
           generalize b/G=q at h2⊢
           exact YGd _ (by omega)
          have e2:IntKind.i64.wrap ((v:Int).tdiv (G:Int))=((v/G:Nat):Int):=by
           have:(v:Int).tdiv (G:Int)=((v/G:Nat):Int):=YHh rfl rfl
           have h2:v/G<=v:=YHm _ _
           rw[this]
           generalize v/G=q at h2⊢
           exact YGd _ (by omega)
          rw[e1,e2]
          have hsub:Yhm out.length (t+1)=out.length-(t+1):=by unfold Yhm;rfl
          rw[hsub]
          have hWt:(W.take (n-1)++[G,b/G,v/G]).length=n-1+3:=by rw[YHg,YHb];simp only[YHf,List.length_nil];omega
          have hol:(out.take t++out.drop (t+1)).length=t+(out.length-(t+1)):=by rw[YHg,YHb,List.length_drop];omega
          refine⟨⟨by omega,by omega⟩,⟨by omega,by omega⟩,by unfold YP;omega,by omega,by omega,by decide,⟨by unfold YP;omega,fun k hk=>?_⟩,⟨g,W.take (n-1)++[G,b/G,v/G],n-1+3,out.take t++out.drop (t+1),yw&&decide False,yo&&decide (out.length-(t+1)=0)⟩,⟨?_,?_,?_,?_,?_⟩,by simp only;omega,?_⟩
          ·match k,hk with
           |0,_=>exact⟨rfl,trivial,trivial⟩
           |1,_=>exact⟨rfl,trivial,trivial⟩
           |2,_=>exact⟨rfl,trivial,trivial⟩
          ·simp only;omega
          ·simp only;rw[<-hWt,YHe];exact hd
          ·simp only;rw[<-hWt,YHe];exact hR
          ·simp only;omega
          ·simp only
           intro hy
           rw[YGi]at hy
           have:=hyo hy.1
           omega
          ·simp only[hol,hWt]
           simp only[Ya]
           refine⟨by decide,fun k hk=>?_,fun k hk=>?_⟩
           ·rw[YdF]
            by_cases hkt:k<t
            ·rw[if_pos hkt,YGl (l:=_++_),YGR (by rw[YHb];omega),YHl,if_pos hkt,<-YGl]
             exact⟨⟨rfl,rfl⟩,trivial⟩
            ·rw[if_neg hkt,YGl (l:=_++_),YG4 (by rw[YHb];omega),YHb,List.getElem?_drop,<-YGl,show t+1+(k-min t out.length)=t+1+(k-t)by omega]
             exact⟨⟨rfl,rfl⟩,trivial⟩
           ·by_cases hkt:k<n-1
            ·rw[if_pos hkt,YGl (l:=_++_),YGR (by rw[YHb];omega),YHl,if_pos hkt,<-YGl]
             exact⟨⟨rfl,rfl⟩,trivial⟩
            ·rw[if_neg hkt,YGl (l:=_++_),YG4 (by rw[YHb];omega),YHb,show k-min (n-1) W.length=k-(n-1)by omega]
             obtain⟨q,hq⟩:∃q,q=k-(n-1):=⟨_,rfl⟩
             rw[<-hq]
             have hq3:q<3:=by omega
             match q,hq3 with
             |0,_=>exact⟨⟨rfl,rfl⟩,trivial⟩
             |1,_=>exact⟨⟨rfl,rfl⟩,trivial⟩
             |2,_=>exact⟨⟨rfl,rfl⟩,trivial⟩
         ·refine⟨t+1,⟨by omega,fun j hj=>?_⟩,by omega,?_⟩
          ·rcases YGz j t with h'|h'
           ·exact hno j h'
           ·obtain rfl:j=t:=by omega
            exact fun hh=>hng (by omega)
          ·simp only[Ya]
           exact⟨by decide,by decide,by decide⟩
        ·obtain rfl:t=out.length:=by omega
         have hh:hitF out v=out.length:=YgZ (fun j hj=>decide_eq_false (hno j hj)) (YGr _) (fun hlt=>absurd hlt (Nat.lt_irrefl _))
         obtain⟨g',hg',hd⟩:=hmu.push hwn (by rw[hgl,<-hv];exact h1')
         obtain rfl:g=g':=by omega
         rw[hh,if_neg (Nat.lt_irrefl _)]at hR
         rw[hgl,htl,<-hv]at hd
         have hol:(out++[v]).length=out.length+1:=by rw[YHg];rfl
         refine⟨by decide,⟨by unfold YP;omega,fun k hk=>?_⟩,⟨g,W,n-1,out++[v],yw,yo&&decide False⟩,⟨by simp only;omega,hd,hR,by simp only;omega,?_⟩,by simp only;omega,?_⟩
         ·obtain rfl:k=0:=by omega
          exact⟨rfl,trivial,trivial⟩
         ·simp
         ·simp only[hol]
          simp only[Ya]
          refine⟨by decide,fun k hk=>?_⟩
          by_cases hkt:k<out.length
          ·rw[if_pos hkt,YGl (l:=_++_),YGR hkt,<-YGl]
           exact⟨⟨rfl,rfl⟩,trivial⟩
          ·obtain rfl:k=out.length:=by omega
           rw[if_neg hkt,YGl (l:=_++_),YG4 (YGr _),Nat.sub_self]
           exact⟨⟨rfl,rfl⟩,trivial⟩
     ·obtain rfl:n=0:=by omega
      rw[List.take_zero]at hR hmu
      have hRo:R=out:=by
       rw[hR]
       cases f with
       |zero=>rfl
       |succ f=>rw[YcI,if_pos List.length_nil]
      have hpb:=hmu.pb
      rw[show Ys out*Ys []=Ys out from YHj _]at hpb
      refine⟨(i+1,out,yo),⟨by simp only;omega,by rw[hstep,hRo],hmu.op,hpb,by simp only;omega,hyo⟩,by simp only;omega,?_⟩
      rw[YGd ((i:Int)+1) (by omega)]
      simp only[Ya]
      exact⟨by decide,by simp⟩
   ·obtain rfl:i=l.length:=by omega
    rw[YHe]at hG
    have hG:YiE l=out:=hG.symm
    rw[hG]at h
    refine YC (show k (.vs true yo out.length 1 (fun k=>encB (out.getD k 0))) []from h yo) ?_ (fun _=>by simp [Yl,encB,Ym])
    have e:expo [HO.own yo 1 out.length fun k=>encB (out.getD k 0)] (SV.own 0 0 out.length 1)= .vs true yo out.length 1 (fun k=>encB (out.getD k 0)):=by
     simp [expo,view,Ybu,viewN,getH,Ylw,encB]
    rw[e]
    exact Yv _ trivial
 ·exact h.1.elim
def v71:VF:=⟨39,[.tmp 2],(ZR [u1 2 .mov [.cn (.bool false)]] (.seq (ZR [Zm 9 0,Zc 10 102 9,Zl 11 10,Zi 12 0] (.block 0 (.loop (ZR [Zr 13 .lss 12 11] (.seq (ZC 13 .skip (.exit 0)) (.seq (.block 1 (ZR [Zx 14 1 10 12,Zf 15 1 14,Zm 4 15] (ZR [Zi 5 0] (.seq (ZR [Zm 16 0,Zl 17 16,Zi 18 0] (.block 2 (.loop (ZR [Zr 19 .lss 18 17] (.seq (ZC 19 .skip (.exit 2)) (.seq (.block 3 (ZR [Zx 20 2 16 18,Zt 21 2 20,Zn 7,Zs 2 7 21] (ZR [Za 22 0 7,Zf 23 1 22,Zm 8 23] (.block 4 (.loop (.seq (ZR [Zm 24 8,Zm 25 4,u1 26 .rem [.tm 24,.tm 25],Zq 27 .eql 26 0] (ZC 27 .skip (.exit 4))) (.seq (.block 5 (.region [Zm 31 5,Za 32 1 7,Zf 33 1 32,Zo 34 .add 31 33,Zm 5 34])) (.region [Zm 28 8,Zm 29 4,u1 30 .quo [.tm 28,.tm 29],Zm 8 30])))))))) (.region [Zp 35 18 1,Zm 18 35]))))))) (ZR [Zm 36 5,Zq 37 .neq 36 0] (ZC 37 (ZR [u1 2 .mov [.cn (.bool false)]] .ret) .skip)))))) (.region [Zp 38 12 1,Zm 12 38]))))))) (ZR [u1 2 .mov [.cn (.bool true)]] .ret)))⟩
theorem YFB:Yg YGc Tryz.f71=some v71:=by kernel_rfl
def divL:Nat->Int->Int->Int->Int->Int
 |0,_,_,_,s=>s
 |f+1,b,n,num,s=>if n.tmod b=0 then divL f b (IntKind.i64.wrap (n.tdiv b)) num (IntKind.i64.wrap (s+num))else s
def sumB(l:List (Int×Int))(b:Nat):Int:=l.foldl (fun s x=>divL 64 b x.1 x.2 s) 0
def oneF(l:List (Int×Int)):Bool:=(YiE l).all fun b=>decide (sumB l b=0)
theorem Ydb{B:Nat}:∀{f:Nat}{wait out:List Nat},DrOk B f wait out->(∀x,x∈YcI f wait out->2<=x/\x<=1099511627776)/\Yo (Ys (YcI f wait out))<=B
 |0,wait,out,h=>by
  rw[YcI]
  have hw:wait=[]:=List.length_eq_zero_iff.1 (by have:=h.mu;omega)
  have:=h.pb
  rw[hw,show Ys out*Ys []=Ys out from YHj _]at this
  exact⟨h.op,this⟩
 |f+1,wait,out,h=>by
  rw[YcI]
  by_cases hw:wait.length=0
  ·rw[if_pos hw]
   have hw:wait=[]:=List.length_eq_zero_iff.1 hw
   have:=h.pb
   rw[hw,show Ys out*Ys []=Ys out from YHj _]at this
   exact⟨h.op,this⟩
  ·rw[if_neg hw]
   by_cases h1:wait.getD (wait.length-1) 0=1
   ·rw[if_pos h1]
    obtain⟨g,hg,hd⟩:=h.pop hw h1
    obtain rfl:f=g:=by omega
    exact Ydb hd
   ·rw[if_neg h1]
    by_cases h2:hitF out (wait.getD (wait.length-1) 0)<out.length
    ·rw[if_pos h2]
     have hs:=(YcP (f:=fun i=>decide (1<YHa (out.getD i 0) (wait.getD (wait.length-1) 0))) out.length 0).2.2.2 (by simpa [hitF]using h2)
     obtain⟨g,hg,hd⟩:=h.hit hw h2 (of_decide_eq_true hs)
     obtain rfl:f=g:=by omega
     exact Ydb hd
    ·rw[if_neg h2]
     obtain⟨g,hg,hd⟩:=h.push hw h1
     obtain rfl:f=g:=by omega
     exact Ydb hd
theorem YgD{l:List (Int×Int)}(hl:∀x,x∈l->okT x)(hn:l.length<=20):∀x,x∈YiE l->2<=x/\x<=1099511627776:=by
 have key:∀i,i<=l.length->(∀x,x∈(l.take i).foldl Ybj []->2<=x/\x<=1099511627776)/\Yo (Ys ((l.take i).foldl Ybj []))<=40*i+1:=fun i=>by
  induction i with
  |zero=>exact fun _=>⟨fun x hx=>absurd hx (by simp),by simp [Ys];decide⟩
  |succ i ih=>
   intro hi
   obtain⟨h1,h2⟩:=ih (by omega)
   have hx:=hl _ (Yk (by omega:i<l.length))
   rw[Yr (by omega)]
   obtain⟨q0,q1,q2,q3⟩:=hx
   exact Ydb (DrOk.start (by omega) (by omega) h1 h2 (by omega))
 have:=(key l.length (YGr _)).1
 rwa [YHe]at this
theorem Yqa(l:List (Int×Int)):(YiE l).length<=3000*l.length:=by
 have key:∀(l:List (Int×Int))(out:List Nat),(l.foldl Ybj out).length<=out.length+3000*l.length:=fun l=>by
  induction l with
  |nil=>intro out;simp
  |cons x l ih=>
   intro out
   have h1:=ih (Ybj out x)
   have h2:(Ybj out x).length<=out.length+3000:=YqH
   rw[List.foldl_cons,YHf]
   omega
 have h:=key l []
 rw[List.length_nil,YHu]at h
 exact h
def oneC:Ctr:={ alias:=false,of:=fun l=>match l with
 | [.vs _ _ n sz get]=> .ex (List (Int×Int)) fun l=> .pre (lsP 2 enc2 n sz get l/\(∀x,x∈l->okT x)/\n<=20) (.fin (.bool (oneF l)) [])
 |_=> .pre False (.fin (.bool false) [])}
def RA9:Env:={ ct:=fun n=>match n with|102=>some baseC|_=>none,fn:=fun _=>none,meth:=fun _ _=>none}
theorem YjY:RA9.ct 102=some baseC:=rfl
theorem YBH:Yq YGc RA9:=by
 refine⟨fun f c h=>?_,fun f vf h=>?_,(fun _ _ _ h=>by cases h),by kernel_rfl,(fun _ h=>by cases h)⟩
 ·simp only[RA9]at h
  split at h
  ·cases h;exact⟨YB8,Tryz.f102,Tryz.func102,by kernel_rfl,by kernel_rfl⟩
  ·cases h
 ·cases h
theorem YDn:oneC.ok YGc 71:=by
 refine Yb Tryz.func71 YFB YBH 500 oneC fun args k h=>?_
 simp only[oneC]at h
 split at h
 ·rename_i tt z n sz get
  obtain⟨l,⟨⟨rfl,rfl,hg⟩,hl,hn⟩,h⟩:=h
  refine⟨[.vs tt z l.length 2 (fun k=>enc2 (l.getD k default))],⟨⟨id,rfl,rfl,rfl,hg⟩,trivial⟩,?_⟩
  dsimp only[v71,YjY,baseC,enc2,go_sem,reduceIte]
  simp only[Yc,YGa,YF9,reduceCtorEq,YF8]
  refine⟨l,⟨⟨rfl,rfl,fun k hk=>Yd _⟩,hl,hn⟩,fun y=>?_⟩
  have hbr:=YgD hl hn
  have hbl:=Yqa l
  obtain⟨B,hB⟩:∃B,B=YiE l:=⟨_,rfl⟩
  rw[<-hB]at hbr hbl⊢
  have hone:oneF l=B.all fun b=>decide (sumB l b=0):=by rw[hB];rfl
  refine Loop.keep [0,9,0] Nat (fun i=>[(12,.int .i64 i)]) (fun _=>[]) [] (fun i=>i<=B.length/\((B.take i).all fun b=>decide (sumB l b=0))=true) (fun i=>B.length-i) ?_ ?_
  ·refine⟨0,⟨by omega,rfl⟩,?_⟩
   dsimp only[go_sem,reduceIte]
   simp only[Ya]
   rfl
  ·rintro i ⟨hi,hall⟩
   dsimp only[YjY,baseC,encB,enc2,YGb,go_sem,reduceIte]
   simp only[Yc,YGa,YF9,reduceCtorEq,YF8]
   refine⟨fun hlt=>⟨⟨by omega,by omega⟩,?_⟩,fun hge=>?_⟩
   ·have hb:2<=B.getD i 0/\B.getD i 0<=1099511627776:=hbr _ (Yk (l:=B) (i:=i) (by omega))
    have hsucc:((B.take (i+1)).all fun b=>decide (sumB l b=0))=decide (sumB l (B.getD i 0)=0):=by
     rw[Yfi (by omega),hall,YHq];rfl
    have hmemb:B.getD i 0∈B:=Yk (l:=B) (i:=i) (by omega)
    obtain⟨b,hbe⟩:∃b,b=B.getD i 0:=⟨_,rfl⟩
    rw[<-hbe]at hb hsucc hmemb⊢
    refine Loop.keep [0,3,5,0,0,3,0] (Nat×Int) (fun s=>[(5,.int .i64 s.2),(18,.int .i64 s.1)]) (fun _=>[]) [] (fun s=>s.1<=l.length/\s.2=(l.take s.1).foldl (fun s x=>divL 64 b x.1 x.2 s) 0) (fun s=>l.length-s.1) ?_ ?_
    ·refine⟨(0,0),⟨by simp only;omega,rfl⟩,?_⟩
     dsimp only[go_sem,reduceIte]
     simp only[Ya]
     rfl
    ·rintro⟨t,S⟩ ⟨ht,hS⟩
     dsimp only at ht hS
     dsimp only[enc2,YGb,go_sem,reduceIte]
     simp only[Yc,YGa,YF9,reduceCtorEq,YF8]
     refine⟨fun hlt2=>⟨⟨by omega,by omega⟩,?_⟩,fun hge2=>?_⟩
     ·have hx:=hl _ (Yk (by omega:t<l.length))
      have hst:(l.take (t+1)).foldl (fun s x=>divL 64 b x.1 x.2 s) 0=divL 64 b (l.getD t default).1 (l.getD t default).2 S:=by
       rw[Yr (by omega),<-hS]
      generalize l.getD t default=x at hx hst⊢
      obtain⟨q0,q1,q2,q3⟩:=hx
      obtain⟨R,hR⟩:∃R,R=divL 64 b x.1 x.2 S:=⟨_,rfl⟩
      rw[<-hR]at hst
      refine Loop.keep [0,3,2,2,0,0,3,0,0] (Nat×Int×Int) (fun s=>[(5,.int .i64 s.2.2),(8,.int .i64 s.2.1)]) (fun _=>[]) [] (fun s=>R=divL s.1 b s.2.1 x.2 s.2.2/\1<=s.2.1/\s.2.1<2^s.1/\s.2.1<=1000000000001) (fun s=>s.1) ?_ ?_
      ·refine⟨(64,x.1,S),⟨hR,q0,by simp only;omega,q1⟩,?_⟩
       dsimp only[go_sem,reduceIte]
       simp only[Ya]
       decide
      ·rintro⟨f,n,S'⟩ ⟨hf,n0,n1,n2⟩
       dsimp only at hf n0 n1 n2
       dsimp only[go_sem,reduceIte]
       simp only[Yc,YGa,YF9,reduceCtorEq,YF8]
       obtain⟨m,rfl⟩:=YGM (by omega:0<=n)
       obtain⟨g,rfl⟩:∃g,f=g+1:=by
        cases f with
        |zero=>simp at n1;omega
        |succ g=>exact⟨g,rfl⟩
       rw[divL]at hf
       refine⟨by omega,fun hc=>⟨by omega,?_⟩,fun hc=>?_⟩
       ·rw[if_pos hc]at hf
        have e1:(m:Int).tmod (b:Int)=((m%b:Nat):Int):=YHF rfl rfl
        have e2:(m:Int).tdiv (b:Int)=((m/b:Nat):Int):=YHh rfl rfl
        rw[e1]at hc
        have hdm:=YGP m b
        rw[show m%b=0 by omega,YHi]at hdm
        have hq1:1<=m/b:=Nat.pos_of_ne_zero fun hh=>by rw[hh,Nat.mul_zero]at hdm;omega
        have hq2:2*(m/b)<=m:=by
         have:2*(m/b)<=b*(m/b):=YGf _ hb.1
         omega
        rw[e2]at hf⊢
        generalize m/b=q at hq1 hq2 hf⊢
        have eq:IntKind.i64.wrap (q:Int)=(q:Int):=YGd _ (by omega)
        rw[eq]at hf⊢
        have n1':m<2^g*2:=by rw[<-YGt];exact_mod_cast n1
        refine⟨(g,q,IntKind.i64.wrap (S'+x.2)),⟨hf,by simp only;omega,?_,by simp only;omega⟩,by simp only;omega,?_⟩
        ·show(q:Int)<2^g
         have:q<2^g:=by omega
         exact_mod_cast this
        ·simp only[Ya]
         decide
       ·rw[if_neg hc]at hf
        refine⟨(t+1,S'),⟨by simp only;omega,by rw[hst,hf]⟩,by simp only;omega,?_⟩
        rw[YGd ((t:Int)+1) (by omega)]
        simp only[Ya]
        simp
     ·obtain rfl:t=l.length:=by omega
      rw[YHe]at hS
      have hS:S=sumB l b:=hS
      refine⟨fun hc=>?_,fun hc=>⟨i+1,⟨by omega,?_⟩,by omega,?_⟩⟩
      ·have:oneF l=false:=by
        rw[hone,List.all_eq_false]
        exact⟨b,hmemb,by rw[<-hS];simpa using hc⟩
       rw[this]at h
       exact YK h
      ·rw[hsucc,<-hS];exact decide_eq_true hc
      ·rw[YGd ((i:Int)+1) (by omega)]
       simp only[Ya]
       simp
   ·obtain rfl:i=B.length:=by omega
    rw[YHe]at hall
    rw[hone,hall]at h
    exact YK h
 ·exact h.1.elim
def v69:VF:=⟨39,[.tmp 2],(ZR [Zi 2 0] (.seq (ZR [Zm 9 0,Zc 10 99 9,Zm 8 10,Ze 11 0 8,Ze 12 1 8,Zm 3 11,Zm 4 12] (ZR [Zm 13 4] (ZC 13 (ZR [Zm 14 3,Zm 2 14] .ret) .skip))) (.seq (ZR [Zm 15 0,Zc 16 71 15] (ZC 16 (ZR [Zi 2 0] .ret) .skip)) (.seq (ZR [Zi 5 64] (.block 0 (.loop (.seq (ZR [Zm 17 5,Zq 18 .leq 17 2048] (ZC 18 .skip (.exit 0))) (.seq (.block 1 (ZR [Zm 22 0,Zm 23 5,Zd 24 100 22 23,Zm 21 24,Ze 25 0 21,Ze 26 1 21,u1 6 (.alloc [.nil,.nil]) [],u1 7 (.alloc [.nil,.nil]) [],Zs 2 6 25,Zs 2 7 26] (.block 2 (ZR [Za 28 0 6,Zf 29 1 28,Za 30 1 7,Zf 31 1 30,Zd 32 101 29 31,Zm 27 32] (ZC 27 (ZR [Zi 2 1] .ret) (ZR [Za 34 0 7,Zf 35 1 34,Za 36 1 6,Zf 37 1 36,Zd 38 101 35 37,Zm 33 38] (ZC 33 (ZR [Zi 2 (-1)] .ret) .skip))))))) (.region [Zm 19 5,u1 20 (.ari .mul) [.tm 19,.cn (.int .i64 2)],Zm 5 20])))))) (ZR [Zi 2 0] .ret)))))⟩
theorem YFz:Yg YGc Tryz.f69=some v69:=by kernel_rfl
def v66:VF:=⟨33,[.tmp 2],(ZR [Zi 2 0] (.seq (ZR [Zm 5 0,Zl 6 5,Zq 7 .gtr 6 16] (ZC 7 (ZR [Zi 2 3] .ret) .skip)) (.seq (ZR [Zm 8 0,Zl 9 8,Zi 10 0] (.block 0 (.loop (ZR [Zr 11 .lss 10 9] (.seq (ZC 11 .skip (.exit 0)) (.seq (.block 1 (ZR [Zx 12 2 8 10,Zt 13 2 12,Zn 4,Zs 2 4 13] (ZR [Za 14 0 4,Zf 15 1 14,Zq 16 .lss 15 1,Zm 17 16,Zj 18 17 false 0 4,Zh 19 17 false 1 18,u2 20 17 false (.cmp .gtr) [.tm 19,.cn (.int .i64 1000000000000)],u1 21 .or [.tm 17,.tm 20],Zm 22 21,Zj 23 22 false 1 4,Zh 24 22 false 1 23,u2 25 22 false (.cmp .lss) [.tm 24,.cn (.int .i64 (-1000000000))],u1 26 .or [.tm 22,.tm 25],Zm 27 26,Zj 28 27 false 1 4,Zh 29 27 false 1 28,u2 30 27 false (.cmp .gtr) [.tm 29,.cn (.int .i64 1000000000)],u1 31 .or [.tm 27,.tm 30]] (ZC 31 (ZR [Zi 2 2] .ret) .skip)))) (.region [Zp 32 10 1,Zm 10 32]))))))) (ZR [Zi 2 0] .ret))))⟩
theorem YFw:Yg YGc Tryz.f66=some v66:=by kernel_rfl
def YdA:Nat->List (Int×Int)->Nat->Int
 |0,_,_=>0
 |f+1,l,p=>if(Ycw l p).dh<(Ycw l p).ul then 1 else if(Ycw l p).uh<(Ycw l p).dl then -1 else YdA f l (2*p)
def YfI(l:List (Int×Int)):Int:=if(YgV l).2=true then(YgV l).1 else if oneF l=true then 0 else YdA 6 l 64
def signC:Ctr:={ alias:=false,of:=fun l=>match l with
 | [.vs _ _ n sz get]=> .ex (List (Int×Int)) fun l=> .pre (lsP 2 enc2 n sz get l/\(∀x,x∈l->okT x)/\n<=20) (.fin (.int .i64 (YfI l)) [])
 |_=> .pre False (.fin (.int .i64 0) [])}
def okT0(x:Int×Int):Bool:=decide (x.1<1) || decide (1000000000000<x.1) || decide (x.2< -1000000000) || decide (1000000000<x.2)
def YiL(l:List (Int×Int)):Int:=if 16<l.length then 3 else if l.any okT0=true then 2 else 0
def chkTC:Ctr:={ alias:=false,of:=fun l=>match l with
 | [.vs _ _ n sz get]=> .ex (List (Int×Int)) fun l=> .pre (lsP 2 enc2 n sz get l/\n<=9223372036854775807) (.fin (.int .i64 (YiL l)) [])
 |_=>noC}
theorem Yvt(l:List (Int×Int))(p:Nat):(Ycw l p).ok:=by
 have key:∀(l:List (Int×Int))(s:Bnd),s.ok->(l.foldl (YdB p) s).ok:=fun l=>by
  induction l with
  |nil=>intro s h;exact h
  |cons x l ih=>intro s h;exact ih _ (YjK p s x h)
 exact key l _ (by simp [Bnd.ok,nl_0])
def RB0:Env:={ ct:=fun n=>match n with|99=>some guessC|71=>some oneC|100=>some sumsC|101=>some aboveC|_=>none,fn:=fun _=>none,meth:=fun _ _=>none}
theorem YtM:RB0.ct 99=some guessC:=rfl
theorem YtL:RB0.ct 71=some oneC:=rfl
theorem Ypq:RB0.ct 100=some sumsC:=rfl
theorem Ypr:RB0.ct 101=some aboveC:=rfl
theorem YBI:Yq YGc RB0:=by
 refine⟨fun f c h=>?_,fun f vf h=>?_,(fun _ _ _ h=>by cases h),by kernel_rfl,(fun _ h=>by cases h)⟩
 ·simp only[RB0]at h
  split at h
  ·cases h;exact⟨Yyn,Tryz.f99,Tryz.func99,by kernel_rfl,by kernel_rfl⟩
  ·cases h;exact⟨YDn,Tryz.f71,Tryz.func71,by kernel_rfl,by kernel_rfl⟩
  ·cases h;exact⟨YEH,Tryz.f100,Tryz.func100,by kernel_rfl,by kernel_rfl⟩
  ·cases h;exact⟨Ylv,Tryz.f101,Tryz.func101,by kernel_rfl,by kernel_rfl⟩
  ·cases h
 ·cases h
theorem YED:signC.ok YGc 69:=by
 refine Yb Tryz.func69 YFz YBI 500 signC fun args k h=>?_
 simp only[signC]at h
 split at h
 ·rename_i tt z n sz get
  obtain⟨l,⟨⟨rfl,rfl,hg⟩,hl,hn⟩,h⟩:=h
  refine⟨[.vs tt z l.length 2 (fun k=>enc2 (l.getD k default))],⟨⟨id,rfl,rfl,rfl,hg⟩,trivial⟩,?_⟩
  dsimp only[v69,YtM,YtL,guessC,oneC,enc2,go_sem,reduceIte]
  simp only[Yc,YGa,YF9,reduceCtorEq,YF8]
  have hself:lsP 2 enc2 l.length 2 (fun k=>[SV.int IntKind.i64 (l.getD k default).fst,SV.int IntKind.i64 (l.getD k default).snd]) l:=⟨rfl,rfl,fun k _=>Yd _⟩
  refine⟨l,⟨hself,hl,by omega⟩,by decide,by decide,fun hc=>?_,fun hc=>⟨l,⟨hself,hl,hn⟩,fun hd=>?_,fun hd=>?_⟩⟩
  ·rw[YfI,if_pos hc]at h;exact Yf h
  ·rw[YfI,if_neg (by rw[hc];decide),if_pos hd]at h;exact Yf h
  ·rw[YfI,if_neg (by rw[hc];decide),if_neg (by rw[hd];decide)]at h
   obtain⟨R,hR⟩:∃R,R=YdA 6 l 64:=⟨_,rfl⟩
   rw[<-hR]at h
   refine Loop.keep [0] (Nat×Nat) (fun s=>[(5,.int .i64 s.2)]) (fun _=>[]) [] (fun s=>R=YdA s.1 l s.2/\s.2*2^s.1=4096/\64<=s.2) (fun s=>s.1) ?_ ?_
   ·refine⟨(6,64),⟨hR,by decide,by decide⟩,?_⟩
    dsimp only[go_sem,reduceIte]
    simp only[Ya]
    rfl
   ·rintro⟨f,p⟩ ⟨hf,hp,hp64⟩
    dsimp only at hf hp hp64
    dsimp only[Ypq,Ypr,sumsC,aboveC,natS,go_sem,reduceIte]
    simp only[Yc,YGa,YF9,reduceCtorEq,YF8]
    obtain⟨k1,k2,k3,k4⟩:=Yvt l p
    have hfd:p<=2048->∃g,f=g+1:=fun hpl=>by
     rcases YGI f with h0|h0
     ·rw[h0,YHA,YHj]at hp;omega
     ·exact⟨f-1,by omega⟩
    have hf0:¬p<=2048->f=0:=fun hpl=>by
     rcases YGI f with h0|h0
     ·exact h0
     ·obtain⟨g,rfl⟩:∃g,f=g+1:=⟨f-1,by omega⟩
      rw[YGt]at hp
      have:1<=2^g:=YH g
      have:p*2<=p*(2^g*2):=YGk _ (by omega)
      omega
    refine⟨fun hc=>⟨l,p,⟨hself,hl,by omega,rfl,by omega⟩,fun y1 y2 y3 y4=>⟨by decide,by decide,(Ycw l p).ul,(Ycw l p).dh,⟨Yt k1,Yt k4⟩,fun hd=>?_,fun hd=>⟨(Ycw l p).dl,(Ycw l p).uh,⟨Yt k3,Yt k2⟩,fun he=>?_,fun he=>?_⟩⟩⟩,fun hc=>?_⟩
    ·obtain⟨g,rfl⟩:=hfd (by omega)
     rw[YdA,if_pos hd]at hf
     rw[hf]at h;exact Yf h
    ·obtain⟨g,rfl⟩:=hfd (by omega)
     rw[YdA,if_neg hd,if_pos he]at hf
     rw[hf]at h;exact Yf h
    ·obtain⟨g,rfl⟩:=hfd (by omega)
     rw[YdA,if_neg hd,if_neg he]at hf
     rw[YGt]at hp
     have hp2:2*p*2^g=4096:=by rw[<-hp,YGj 2 p,YGm,YGj 2]
     refine⟨(g,2*p),⟨hf,hp2,by simp only;omega⟩,by simp only;omega,?_⟩
     rw[show IntKind.i64.wrap ((p:Int)*2)=((2*p:Nat):Int)by rw[YGd _ (by omega)];omega]
     simp only[Ya]
    ·obtain rfl:=hf0 (by omega)
     rw[YdA]at hf
     rw[hf]at h;exact Yf h
 ·exact h.1.elim
def RB1:Env:={ ct:=fun _=>none,fn:=fun _=>none,meth:=fun _ _=>none}
theorem YBJ:Yq YGc RB1:=by
 refine⟨fun f c h=>?_,fun f vf h=>?_,(fun _ _ _ h=>by cases h),by kernel_rfl,(fun _ h=>by cases h)⟩
 ·cases h
 ·cases h
theorem YCk:chkTC.ok YGc 66:=by
 refine Yb Tryz.func66 YFw YBJ 500 chkTC fun args k h=>?_
 simp only[chkTC]at h
 split at h
 ·rename_i tt z n sz get
  obtain⟨l,⟨⟨rfl,rfl,hg⟩,hn⟩,h⟩:=h
  refine⟨[.vs tt z l.length 2 (fun k=>enc2 (l.getD k default))],⟨⟨id,rfl,rfl,rfl,hg⟩,trivial⟩,?_⟩
  dsimp only[v66,enc2,go_sem,reduceIte]
  simp only[Yc,YGa,YF9,reduceCtorEq,YF8]
  refine⟨fun hc=>?_,fun hc=>?_⟩
  ·rw[YiL,if_pos (by omega)]at h;exact Yf h
  ·rw[YiL,if_neg (by omega)]at h
   refine Loop.keep [0,7,0] Nat (fun i=>[(10,.int .i64 i)]) (fun _=>[]) [] (fun i=>i<=l.length/\(l.take i).any okT0=false) (fun i=>l.length-i) ?_ ?_
   ·refine⟨0,⟨by omega,rfl⟩,?_⟩
    dsimp only[go_sem,reduceIte]
    simp only[Ya]
    rfl
   ·rintro i ⟨hi,hall⟩
    dsimp only[enc2,YGb,go_sem,reduceIte]
    simp only[Yc,YGa,YF9,reduceCtorEq,YF8]
    refine⟨fun hlt=>⟨⟨by omega,by omega⟩,fun hc=>?_,fun hc=>⟨i+1,⟨by omega,?_⟩,by omega,?_⟩⟩,fun hge=>?_⟩
    ·have:l.any okT0=true:=List.any_eq_true.2 ⟨_,Yk (by omega:i<l.length),hc⟩
     rw[if_pos this]at h
     exact Yf h
    ·rw[Yfj (by omega),hall,YHx];exact hc
    ·rw[YGd ((i:Int)+1) (by omega)]
     simp only[Ya]
     simp
    ·obtain rfl:i=l.length:=by omega
     rw[YHe]at hall
     rw[if_neg (by rw[hall];decide)]at h
     exact Yf h
 ·exact h.1.elim
def v42:VF:=⟨54,[.tmp 6,.tmp 7,.tmp 8],(ZR [u1 5 .box [.tm 2],Zi 6 0,u1 7 .mov [.cn (.bool false)],Zi 8 0] (.seq (ZR [Zm 13 1,Zc 14 66 13,Zm 9 14] (ZR [Zm 15 9,Zq 16 .neq 15 0] (ZC 16 (ZR [Zm 17 9,Zi 6 0,u1 7 .mov [.cn (.bool false)],Zm 8 17] .ret) .skip))) (.seq (ZR [Zf 18 1 5,Zq 19 .lss 18 1,Zm 20 19,Zh 21 20 false 1 5,u2 22 20 false (.cmp .gtr) [.tm 21,.cn (.int .i64 1000000)],u1 23 .or [.tm 20,.tm 22],Zm 24 23,Zg 25 24 false 0,u2 26 24 false (.cmp .lss) [.tm 25,.cn (.int .i64 1)],u1 27 .or [.tm 24,.tm 26],Zm 28 27,Zg 29 28 false 0,u2 30 28 false (.cmp .gtr) [.tm 29,.cn (.int .i64 1000000000000)],u1 31 .or [.tm 28,.tm 30]] (ZC 31 (ZR [Zi 6 0,u1 7 .mov [.cn (.bool false)],Zi 8 2] .ret) .skip)) (.seq (.drawT [(10,.box [.nil])] (.ops [Zu 32 1] (.ops [Zu 34 0] (.ops [Zv 35 1 5] (.ops [w1 36 (.build [(.int .i64 0),(.int .i64 0)] [(0,1),(1,1)]) [.tm 34,.tm 35]] (.ops [] (.br (.ops [⟨u1 33 (.append 2 16 [(.int .i64 0),(.int .i64 0)]) [.cn .nil,.tm 32],[.tm 0,.tm 34,.tm 5,.tm 35,.tm 34,.tm 35,.tm 36]⟩] (.ops [w1 37 (.buildSlice 2 1 [(.int .i64 0),(.int .i64 0)] [(0,2)]) [.tm 36]] (.ops [w1 38 (.append 2 16 [(.int .i64 0),(.int .i64 0)]) [.tm 33,.tm 37]] (.ops [ZS 1 10 38] .leaf)))) (.ops [w1 37 (.buildSlice 2 1 [(.int .i64 0),(.int .i64 0)] [(0,2)]) [.tm 36]] (.ops [⟨u1 33 (.append 2 16 [(.int .i64 0),(.int .i64 0)]) [.cn .nil,.tm 32],[.tm 0,.tm 34,.tm 5,.tm 35,.tm 34,.tm 35,.tm 36]⟩] (.ops [w1 38 (.append 2 16 [(.int .i64 0),(.int .i64 0)]) [.tm 33,.tm 37]] (.ops [ZS 1 10 38] .leaf))))))))))) (ZR [u1 39 (.mkfn (.func 67) 0) [.tm 10,.tm 5],u1 11 (.alloc [(.val .nilFunc)]) [],Zs 1 11 39] (ZR [u1 40 (.mkfn (.func 68) 0) [.tm 11],Zm 12 40] (.seq (ZR [Zm 41 12,u1 42 .callv [.tm 41,.cn (.int .i64 1000000000001)]] (ZC 42 (ZR [Zi 6 0,u1 7 .mov [.cn (.bool false)],Zi 8 7] .ret) .skip)) (ZR [Zm 43 12,u1 44 (.call 70) [.cn (.int .i64 0),.cn (.int .i64 1000000000001),.tm 43],Zm 6 44] (ZR [Zm 45 6,Zm 46 6,Zq 47 .gtr 46 0,Zm 48 47,Zh 49 48 true 1 11,Zg 50 48 true 6,u2 51 48 true .callv [.tm 49,.tm 50],u2 52 48 true (.call 71) [.tm 51],u1 53 .and [.tm 48,.tm 52],Zm 6 45,Zm 7 53,Zi 8 0] .ret)))))))))⟩
theorem YFa:Yg YGc Tryz.f42=some v42:=by kernel_rfl
def v67:VF:=⟨17,[.tmp 4],(ZR [u1 4 .mov [.cn .nil]] (.seq (.draw [] [Zv 5 1 1,Zv 6 1 1,w1 7 .len [.tm 6],Zv 8 1 1,w1 9 .len [.tm 8],w1 10 (.slice3 2) [.tm 5,.tm 7,.tm 9],Zu 11 0,Zv 12 1 2,w1 13 .neg [.tm 12],w1 14 (.build [(.int .i64 0),(.int .i64 0)] [(0,1),(1,1)]) [.tm 11,.tm 13],w1 15 (.buildSlice 2 1 [(.int .i64 0),(.int .i64 0)] [(0,2)]) [.tm 14],w1 16 (.append 2 16 [(.int .i64 0),(.int .i64 0)]) [.tm 10,.tm 15],Zu 4 16]) .ret))⟩
theorem YFx:Yg YGc Tryz.f67=some v67:=by kernel_rfl
def v68:VF:=⟨13,[.tmp 3],(ZR [u1 3 .mov [.cn (.bool false)]] (ZR [Zm 4 0,Zq 5 .eql 4 0,Zm 6 5,Zh 7 6 false 1 1,Zg 8 6 false 0,u2 9 6 false .callv [.tm 7,.tm 8],u2 10 6 false (.call 69) [.tm 9],u2 11 6 false (.cmp .geq) [.tm 10,.cn (.int .i64 0)],u1 12 .or [.tm 6,.tm 11],Zm 3 12] .ret))⟩
theorem YFy:Yg YGc Tryz.f68=some v68:=by kernel_rfl
def v70:VF:=⟨24,[.tmp 6],(ZR [Zi 6 0] (.seq (.block 0 (.loop (.seq (ZR [Zm 8 1,Zm 9 0,Zo 10 .sub 8 9,Zq 11 .gtr 10 1] (ZC 11 .skip (.exit 0))) (.block 1 (ZR [Zm 12 0,Zm 13 1,Zm 14 0,Zo 15 .sub 13 14,u1 16 .quo [.tm 15,.cn (.int .i64 2)],Zo 17 .add 12 16,Zm 7 17] (ZR [Zm 18 2,Zm 19 7,u1 20 .callv [.tm 18,.tm 19]] (ZC 20 (.region [Zm 21 7,Zm 0 21]) (.region [Zm 22 7,Zm 1 22])))))))) (ZR [Zm 23 0,Zm 6 23] .ret)))⟩
theorem YFA:Yg YGc Tryz.f70=some v70:=by kernel_rfl
def bisL:Nat->(Int->Bool)->Int->Int->Int
 |0,_,a,_=>a
 |f+1,t,a,b=>if 1<b-a then(if t (a+(b-a)/2)=true then bisL f t (a+(b-a)/2) b else bisL f t a (a+(b-a)/2))else a
def atF(all:List (Int×Int))(den k:Int):List (Int×Int):=all++[(k, -den)]
def isF(all:List (Int×Int))(den k:Int):Bool:=decide (k=0) || decide (0<=YfI (atF all den k))
def YcS(s:Int)(l:List (Int×Int))(den:Int):Int×Bool×Int:=
 if isF (l++[(s,den)]) den 1000000000001=true then(0,false,7)
 else(bisL 64 (isF (l++[(s,den)]) den) 0 1000000000001,decide (0<bisL 64 (isF (l++[(s,den)]) den) 0 1000000000001)&&oneF (atF (l++[(s,den)]) den (bisL 64 (isF (l++[(s,den)]) den) 0 1000000000001)),0)
def prodC:Ctr:={ alias:=false,of:=fun l=>match l with
 | [.int .i64 s,.vs _ _ n sz get,.int .i64 den]=> .ex (List (Int×Int)) fun l=> .pre (lsP 2 enc2 n sz get l/\(∀x,x∈l->okT0 x=false)/\n<=16/\1<=n/\(1<=s/\s<=1000000000000)/\1<=den/\den<=1000000) (.fin (.tup [.int .i64 (YcS s l den).1,.bool (YcS s l den).2.1,.int .i64 (YcS s l den).2.2]) [])
 |_=>noC}
theorem YB5{l:List (Int×Int)}{s den kk:Int}{hp:List HO}{r:List SV->List SV}{i k:Nat}(hk:k<l.length+1+1):
 leXL (Ybu false hp r (if k<l.length+1 then if k<l.length then [SV.int IntKind.i64 (l.getD k default).fst,SV.int IntKind.i64 (l.getD k default).snd]else Yj i (YL 2 (YG ((k-l.length)*2) [SV.int IntKind.i64 s,SV.int IntKind.i64 den]))else YL 2 (YG ((k-(l.length+1))*2) [SV.int IntKind.i64 kk,SV.int IntKind.i64 (-den)]))) (enc2 ((atF (l++[(s,den)]) den kk).getD k default)):=by
 unfold atF
 rw[List.append_assoc]
 by_cases h1:k<l.length
 ·rw[if_pos (by omega),if_pos h1,YGl (l:=_++_),YGR h1,<-YGl]
  exact Yd _
 ·rw[YGl (l:=_++_),YG4 (by omega),if_neg h1]
  by_cases h2:k<l.length+1
  ·rw[if_pos h2,show k-l.length=0 by omega]
   exact Yd _
  ·rw[if_neg h2,show k-(l.length+1)=0 by omega,show k-l.length=1 by omega]
   exact Yd _
theorem Ysz{l:List (Int×Int)}{s den:Int}{i k a b:Nat}(hk:k<l.length+1):leL a b (if k<l.length then [SV.int IntKind.i64 (l.getD k default).fst,SV.int IntKind.i64 (l.getD k default).snd]else Yj i (YL 2 (YG ((k-l.length)*2) [SV.int IntKind.i64 s,SV.int IntKind.i64 den]))) (if k<l.length then [SV.int IntKind.i64 (l.getD k default).fst,SV.int IntKind.i64 (l.getD k default).snd]else Yj i (YL 2 (YG ((k-l.length)*2) [SV.int IntKind.i64 s,SV.int IntKind.i64 den]))):=by
 by_cases h1:k<l.length
 ·rw[if_pos h1];exact⟨⟨rfl,rfl⟩,⟨rfl,rfl⟩,trivial⟩
 ·rw[if_neg h1,show k-l.length=0 by omega];exact⟨⟨rfl,rfl⟩,⟨rfl,rfl⟩,trivial⟩
theorem Yvh{s den:Int}{i k a b:Nat}(hk:k<1):leL a b (Yj i (YL 2 (YG (k*2) [SV.int IntKind.i64 s,SV.int IntKind.i64 den]))) (Yj i (YL 2 (YG (k*2) [SV.int IntKind.i64 s,SV.int IntKind.i64 den]))):=by
 obtain rfl:k=0:=by omega
 exact⟨⟨rfl,rfl⟩,⟨rfl,rfl⟩,trivial⟩
theorem YzT{l:List (Int×Int)}{s den kk dd:Int}{i k a b:Nat}(hk:k<l.length+1+1):leL a b (if k<l.length+1 then if k<l.length then [SV.int IntKind.i64 (l.getD k default).fst,SV.int IntKind.i64 (l.getD k default).snd]else Yj i (YL 2 (YG ((k-l.length)*2) [SV.int IntKind.i64 s,SV.int IntKind.i64 den]))else YL 2 (YG ((k-(l.length+1))*2) [SV.int IntKind.i64 kk,SV.int IntKind.i64 dd])) (if k<l.length+1 then if k<l.length then [SV.int IntKind.i64 (l.getD k default).fst,SV.int IntKind.i64 (l.getD k default).snd]else Yj i (YL 2 (YG ((k-l.length)*2) [SV.int IntKind.i64 s,SV.int IntKind.i64 den]))else YL 2 (YG ((k-(l.length+1))*2) [SV.int IntKind.i64 kk,SV.int IntKind.i64 dd])):=by
 by_cases h1:k<l.length+1
 ·rw[if_pos h1];exact Ysz h1
 ·rw[if_neg h1,show k-(l.length+1)=0 by omega];exact⟨⟨rfl,rfl⟩,⟨rfl,rfl⟩,trivial⟩
theorem Yxt{l:List (Int×Int)}{s den kk:Int}{hp:List HO}{r:List SV->List SV}{i:Nat}:
 lsP 2 enc2 (l.length+1+1) 2 (fun k=>Ybu false hp r (if k<l.length+1 then if k<l.length then [SV.int IntKind.i64 (l.getD k default).fst,SV.int IntKind.i64 (l.getD k default).snd]else Yj i (YL 2 (YG ((k-l.length)*2) [SV.int IntKind.i64 s,SV.int IntKind.i64 den]))else YL 2 (YG ((k-(l.length+1))*2) [SV.int IntKind.i64 kk,SV.int IntKind.i64 (-den)]))) (atF (l++[(s,den)]) den kk):=
 ⟨rfl,by simp [atF],fun k hk=>YB5 hk⟩
theorem Yxu{l:List (Int×Int)}{s den kk:Int}(hl:∀x,x∈l->okT0 x=false)(hs:1<=s/\s<=1000000000000)(hd:1<=den/\den<=1000000)(hk:1<=kk/\kk<=1000000000001):∀x,x∈atF (l++[(s,den)]) den kk->okT x:=by
 intro x hx
 unfold atF at hx
 rw[YGT,YGT,YGU,YGU]at hx
 rcases hx with(hx|rfl) |rfl
 ·have:=hl x hx
  unfold okT0 at this
  simp only[YG8,decide_eq_false_iff_not]at this
  unfold okT
  omega
 ·simp only[okT];omega
 ·simp only[okT];omega
theorem Yp8{l:List (Int×Int)}{s den:Int}{i k:Nat}(hk:k<l.length+1):lenL (if k<l.length then [SV.int IntKind.i64 (l.getD k default).fst,SV.int IntKind.i64 (l.getD k default).snd]else Yj i (YL 2 (YG ((k-l.length)*2) [SV.int IntKind.i64 s,SV.int IntKind.i64 den])))=2/\ones (if k<l.length then [SV.int IntKind.i64 (l.getD k default).fst,SV.int IntKind.i64 (l.getD k default).snd]else Yj i (YL 2 (YG ((k-l.length)*2) [SV.int IntKind.i64 s,SV.int IntKind.i64 den]))):=by
 by_cases h1:k<l.length
 ·rw[if_pos h1];exact⟨rfl,trivial,trivial,trivial⟩
 ·rw[if_neg h1,show k-l.length=0 by omega];exact⟨rfl,trivial,trivial,trivial⟩
theorem Yjs{a b:Int}{k:Nat}(hk:k<1):lenL (YL 2 (YG (k*2) [SV.int IntKind.i64 a,SV.int IntKind.i64 b]))=2/\ones (YL 2 (YG (k*2) [SV.int IntKind.i64 a,SV.int IntKind.i64 b])):=by
 obtain rfl:k=0:=by omega
 exact⟨rfl,trivial,trivial,trivial⟩
def RB2:Env:={ ct:=fun n=>match n with|66=>some chkTC|69=>some signC|71=>some oneC|_=>none,fn:=fun n=>match n with|67=>some v67|68=>some v68|70=>some v70|_=>none,meth:=fun _ _=>none}
theorem YtN:RB2.ct 66=some chkTC:=rfl
theorem YmF:RB2.ct 69=some signC:=rfl
theorem YtP:RB2.ct 71=some oneC:=rfl
theorem YmD:RB2.ct 67=none:=rfl
theorem YmG:RB2.fn 67=some v67:=rfl
theorem YmE:RB2.ct 68=none:=rfl
theorem YmH:RB2.fn 68=some v68:=rfl
theorem YtO:RB2.ct 70=none:=rfl
theorem YtQ:RB2.fn 70=some v70:=rfl
theorem YBK:Yq YGc RB2:=by
 refine⟨fun f c h=>?_,fun f vf h=>?_,(fun _ _ _ h=>by cases h),by kernel_rfl,(fun _ h=>by cases h)⟩
 ·simp only[RB2]at h
  split at h
  ·cases h;exact⟨YCk,Tryz.f66,Tryz.func66,by kernel_rfl,by kernel_rfl⟩
  ·cases h;exact⟨YED,Tryz.f69,Tryz.func69,by kernel_rfl,by kernel_rfl⟩
  ·cases h;exact⟨YDn,Tryz.f71,Tryz.func71,by kernel_rfl,by kernel_rfl⟩
  ·cases h
 ·simp only[RB2]at h
  split at h
  ·cases h;exact⟨Tryz.f67,Tryz.func67,YFx,Tryz.f67,Tryz.func67,by kernel_rfl,by kernel_rfl⟩
  ·cases h;exact⟨Tryz.f68,Tryz.func68,YFy,Tryz.f68,Tryz.func68,by kernel_rfl,by kernel_rfl⟩
  ·cases h;exact⟨Tryz.f70,Tryz.func70,YFA,Tryz.f70,Tryz.func70,by kernel_rfl,by kernel_rfl⟩
  ·cases h
theorem YmS{k:SV->List HO->Prop}{al:Bool}{hp:List HO}{κ κ':IntKind}{x e:Int}{b:Bool}(h:k (.tup [.int κ x,.bool b,.int κ' e]) []):YD al k (.tup [.int κ x,.bool b,.int κ' e]) hp:=
 YC (show k _ []from h) (Yv (.tup [.int κ x,.bool b,.int κ' e]) ⟨trivial,trivial,trivial,trivial⟩) (fun _=>by simp [Yl,Ym])
theorem Ywd:prodC.ok YGc 42:=by
 refine Yb Tryz.func42 YFa YBK 800 prodC fun args k h=>?_
 simp only[prodC]at h
 split at h
 ·rename_i s tt z n sz get den
  obtain⟨l,⟨⟨rfl,rfl,hg⟩,hl,hn,hn1,hs,hd⟩,h⟩:=h
  refine⟨[.int .i64 s,.vs tt z l.length 2 (fun k=>enc2 (l.getD k default)),.int .i64 den],⟨⟨rfl,rfl⟩,⟨id,rfl,rfl,rfl,hg⟩,⟨rfl,rfl⟩,trivial⟩,?_⟩
  dsimp only[v42,YtN,chkTC,enc2,go_sem,reduceIte]
  simp only[Yc,YGa,YF9,reduceCtorEq,YF8]
  have hnd:IntKind.i64.wrap (0-den)= -den:=by rw[YGd _ (by omega)];omega
  have hchk:YiL l=0:=by
   have:l.any okT0=false:=by rw[List.any_eq_false];exact fun x hx=>by rw[hl x hx];decide
   rw[YiL,if_neg (by omega),if_neg (by rw[this];decide)]
  refine⟨l,⟨⟨rfl,rfl,fun k _=>Yd _⟩,by omega⟩,fun hh=>absurd hchk hh,fun _=>⟨fun hh=>?_,fun _=>⟨⟨by unfold YP;omega,by decide,⟨by unfold YP;omega,fun k hk=>?_⟩,?_⟩,by decide,by unfold YP;omega,⟨by unfold YP;omega,fun k hk=>?_⟩,?_⟩⟩⟩
  ·rw[decide_eq_false (by omega:¬den<1),decide_eq_false (by omega:¬1000000<den),decide_eq_false (by omega:¬s<1),decide_eq_false (by omega:¬1000000000000<s)]at hh
   cases hh
  all_goals (try exact Yjs hk)
  all_goals
   dsimp only[YmE,YmH,v68,YmD,YmG,v67,YmF,signC,go_sem,reduceIte]
   simp only[Yc,YGa,YF9,reduceCtorEq,YF8]
   rw[hnd]
   simp only[YGb]
   have hK:(1:Int)<=1000000000001/\(1000000000001:Int)<=1000000000001:=by decide
   refine⟨fun _=>⟨⟨by omega,by omega⟩,by decide,⟨by decide,by unfold YP;omega,fun k hk=>Yp8 hk,fun k hk=>Yjs hk⟩,atF (l++[(s,den)]) den 1000000000001,fun _=>⟨Yxt,Yxu hl hs ⟨hd.1,hd.2⟩ hK,by omega⟩,fun hc=>?_,fun hc=>?_⟩,fun hh=>absurd hh (by decide)⟩
   ·have hc:isF (l++[(s,den)]) den 1000000000001=true:=hc
    rw[YcS,if_pos hc]at h
    exact YmS h
   ·have hc:isF (l++[(s,den)]) den 1000000000001=false:=hc
    rw[YcS,if_neg (by rw[hc];decide)]at h
    dsimp only[YtO,YtQ,v70,go_sem,reduceIte]
    simp only[Yc,YGa,YF9,reduceCtorEq,YF8]
    obtain⟨t,ht⟩:∃t,t=isF (l++[(s,den)]) den:=⟨_,rfl⟩
    obtain⟨R,hR⟩:∃R,R=bisL 64 t 0 1000000000001:=⟨_,rfl⟩
    rw[<-ht,<-hR]at h
    refine Loop.keep [2] (Nat×Int×Int) (fun s=>[(0,.int .i64 s.2.1),(1,.int .i64 s.2.2)]) (fun _=>[]) [] (fun s=>R=bisL s.1 t s.2.1 s.2.2/\0<=s.2.1/\s.2.1<s.2.2/\s.2.2<=1000000000001/\s.2.2-s.2.1<=2^s.1) (fun s=>s.1) ?_ ?_
    ·refine⟨(64,0,1000000000001),⟨hR,by decide,by decide,by decide,by decide⟩,?_⟩
     dsimp only[go_sem,reduceIte]
     simp only[Ya]
     repeat' apply YGH
     all_goals first|decide| (intro k hk;first|exact Ysz hk|exact Yvh hk|exact YzT hk)
    ·rintro⟨f,lo,hi⟩ ⟨hf,b0,b1,b2,b3⟩
     dsimp only at hf b0 b1 b2 b3
     dsimp only[YmE,YmH,v68,YmD,YmG,v67,YmF,YtP,signC,oneC,go_sem,reduceIte]
     simp only[Yc,YGa,YF9,reduceCtorEq,YF8]
     rw[hnd]
     simp only[YGb]
     have ed:IntKind.i64.wrap (hi-lo)=hi-lo:=YGd _ (by omega)
     have e2:IntKind.i64.wrap ((hi-lo).tdiv 2)=(hi-lo)/2:=by
      rw[Int.tdiv_eq_ediv_of_nonneg (by omega),YGd _ (by omega)]
     have e3:IntKind.i64.wrap (lo+(hi-lo)/2)=lo+(hi-lo)/2:=YGd _ (by omega)
     rw[ed,e2,e3]
     refine⟨fun hc1=>?_,fun hc1=>?_⟩
     ·obtain⟨m,hm⟩:∃m,m=lo+(hi-lo)/2:=⟨_,rfl⟩
      rw[<-hm]
      obtain⟨g,rfl⟩:∃g,f=g+1:=by
       cases f with
       |zero=>simp at b3;omega
       |succ g=>exact⟨g,rfl⟩
      rw[bisL,if_pos hc1,<-hm]at hf
      have b4:hi-lo<=2^g*2:=by rw[<-Int.pow_succ];exact b3
      have hm0:¬m=0:=by omega
      refine⟨by decide,fun _=>⟨⟨by omega,by omega⟩,by decide,⟨by decide,by unfold YP;omega,fun k hk=>Yp8 hk,fun k hk=>Yjs hk⟩,atF (l++[(s,den)]) den m,fun _=>⟨Yxt,Yxu hl hs ⟨hd.1,hd.2⟩ (by omega),by omega⟩,fun hd1=>?_,fun hd1=>?_⟩,fun hh=>absurd hh hm0⟩
      ·have hd1:t m=true:=by rw[ht];exact hd1
       rw[if_pos hd1]at hf
       refine⟨(g,m,hi),⟨hf,by simp only;omega,by simp only;omega,b2,by simp only;omega⟩,by simp only;omega,?_⟩
       simp only[Ya]
       repeat' apply YGH
       all_goals first|decide| (intro k hk;first|exact Ysz hk|exact Yvh hk|exact YzT hk)
      ·have hd1:t m=false:=by rw[ht];exact hd1
       rw[if_neg (by rw[hd1];decide)]at hf
       refine⟨(g,lo,m),⟨hf,by simp only;omega,by simp only;omega,by simp only;omega,by simp only;omega⟩,by simp only;omega,?_⟩
       simp only[Ya]
       repeat' apply YGH
       all_goals first|decide| (intro k hk;first|exact Ysz hk|exact Yvh hk|exact YzT hk)
     ·have hRlo:R=lo:=by
       cases f with
       |zero=>exact hf
       |succ g=>rw[hf,bisL,if_neg hc1]
      subst hRlo
      refine⟨fun hp=>⟨⟨by omega,by omega⟩,by decide,⟨by decide,by unfold YP;omega,fun k hk=>Yp8 hk,fun k hk=>Yjs hk⟩,atF (l++[(s,den)]) den R,fun _=>⟨Yxt,Yxu hl hs ⟨hd.1,hd.2⟩ (by omega),by omega⟩,YmS h⟩,fun hp=>⟨fun hh=>absurd hh hp,?_⟩⟩
      rw[decide_eq_false hp,YHp]at h⊢
      exact YmS h
 ·exact h.1.elim
def v119:VF:=⟨9,[.tmp 2],(ZR [u1 2 .mov [.cn (.bool false)]] (ZR [Zm 3 0,Zq 4 .geq 3 (-20000),Zm 5 4,Zg 6 5 true 0,u2 7 5 true (.cmp .leq) [.tm 6,.cn (.int .i64 50000)],u1 8 .and [.tm 5,.tm 7],Zm 2 8] .ret))⟩
theorem YAu:Yg YGc Tryz.f119=some v119:=by kernel_rfl
def v121:VF:=⟨9,[.cell 4 true 2],(ZR [Zn 4] (ZR [Zm 5 0,u1 6 (.ari .add) [.cn (.int .i64 273150),.tm 5],Zm 7 1,u1 8 (.build [(.int .i64 0),(.int .i64 0)] [(0,1),(1,1)]) [.tm 6,.tm 7],Zs 2 4 8] .ret))⟩
theorem YAw:Yg YGc Tryz.f121=some v121:=by kernel_rfl
def v120:VF:=⟨26,[.cell 6 true 2],(ZR [Zn 6] (ZR [Zm 11 0,Zm 12 2,Zm 13 1,u1 14 (.call 42) [.tm 11,.tm 12,.tm 13],Zm 10 14,Ze 15 0 10,Ze 16 1 10,Ze 17 2 10,Zm 7 15,Zm 8 16,Zm 9 17] (.seq (ZR [Zm 18 8] (ZC 18 (ZR [Zm 19 7,Zm 20 7,u1 21 (.build [(.int .i64 0),(.int .i64 0)] [(0,1),(1,1)]) [.tm 19,.tm 20],Zs 2 6 21] .ret) .skip)) (ZR [Zm 22 7,Zm 23 7,Zp 24 23 1,u1 25 (.build [(.int .i64 0),(.int .i64 0)] [(0,1),(1,1)]) [.tm 22,.tm 24],Zs 2 6 25] .ret))))⟩
theorem YAv:Yg YGc Tryz.f120=some v120:=by kernel_rfl
def v95:VF:=⟨13,[.cell 2 true 2,.tmp 3],(ZR [Zn 2,Zi 3 0] (.seq (ZR [Zm 4 0,Zc 5 119 4,u1 6 .not [.tm 5]] (ZC 6 (ZR [u1 7 (.build [(.int .i64 0),(.int .i64 0)] []) [],Zs 2 2 7,Zi 3 2] .ret) .skip)) (ZR [Zm 8 0,u1 9 (.call 121) [.tm 8,.cn (.int .i64 1)],u1 10 (.call 121) [.cn (.int .i64 0),.cn (.int .i64 (-1))],u1 11 (.buildSlice 2 2 [(.int .i64 0),(.int .i64 0)] [(0,2),(2,2)]) [.tm 9,.tm 10],u1 12 (.call 120) [.cn (.int .i64 331300000),.cn (.int .i64 2),.tm 11],Zs 2 2 12,Zi 3 0] .ret)))⟩
theorem YFY:Yg YGc Tryz.f95=some v95:=by kernel_rfl
def pspF(s:Int)(l:List (Int×Int))(den:Int):Int×Int:=if(YcS s l den).2.1=true then((YcS s l den).1,(YcS s l den).1)else((YcS s l den).1,IntKind.i64.wrap ((YcS s l den).1+1))
def pspC:Ctr:={ alias:=false,of:=fun l=>match l with
 | [.int .i64 s,.int .i64 den,.vs _ _ n sz get]=> .ex (List (Int×Int)) fun l=> .pre (lsP 2 enc2 n sz get l/\(∀x,x∈l->okT0 x=false)/\n<=16/\1<=n/\(1<=s/\s<=1000000000000)/\1<=den/\den<=1000000) (.fin (.agg [.int .i64 (pspF s l den).1,.int .i64 (pspF s l den).2]) [])
 |_=>noC}
def Yoc(t:Int):Bool:=decide (-20000<=t)&&decide (t<=50000)
def Yax(t:Int):(Int×Int)×Int:=if Yoc t=true then(pspF 331300000 [(273150+t,1),(273150, -1)] 2,0)else((0,0),2)
def speedC:Ctr:={ alias:=false,of:=fun l=>match l with
 | [.int .i64 t]=> .fin (.tup [.agg [.int .i64 (Yax t).1.1,.int .i64 (Yax t).1.2],.int .i64 (Yax t).2]) []
 |_=>noC}
theorem Yc7{k:SV->List HO->Prop}{al:Bool}{hp:List HO}{x y:Int}(h:k (.agg [.int .i64 x,.int .i64 y]) []):YD al k (.agg [.int .i64 x,.int .i64 y]) hp:=
 YC (show k _ []from h) (Yv (.agg [.int .i64 x,.int .i64 y]) ⟨trivial,trivial,trivial⟩) (fun _=>by simp [Yl,Ym])
theorem Yew{k:SV->List HO->Prop}{al:Bool}{hp:List HO}{x y e:Int}(h:k (.tup [.agg [.int .i64 x,.int .i64 y],.int .i64 e]) []):YD al k (.tup [.agg [.int .i64 x,.int .i64 y],.int .i64 e]) hp:=
 YC (show k _ []from h) (Yv (.tup [.agg [.int .i64 x,.int .i64 y],.int .i64 e]) ⟨⟨trivial,trivial,trivial⟩,trivial,trivial⟩) (fun _=>by simp [Yl,Ym])
def RP0:Env:={ ct:=fun n=>match n with|42=>some prodC|_=>none,fn:=fun _=>none,meth:=fun _ _=>none}
theorem YtR:RP0.ct 42=some prodC:=rfl
theorem YBL:Yq YGc RP0:=by
 refine⟨fun f c h=>?_,fun f vf h=>?_,(fun _ _ _ h=>by cases h),by kernel_rfl,(fun _ h=>by cases h)⟩
 ·simp only[RP0]at h
  split at h
  ·cases h;exact⟨Ywd,Tryz.f42,Tryz.func42,by kernel_rfl,by kernel_rfl⟩
  ·cases h
 ·cases h
theorem psp_c:pspC.ok YGc 120:=by
 refine Yb Tryz.func120 YAv YBL 200 pspC fun args k h=>?_
 simp only[pspC]at h
 split at h
 ·rename_i s den tt z n sz get
  obtain⟨l,⟨⟨rfl,rfl,hg⟩,hl,hn,hn1,hs,hd⟩,h⟩:=h
  refine⟨[.int .i64 s,.int .i64 den,.vs tt z l.length 2 (fun k=>enc2 (l.getD k default))],⟨⟨rfl,rfl⟩,⟨rfl,rfl⟩,⟨id,rfl,rfl,rfl,hg⟩,trivial⟩,?_⟩
  dsimp only[v120,YtR,prodC,enc2,go_sem,reduceIte]
  simp only[Yc,YGa,YF9,reduceCtorEq,YF8]
  refine⟨l,⟨⟨rfl,rfl,fun k _=>Yd _⟩,hl,hn,hn1,hs,hd⟩,by decide,by decide,by decide,fun hc=>?_,fun hc=>?_⟩
  ·rw[pspF,if_pos hc]at h;exact Yc7 h
  ·rw[pspF,if_neg (by rw[hc];decide)]at h;exact Yc7 h
 ·exact h.1.elim
def RP1:Env:={ ct:=fun n=>match n with|120=>some pspC|_=>none,fn:=fun n=>match n with|119=>some v119|121=>some v121|_=>none,meth:=fun _ _=>none}
theorem Ypt:RP1.ct 120=some pspC:=rfl
theorem Yps:RP1.ct 119=none:=rfl
theorem Ypv:RP1.fn 119=some v119:=rfl
theorem Ypu:RP1.ct 121=none:=rfl
theorem Ypw:RP1.fn 121=some v121:=rfl
theorem YBM:Yq YGc RP1:=by
 refine⟨fun f c h=>?_,fun f vf h=>?_,(fun _ _ _ h=>by cases h),by kernel_rfl,(fun _ h=>by cases h)⟩
 ·simp only[RP1]at h
  split at h
  ·cases h;exact⟨psp_c,Tryz.f120,Tryz.func120,by kernel_rfl,by kernel_rfl⟩
  ·cases h
 ·simp only[RP1]at h
  split at h
  ·cases h;exact⟨Tryz.f119,Tryz.func119,YAu,Tryz.f119,Tryz.func119,by kernel_rfl,by kernel_rfl⟩
  ·cases h;exact⟨Tryz.f121,Tryz.func121,YAw,Tryz.f121,Tryz.func121,by kernel_rfl,by kernel_rfl⟩
  ·cases h
theorem YzX:speedC.ok YGc 95:=by
 refine Yb Tryz.func95 YFY YBM 300 speedC fun args k h=>?_
 simp only[speedC]at h
 split at h
 ·rename_i t
  refine⟨[.int .i64 t],by simp [leL,le],?_⟩
  dsimp only[v95,Ypt,Yps,Ypv,v119,Ypu,Ypw,v121,pspC,go_sem,reduceIte]
  simp only[Yc,YGa,YF9,reduceCtorEq,YF8]
  refine⟨fun hc=>?_,fun hc=>⟨by decide,[(273150+t,1),(273150, -1)],⟨?_,?_,by decide,by decide⟩,?_⟩⟩
  ·rw[Yax,if_neg (show¬Yoc t=true from by rw[show Yoc t=false from hc];decide)]at h
   exact Yew h
  ·rw[YGi,decide_eq_true_eq,decide_eq_true_eq]at hc
   have e1:IntKind.i64.wrap (273150+t)=273150+t:=YGd _ (by omega)
   have e2:IntKind.i64.wrap (273150+0)=273150:=by decide
   rw[e1,e2]
   refine⟨rfl,rfl,fun k hk=>?_⟩
   match k,hk with
   |0,_=>exact Yd _
   |1,_=>exact Yd _
  ·rw[YGi,decide_eq_true_eq,decide_eq_true_eq]at hc
   intro x hx
   simp only[YGK,List.not_mem_nil,or_false]at hx
   rcases hx with rfl|rfl
   ·simp only[okT0,YG8,decide_eq_false_iff_not];omega
   ·decide
  ·rw[Yax,if_pos (show Yoc t=true from hc)]at h
   exact Yew h
 ·exact h.1.elim
abbrev Iv:=Int×Int
def Ybg(x:Int):Bool:=decide (-4611686018427387904<=x)&&decide (x<=4611686018427387904)
def ivE(l:List Iv):Int:=if l.all (fun a=>Ybg a.1&&Ybg a.2)then(if l.all (fun a=>decide (a.1<=a.2))then 0 else 2)else 7
theorem Yrf{l:List Iv}{i:Nat}(h:i<l.length)(hb:(Ybg (l.getD i default).1&&Ybg (l.getD i default).2)=false):ivE l=7:=by
 rw[ivE,if_neg]
 intro hall
 have:=List.all_eq_true.1 hall _ (Yk h)
 rw[hb]at this;cases this
theorem YCP{l:List Iv}(ha:∀j,j<l.length->(Ybg (l.getD j default).1&&Ybg (l.getD j default).2)=true){i:Nat}(h:i<l.length)(hb:(l.getD i default).2<(l.getD i default).1):ivE l=2:=by
 rw[ivE,if_pos,if_neg]
 ·intro hall
  have:=List.all_eq_true.1 hall _ (Yk h)
  simp only[decide_eq_true_eq]at this;omega
 ·refine List.all_eq_true.2 fun x hx=>?_
  obtain⟨j,hj,rfl⟩:=YdP hx
  exact ha j hj
theorem YCO{l:List Iv}(ha:∀j,j<l.length->(Ybg (l.getD j default).1&&Ybg (l.getD j default).2)=true)(hb:∀j,j<l.length->(l.getD j default).1<=(l.getD j default).2):ivE l=0:=by
 rw[ivE,if_pos,if_pos]
 ·refine List.all_eq_true.2 fun x hx=>?_
  obtain⟨j,hj,rfl⟩:=YdP hx
  simpa using hb j hj
 ·refine List.all_eq_true.2 fun x hx=>?_
  obtain⟨j,hj,rfl⟩:=YdP hx
  exact ha j hj
theorem numOk_iff{x:Int}:Ybg x=true↔ -4611686018427387904<=x/\x<=4611686018427387904:=by
 simp [Ybg]
theorem ivE1{a:Iv}(h:ivE [a]=0):(-4611686018427387904<=a.1/\a.1<=4611686018427387904)/\(-4611686018427387904<=a.2/\a.2<=4611686018427387904)/\a.1<=a.2:=by
 unfold ivE at h
 split at h
 ·rename_i h1
  split at h
  ·rename_i h2
   simp only[List.all_cons,List.all_nil,Bool.and_true,YGi,decide_eq_true_eq]at h1 h2
   exact⟨numOk_iff.1 h1.1,numOk_iff.1 h1.2,h2⟩
  ·cases h
 ·cases h
theorem ivE2{a b:Iv}(h:ivE [a,b]=0):((-4611686018427387904<=a.1/\a.1<=4611686018427387904)/\(-4611686018427387904<=a.2/\a.2<=4611686018427387904)/\a.1<=a.2)/\(-4611686018427387904<=b.1/\b.1<=4611686018427387904)/\(-4611686018427387904<=b.2/\b.2<=4611686018427387904)/\b.1<=b.2:=by
 unfold ivE at h
 split at h
 ·rename_i h1
  split at h
  ·rename_i h2
   simp only[List.all_cons,List.all_nil,Bool.and_true,YGi,decide_eq_true_eq]at h1 h2
   exact⟨⟨numOk_iff.1 h1.1.1,numOk_iff.1 h1.1.2,h2.1⟩,numOk_iff.1 h1.2.1,numOk_iff.1 h1.2.2,h2.2⟩
  ·cases h
 ·cases h
def rndT(up:Bool)(x d:Int):Int:=if up then -((-x)/d)else x/d
def rndB(t:Int):Int×Bool:=if -4611686018427387904<=t/\t<=4611686018427387904 then(t,true)else(0,false)
def rndF(up:Bool)(x d:Int):Int×Bool:=rndB (rndT up x d)
def Ybh(a b:Int×Bool):Iv×Int:=if a.2&&b.2 then((a.1,b.1),0)else((0,0),7)
def lowI(x:Int)(r:List Int):Int:=r.foldl (fun low y=>if y<low then y else low) x
def Ybc(x:Int)(r:List Int):Int:=r.foldl (fun high y=>if high<y then y else high) x
def Yd9(d:Int)(x:Int)(r:List Int):Iv×Int:=Ybh (rndF false (lowI x r) d) (rndF true (Ybc x r) d)
theorem YrH(x:Int):∀(r:List Int),lowI x r∈x::r/\∀y∈x::r,lowI x r<=y:=by
 intro r
 induction r generalizing x with
 |nil=>exact⟨YGy,fun y hy=>by simp at hy;subst hy;exact Int.le_refl _⟩
 |cons a r ih=>
  have e:lowI x (a::r)=lowI (if a<x then a else x) r:=rfl
  rw[e]
  obtain⟨h1,h2⟩:=ih (if a<x then a else x)
  have h3:=h2 _ YGy
  generalize lowI (if a<x then a else x) r=L at*
  refine⟨?_,fun y hy=>?_⟩
  ·rcases YGK.1 h1 with h|h
   ·rw[h];split <;> simp
   ·simp [h]
  ·rcases YGK.1 hy with rfl|hy
   ·split at h3 <;> omega
   ·rcases YGK.1 hy with rfl|hy
    ·split at h3 <;> omega
    ·exact h2 _ (YGx _ hy)
theorem Yor(x:Int):∀(r:List Int),Ybc x r∈x::r/\∀y∈x::r,y<=Ybc x r:=by
 intro r
 induction r generalizing x with
 |nil=>exact⟨YGy,fun y hy=>by simp at hy;subst hy;exact Int.le_refl _⟩
 |cons a r ih=>
  have e:Ybc x (a::r)=Ybc (if x<a then a else x) r:=rfl
  rw[e]
  obtain⟨h1,h2⟩:=ih (if x<a then a else x)
  have h3:=h2 _ YGy
  generalize Ybc (if x<a then a else x) r=L at*
  refine⟨?_,fun y hy=>?_⟩
  ·rcases YGK.1 h1 with h|h
   ·rw[h];split <;> simp
   ·simp [h]
  ·rcases YGK.1 hy with rfl|hy
   ·split at h3 <;> omega
   ·rcases YGK.1 hy with rfl|hy
    ·split at h3 <;> omega
    ·exact h2 _ (YGx _ hy)
def bump(up neg:Bool)(r:Nat):Nat:=if decide (r≠0)&&(up !=neg)then 1 else 0
theorem YzM{up:Bool}{x:Int}{d:Nat}(hd:0<d):rndT up x d=nsg (decide (x<0)) (x.natAbs/d+bump up (decide (x<0)) (x.natAbs%d)):=by
 have hm:=YGJ x.natAbs hd
 have e:=YGP x.natAbs d
 have pos:∀n:Nat,(n:Int)/(d:Int)=((n/d:Nat):Int):=fun n=>(Int.natCast_ediv n d).symm
 have neg:∀n:Nat,(-(n:Int))/(d:Int)= -(((n/d+if n%d=0 then 0 else 1:Nat)):Int):=fun n=>by
  have e:=YGP n d
  have hm:=YGJ n hd
  by_cases h0:n%d=0
  ·rw[if_pos h0]
   have:(n:Int)=((n/d:Nat):Int)*(d:Int):=by
    have:n=n/d*d:=by rw[YGj];omega
    exact_mod_cast this
   conv=>lhs;rw[this,<-Int.neg_mul]
   rw[Int.mul_ediv_cancel _ (by omega)];simp
  ·rw[if_neg h0]
   have hq:(n:Int)=(d:Int)*((n/d:Nat):Int)+((n%d:Nat):Int):=by exact_mod_cast e.symm
   apply Int.le_antisymm
   ·apply Int.le_of_lt_add_one
    rw[Int.ediv_lt_iff_lt_mul (by omega)]
    conv=>lhs;rw[hq]
    have hm:((n%d:Nat):Int)>0:=by omega
    generalize n%d=m at*
    generalize n/d=q at*
    push_cast
    grind
   ·rw[Int.le_ediv_iff_mul_le (by omega)]
    conv=>rhs;rw[hq]
    have hm:((n%d:Nat):Int)<d:=by omega
    generalize n%d=m at*
    generalize n/d=q at*
    push_cast
    grind
 obtain⟨n,hn⟩:∃n:Nat,n=x.natAbs:=⟨_,rfl⟩
 rw[<-hn]
 unfold rndT bump nsg
 by_cases hx:x<0
 ·have ex:x= -(n:Int):=by omega
  cases up
  ·simp only[hx,decide_true,if_true,YGC,if_false]
   rw[ex,neg n]
   by_cases h0:n%d=0 <;> simp [h0]
  ·simp only[hx,decide_true,if_true,bne_self_eq_false,Bool.and_false,YGC,if_false]
   rw[ex,Int.neg_neg,pos n];simp
 ·have ex:x=(n:Int):=by omega
  cases up
  ·simp only[hx,decide_false,YGC,if_false,bne_self_eq_false,Bool.and_false]
   rw[ex,pos n];simp
  ·simp only[hx,decide_false,YGC,if_false,if_true]
   rw[ex,neg n]
   by_cases h0:n%d=0 <;> simp [h0]
def Ye1(v:Int):List SV:=[.bool (decide (v<0)),.int .u64 ((v.natAbs/18446744073709551616:Nat):Int),.int .u64 ((v.natAbs%18446744073709551616:Nat):Int)]
def YuN(x:Int)(n:Bool)(h l:Int):Prop:=n=decide (x<0)/\h=((x.natAbs/18446744073709551616:Nat):Int)/\l=((x.natAbs%18446744073709551616:Nat):Int)
theorem Yu(x:Int):YuN x (decide (x<0)) ((x.natAbs/18446744073709551616:Nat):Int) ((x.natAbs%18446744073709551616:Nat):Int):=⟨rfl,rfl,rfl⟩
def big(x:Int):Prop:=x.natAbs<340282366920938463463374607431768211456
def fitF(lo hi:Int):Iv×Int:=if Ybg lo&&Ybg hi then((lo,hi),0)else((0,0),7)
def errI(e:Int):Iv×Int:=((0,0),e)
def addF(a b:Iv):Iv×Int:=if ivE [a,b]≠0 then errI (ivE [a,b])else fitF (a.1+b.1) (a.2+b.2)
def subF(a b:Iv):Iv×Int:=if ivE [a,b]≠0 then errI (ivE [a,b])else addF a (-b.2, -b.1)
def mulF(a b:Iv):Iv×Int:=if ivE [a,b]≠0 then errI (ivE [a,b])else Yd9 1 (a.1*b.1) [a.1*b.2,a.2*b.1,a.2*b.2]
def YgL(a b:Iv):Iv×Int:=Ybh (rndF false a.1 (if a.1<0 then b.1 else b.2)) (rndF true a.2 (if a.2<0 then b.2 else b.1))
def quoF(a b:Iv):Iv×Int:=if ivE [a,b]≠0 then errI (ivE [a,b])else if b.1<=0/\0<=b.2 then errI 9 else if b.2<0 then YgL (-a.2, -a.1) (-b.2, -b.1)else YgL a b
def sclF(a:Iv)(num den:Int):Iv×Int:=if ivE [a]≠0 then errI (ivE [a])else if den<1\/4611686018427387904<den\/num< -4611686018427387904\/4611686018427387904<num then errI 2 else Yd9 den (a.1*num) [a.2*num]
def piF(a:Iv):Iv×Int:=if ivE [a]≠0 then errI (ivE [a])else Yd9 1000000000000000000 (a.1*3141592653589793238) [a.1*3141592653589793239,a.2*3141592653589793238,a.2*3141592653589793239]
def Yd8(n k:Nat):Nat:=YbS (fun r=>decide (n<(r+1)^k)) (n+1) 0
def Ywl(n k:Nat):Nat:=if Yd8 n k^k<n then Yd8 n k+1 else Yd8 n k
def Yl6(a:Iv)(k:Int):Iv×Int:=if ivE [a]≠0 then errI (ivE [a])else if k<1\/62<k then errI 2 else if a.1<0 then errI 9 else(((Yd8 a.1.toNat k.toNat:Int),(Ywl a.2.toNat k.toNat:Int)),0)
theorem Yjz{n k r:Nat}(hk:0<k)(h1:r^k<=n)(h2:n<(r+1)^k):Yd8 n k=r:=by
 unfold Yd8
 have hr:r<=n:=YGg (by
  cases r with
  |zero=>exact YHk _
  |succ r=>exact YGg (YGu (YHr _).symm) (YGs (by omega) hk)) h1
 refine YgZ (fun j hj=>?_) (by omega) fun _=>decide_eq_true h2
 refine decide_eq_false ?_
 have:=YGp (show j+1<=r by omega) k
 omega
theorem YfE{n k:Nat}(hk:0<k):Yd8 n k^k<=n/\n<(Yd8 n k+1)^k:=by
 have ex:∀m:Nat,∃r,r^k<=m/\m<(r+1)^k:=by
  intro m
  induction m with
  |zero=>exact⟨0,by rw[Nat.zero_pow hk];omega,by simp⟩
  |succ m ih=>
   obtain⟨r,h1,h2⟩:=ih
   rcases YGz (m+1) ((r+1)^k)with h|h
   ·exact⟨r,by omega,h⟩
   ·refine⟨r+1,h,?_⟩
    have:(r+1)^k<(r+1+1)^k:=Nat.pow_lt_pow_left (by omega) (by omega)
    omega
 obtain⟨r,h1,h2⟩:=ex n
 rw[Yjz hk h1 h2]
 exact⟨h1,h2⟩
theorem Yjx{t:Int}(h:(rndB t).2=true):(rndB t).1=t:=by
 unfold rndB at h⊢
 split
 ·rfl
 ·rename_i hc;rw[if_neg hc]at h;cases h
theorem Yn6{a b:Int×Bool}(h:(Ybh a b).2=0):(Ybh a b).1=(a.1,b.1)/\a.2=true/\b.2=true:=by
 unfold Ybh at h⊢
 split
 ·rename_i hc
  rw[YGi]at hc
  exact⟨rfl,hc⟩
 ·rename_i hc;rw[if_neg hc]at h;cases h
theorem YdR{x:Int}(h0: -4611686018427387904<=x)(h1:x<=4611686018427387904):Ybg x=true:=by
 unfold Ybg;rw[decide_eq_true h0,decide_eq_true h1];rfl
theorem okE1{a:Iv}(h0: -4611686018427387904<=a.1)(h1:a.1<=a.2)(h2:a.2<=4611686018427387904):ivE [a]=0:=by
 rw[ivE,if_pos (by simp [YdR (x:=a.1) h0 (by omega),YdR (x:=a.2) (by omega) h2]),if_pos (by simpa using h1)]
theorem YeM{t:Int}(h0: -4611686018427387904<=t)(h1:t<=4611686018427387904):rndB t=(t,true):=by rw[rndB,if_pos ⟨h0,h1⟩]
theorem YnZ{a:Iv}{n d:Int}(h0:0<=a.1)(h1:a.1<=a.2)(h2:a.2<=4000000000000)(hn:0<=n)(hn1:n<=100000)(hd:1<=d)(hd1:d<=100000):(sclF a n d).2=0:=by
 rw[sclF,if_neg (by rw[okE1 (by omega) h1 (by omega)];decide),if_neg (by omega)]
 have k1:a.1*n<=a.2*n:=YGE h1 hn
 have k0:0<=a.1*n:=YHv h0 hn
 have k2:a.2*n<=4000000000000*100000:=YbE h2 hn1 (by omega) (by decide)
 have q:∀x:Int,0<=x->x<=400000000000000000->rndB (x/d)=(x/d,true)/\rndB (-((-x)/d))=(-((-x)/d),true):=fun x hx hx1=>by
  have m1:x/d<=x:=Int.ediv_le_self _ hx
  have m0:0<=x/d:=Int.ediv_nonneg hx (by omega)
  have m2: -x<=(-x)/d:=by
   rw[Int.le_ediv_iff_mul_le (by omega)]
   have:x*1<=x*d:=Int.mul_le_mul_of_nonneg_left hd hx
   rw[Int.neg_mul];omega
  have m3:(-x)/d<=0:=Int.ediv_nonpos_of_nonpos_of_neg (by omega) (by omega)
  exact⟨YeM (by omega) (by omega),YeM (by omega) (by omega)⟩
 unfold Yd9 rndF rndT
 simp only[lowI,Ybc,List.foldl_cons,List.foldl_nil,if_true,YGC,if_false]
 rw[(q _ (by split <;> omega) (by split <;> omega)).1,(q _ (by split <;> omega) (by split <;> omega)).2]
 rfl
structure Bdy where
 kind:Int
 bottom:Int
 top:Int
 mouth:Int
 cut:Int
def inF(n a b:Int):Bool:=decide (a<=n)&&decide (n<=b)
def Yld(b:Bdy):Bool:=if b.kind=3 then decide (b.top<b.bottom)else decide (b.top=b.bottom)
def chkB(b:Bdy):Int:=
 if(inF b.kind 1 3&&Yld b)=true then
  if(inF b.bottom 1000 500000&&inF b.top 1000 500000&&inF b.mouth 1 (IntKind.i64.wrap (4*b.bottom))&&inF b.cut 1 (IntKind.i64.wrap (4*b.bottom)))=true then 0 else 2
 else 2
def YyB(a b:Int):Int:=if a=0 then b else a
def YB3(b:Bdy):Iv:=(Yl6 (mulF (b.mouth,b.mouth) (b.cut,b.cut)).1 2).1
def Ydk(b:Bdy):Iv:=(quoF (sclF (mulF (b.bottom,b.bottom) (b.bottom,b.bottom)).1 575 1000).1 (YB3 b)).1
def endF(b:Bdy):Iv:=if b.kind=2 then(0,0)else(sclF (b.top,b.top) 30665 100000).1
def Ycf(b:Bdy):Iv:=(addF (Ydk b) (endF b)).1
def YfZ(b:Bdy):Int:=if b.kind=2 then 250 else 500
def wayF(b:Bdy)(t:Int):Iv×Int:=sclF (Yax t).1 (YfZ b) 1
def begE(b:Bdy)(x:Iv)(least most t:Int):Int:=
 if chkB b≠0 then chkB b else if(Yax t).2≠0\/x.1<least\/x.2<x.1\/most<x.2 then 2 else 0
def Yhy(x:Iv)(e most:Int):Iv×Int:=if e≠0\/x.1<1\/most<x.2 then((0,0),7)else(x,0)
def lenF(b:Bdy)(x:Iv)(t:Int):Iv×Int:=
 if begE b x 1000 20000000 t≠0 then((0,0),begE b x 1000 20000000 t)
 else Yhy (subF (quoF (wayF b t).1 x).1 (Ycf b)).1 (YyB (YyB (wayF b t).2 (quoF (wayF b t).1 x).2) (subF (quoF (wayF b t).1 x).1 (Ycf b)).2) 12000000
def pitF(b:Bdy)(x:Iv)(t:Int):Iv×Int:=
 if begE b x 1 12000000 t≠0 then((0,0),begE b x 1 12000000 t)
 else Yhy (quoF (wayF b t).1 (addF x (Ycf b)).1).1 (YyB (wayF b t).2 (quoF (wayF b t).1 (addF x (Ycf b)).1).2) 200000000
theorem leE1{a:Iv}(h:ivE [a]=0):a.1<=a.2:=by
 unfold ivE at h
 split at h
 ·split at h
  ·rename_i h2
   simpa using h2
  ·cases h
 ·cases h
theorem scl_1{a:Iv}{n:Int}(hn:0<=n)(h:(sclF a n 1).2=0):(sclF a n 1).1=(a.1*n,a.2*n)/\a.1<=a.2:=by
 unfold sclF at h⊢
 by_cases h1:ivE [a]≠0
 ·rw[if_pos h1]at h;exact absurd h h1
 ·rw[if_neg h1]at h⊢
  have hle:=leE1 (by simpa using h1)
  by_cases h2:(1:Int)<1\/4611686018427387904<(1:Int)\/n< -4611686018427387904\/4611686018427387904<n
  ·rw[if_pos h2]at h;cases h
  ·rw[if_neg h2]at h⊢
   unfold Yd9 at h⊢
   obtain⟨e,k1,k2⟩:=Yn6 h
   rw[e]
   have hm:a.1*n<=a.2*n:=YGE hle hn
   unfold rndF at k1 k2⊢
   rw[Yjx k1,Yjx k2]
   refine⟨?_,hle⟩
   simp only[rndT,lowI,Ybc,List.foldl_cons,List.foldl_nil,if_true,YGC,if_false,Int.ediv_one,Int.neg_neg]
   congr 1
   ·split <;> omega
   ·split <;> omega
theorem okE2{a b:Iv}(h0: -4611686018427387904<=a.1)(h1:a.1<=a.2)(h2:a.2<=4611686018427387904)(k0: -4611686018427387904<=b.1)(k1:b.1<=b.2)(k2:b.2<=4611686018427387904):ivE [a,b]=0:=by
 rw[ivE,if_pos (by simp [YdR (x:=a.1) h0 (by omega),YdR (x:=a.2) (by omega) h2,YdR (x:=b.1) k0 (by omega),YdR (x:=b.2) (by omega) k2]),if_pos (by simp [h1,k1])]
theorem YrN{x y:Int}(hx:0<=x)(hx1:x<=2000000)(hy:0<=y)(hy1:y<=2000000):mulF (x,x) (y,y)=((x*y,x*y),0):=by
 have h0:0<=x*y:=YHv hx hy
 have h1:x*y<=2000000*2000000:=YbE hx1 hy1 hx (by decide)
 rw[mulF,if_neg (by rw[okE2 (by simp only;omega) (Int.le_refl _) (by simp only;omega) (by simp only;omega) (Int.le_refl _) (by simp only;omega)];decide)]
 simp only[Yd9,lowI,Ybc,List.foldl_cons,List.foldl_nil,Int.lt_irrefl,if_false,ite_self,rndF,rndT,if_true,YGC,Int.ediv_one,Int.neg_neg]
 rw[YeM (by omega) (by omega)]
 rfl
theorem Yqp{b:Bdy}(h:chkB b=0):(1<=b.kind/\b.kind<=3)/\(1000<=b.bottom/\b.bottom<=500000)/\(1000<=b.top/\b.top<=500000)/\(1<=b.mouth/\b.mouth<=2000000)/\1<=b.cut/\b.cut<=2000000:=by
 unfold chkB at h
 split at h
 ·rename_i h1
  split at h
  ·rename_i h2
   simp only[inF,YGi,decide_eq_true_eq]at h1 h2
   obtain⟨⟨⟨b1,b2⟩,b3⟩,b4⟩:=h2
   rw[YGd _ (by omega)]at b3 b4
   exact⟨h1.1,b1,b2,⟨b3.1,by omega⟩,b4.1,by omega⟩
  ·cases h
 ·cases h
theorem YiG{t:Int->Bool}:∀(f:Nat)(a b:Int),a<b->a<=bisL f t a b/\bisL f t a b<b
 |0,a,b,h=>⟨Int.le_refl _,h⟩
 |f+1,a,b,h=>by
  rw[bisL]
  split
  ·split
   ·have:=YiG (t:=t) f (a+(b-a)/2) b (by omega);omega
   ·have:=YiG (t:=t) f a (a+(b-a)/2) (by omega);omega
  ·exact⟨Int.le_refl _,h⟩
theorem Yu1(s:Int)(l:List (Int×Int))(den:Int):0<=(YcS s l den).1/\(YcS s l den).1<=1000000000000:=by
 unfold YcS
 split
 ·exact⟨Int.le_refl _,by decide⟩
 ·have:=YiG (t:=isF (l++[(s,den)]) den) 64 0 1000000000001 (by decide)
  simp only;omega
theorem Yzb(s:Int)(l:List (Int×Int))(den:Int):0<=(pspF s l den).1/\(pspF s l den).1<=(pspF s l den).2/\(pspF s l den).2<=1000000000001:=by
 obtain⟨h0,h1⟩:=Yu1 s l den
 unfold pspF
 split
 ·exact⟨h0,Int.le_refl _,by simp only;omega⟩
 ·rw[YGd _ (by omega)]
  simp only;omega
theorem Ylh(t:Int):0<=(Yax t).1.1/\(Yax t).1.1<=(Yax t).1.2/\(Yax t).1.2<=1000000000001:=by
 unfold Yax
 split
 ·exact Yzb _ _ _
 ·decide
theorem YkW(b:Bdy):0<=YfZ b/\YfZ b<=100000:=by unfold YfZ;split <;> decide
theorem Ys3(b:Bdy)(t:Int):(wayF b t).2=0:=by
 obtain⟨h0,h1,h2⟩:=Ylh t
 obtain⟨p0,p1⟩:=YkW b
 exact YnZ h0 h1 (by omega) p0 p1 (by decide) (by decide)
theorem YF4(b:Bdy)(t:Int):0<=(wayF b t).1.1/\(wayF b t).1.1<=(wayF b t).1.2/\(wayF b t).1.2<=1000000000001*500:=by
 obtain⟨h0,h1,h2⟩:=Ylh t
 obtain⟨p0,p1⟩:=YkW b
 have e:=(scl_1 p0 (Ys3 b t)).1
 have e:(wayF b t).1=((Yax t).1.1*YfZ b,(Yax t).1.2*YfZ b):=e
 rw[e]
 have hp:YfZ b<=500:=by unfold YfZ;split <;> decide
 exact⟨YHv h0 p0,YGE h1 p0,YbE h2 hp (by omega) (by decide)⟩
theorem YDO{a b:Iv}(h0:0<=a.1)(h1:a.1<=a.2)(h2:a.2<=4000000000000000)(k0:1<=b.1)(k1:b.1<=b.2)(k2:b.2<=4000000000000000):(quoF a b).2=0:=by
 have q:∀x d:Int,1<=d->0<=x->x<=400000000000000000->rndB (x/d)=(x/d,true)/\rndB (-((-x)/d))=(-((-x)/d),true):=fun x d hd hx hx1=>by
  have m1:x/d<=x:=Int.ediv_le_self _ hx
  have m0:0<=x/d:=Int.ediv_nonneg hx (by omega)
  have m2: -x<=(-x)/d:=by
   rw[Int.le_ediv_iff_mul_le (by omega)]
   have:x*1<=x*d:=Int.mul_le_mul_of_nonneg_left hd hx
   rw[Int.neg_mul];omega
  have m3:(-x)/d<=0:=Int.ediv_nonpos_of_nonpos_of_neg (by omega) (by omega)
  exact⟨YeM (by omega) (by omega),YeM (by omega) (by omega)⟩
 rw[quoF,if_neg (by rw[okE2 (by omega) h1 (by omega) (by omega) k1 (by omega)];decide),if_neg (by omega),if_neg (by omega)]
 unfold YgL rndF rndT
 rw[if_neg (show¬a.1<0 by omega),if_neg (show¬a.2<0 by omega)]
 simp only[if_true,YGC,if_false]
 rw[(q a.1 b.2 (by omega) h0 (by omega)).1,(q a.2 b.1 k0 (by omega) (by omega)).2]
 rfl
def v49:VF:=⟨9,[.tmp 2],(ZR [u1 2 .mov [.cn (.bool false)]] (ZR [Zm 3 0,Zq 4 .geq 3 (-4611686018427387904),Zm 5 4,Zg 6 5 true 0,u2 7 5 true (.cmp .leq) [.tm 6,.cn (.int .i64 4611686018427387904)],u1 8 .and [.tm 5,.tm 7],Zm 2 8] .ret))⟩
theorem YFh:Yg YGc Tryz.f49=some v49:=by kernel_rfl
def v46:VF:=⟨36,[.tmp 2],(ZR [Zi 2 0] (.seq (ZR [Zm 7 0,Zl 8 7,Zi 9 0] (.block 0 (.loop (ZR [Zr 10 .lss 9 8] (.seq (ZC 10 .skip (.exit 0)) (.seq (.block 1 (ZR [Zx 11 2 7 9,Zt 12 2 11,Zn 4,Zs 2 4 12] (ZR [Za 13 0 4,Zf 14 1 13,Zc 15 49 14,u1 16 .not [.tm 15],Zm 17 16,Zj 18 17 false 1 4,Zh 19 17 false 1 18,u2 20 17 false (.call 49) [.tm 19],u2 21 17 false .not [.tm 20],u1 22 .or [.tm 17,.tm 21]] (ZC 22 (ZR [Zi 2 7] .ret) .skip)))) (.region [Zp 23 9 1,Zm 9 23]))))))) (.seq (ZR [Zm 24 0,Zl 25 24,Zi 26 0] (.block 2 (.loop (ZR [Zr 27 .lss 26 25] (.seq (ZC 27 .skip (.exit 2)) (.seq (.block 3 (ZR [Zx 28 2 24 26,Zt 29 2 28,Zn 6,Zs 2 6 29] (ZR [Za 30 0 6,Zf 31 1 30,Za 32 1 6,Zf 33 1 32,Zr 34 .gtr 31 33] (ZC 34 (ZR [Zi 2 2] .ret) .skip)))) (.region [Zp 35 26 1,Zm 26 35]))))))) (ZR [Zi 2 0] .ret))))⟩
theorem YFe:Yg YGc Tryz.f46=some v46:=by kernel_rfl
def v81:VF:=⟨8,[.tmp 2],(ZR [u1 2 .mov [.cn (.int .u64 0)]] (ZR [Zm 3 0,Zm 4 0,u1 5 .neg [.tm 4],u1 6 .max [.tm 3,.tm 5],u1 7 (.conv .u64) [.tm 6],Zm 2 7] .ret))⟩
theorem YFL:Yg YGc Tryz.f81=some v81:=by kernel_rfl
def v48:VF:=⟨29,[.cell 4 true 3],(ZR [u1 4 (.alloc [(.bool false),(.int .u64 0),(.int .u64 0)]) []] (ZR [Zm 8 0,Zc 9 81 8,Zm 10 1,Zc 11 81 10,Zd 12 80 9 11,Zm 7 12,Ze 13 0 7,Ze 14 1 7,Zm 5 13,Zm 6 14] (ZR [Zm 15 0,Zq 16 .lss 15 0,Zm 17 1,Zq 18 .lss 17 0,u1 19 (.eqb true) [.tm 16,.tm 18],Zm 20 19,Zg 21 20 true 5,Zg 22 20 true 6,u2 23 20 true (.bit .or) [.tm 21,.tm 22],u2 24 20 true (.cmp .neq) [.tm 23,.cn (.int .u64 0)],u1 25 .and [.tm 20,.tm 24],Zm 26 5,Zm 27 6,u1 28 (.build [(.bool false),(.int .u64 0),(.int .u64 0)] [(0,1),(1,1),(2,1)]) [.tm 25,.tm 26,.tm 27],Zs 3 4 28] .ret)))⟩
theorem YFg:Yg YGc Tryz.f48=some v48:=by kernel_rfl
def v78:VF:=⟨39,[.tmp 4],(ZR [u1 2 .box [.tm 0],u1 3 .box [.tm 1],u1 4 .mov [.cn (.bool false)]] (.seq (ZR [Zt 6 3 2,Zt 7 3 3,u1 8 (.eqv false [false,true,true]) [.tm 6,.tm 7]] (ZC 8 (ZR [u1 4 .mov [.cn (.bool false)]] .ret) .skip)) (.seq (ZR [Za 9 0 2,Zf 10 1 9,Za 11 0 3,Zf 12 1 11,u1 13 (.eqb true) [.tm 10,.tm 12]] (ZC 13 (ZR [Za 14 0 2,Zf 15 1 14,Zm 4 15] .ret) .skip)) (ZR [Za 16 1 2,Zf 17 1 16,Za 18 1 3,Zf 19 1 18,Zr 20 .lss 17 19,Zm 21 20,Zj 22 21 false 1 2,Zh 23 21 false 1 22,Zj 24 21 false 1 3,Zh 25 21 false 1 24,u2 26 21 false (.cmp .eql) [.tm 23,.tm 25],Zg 27 21 false 26,Zj 28 27 true 2 2,Zh 29 27 true 1 28,Zj 30 27 true 2 3,Zh 31 27 true 1 30,u2 32 27 true (.cmp .lss) [.tm 29,.tm 31],u2 33 21 false .and [.tm 27,.tm 32],u1 34 .or [.tm 21,.tm 33],Zm 5 34] (ZR [Zm 35 5,Za 36 0 2,Zf 37 1 36,u1 38 (.eqb true) [.tm 35,.tm 37],Zm 4 38] .ret)))))⟩
theorem YFI:Yg YGc Tryz.f78=some v78:=by kernel_rfl
def v79:VF:=⟨56,[.tmp 6,.tmp 7],(ZR [u1 3 .box [.tm 0],Zi 6 0,u1 7 .mov [.cn (.bool false)]] (.seq (ZR [Za 10 1 3,Zf 11 1 10,Zm 12 1,Zr 13 .geq 11 12] (ZC 13 (ZR [Zi 6 0,u1 7 .mov [.cn (.bool false)]] .ret) .skip)) (ZR [Za 15 1 3,Zf 16 1 15,Za 17 2 3,Zf 18 1 17,Zm 19 1,u1 20 (.call 109) [.tm 16,.tm 18,.tm 19],Zm 14 20,Ze 21 0 14,Ze 22 1 14,Zm 8 21,Zm 9 22] (.seq (ZR [Zm 23 9,u1 24 (.cmp .neq) [.tm 23,.cn (.int .u64 0)],Zm 25 24,Zg 26 25 true 2,Zj 27 25 true 0 3,Zh 28 25 true 1 27,u2 29 25 true (.eqb true) [.tm 26,.tm 28],u1 30 .and [.tm 25,.tm 29]] (ZC 30 (.region [Zm 31 8,u1 32 (.ari .add) [.tm 31,.cn (.int .u64 1)],Zm 8 32]) .skip)) (.seq (ZR [Zm 33 8,u1 34 (.cmp .gtr) [.tm 33,.cn (.int .u64 4611686018427387904)],Zm 35 34,Zg 36 35 false 8,u2 37 35 false (.cmp .eql) [.tm 36,.cn (.int .u64 0)],Zg 38 35 false 37,Zg 39 38 true 9,u2 40 38 true (.cmp .neq) [.tm 39,.cn (.int .u64 0)],u2 41 35 false .and [.tm 38,.tm 40],Zg 42 35 false 41,Zg 43 42 true 2,Zj 44 42 true 0 3,Zh 45 42 true 1 44,u2 46 42 true (.eqb true) [.tm 43,.tm 45],u2 47 35 false .and [.tm 42,.tm 46],u1 48 .or [.tm 35,.tm 47]] (ZC 48 (ZR [Zi 6 0,u1 7 .mov [.cn (.bool false)]] .ret) .skip)) (.seq (ZR [Za 49 0 3,Zf 50 1 49] (ZC 50 (ZR [Zm 51 8,u1 52 (.conv .i64) [.tm 51],u1 53 .neg [.tm 52],Zm 6 53,u1 7 .mov [.cn (.bool true)]] .ret) .skip)) (ZR [Zm 54 8,u1 55 (.conv .i64) [.tm 54],Zm 6 55,u1 7 .mov [.cn (.bool true)]] .ret)))))))⟩
theorem YFJ:Yg YGc Tryz.f79=some v79:=by kernel_rfl
def v47:VF:=⟨58,[.cell 4 true 2,.tmp 5],(ZR [Zn 4,Zi 5 0] (.seq (.draw [(6,.box [(.bool false),(.int .u64 0),(.int .u64 0)]),(7,.box [(.bool false),(.int .u64 0),(.int .u64 0)])] [Zu 14 1,w1 15 (.idxAddr 3) [.tm 14,.cn (.int .i64 0)],Zw 16 3 15,Zu 17 1,w1 18 (.idxAddr 3) [.tm 17,.cn (.int .i64 0)],Zw 19 3 18,⟨Zs 3 6 16,[.tm 18]⟩,ZS 3 7 19]) (.seq (ZR [Zm 20 1,u1 21 (.slice 3 true false) [.tm 20,.cn (.int .i64 1)],Zl 22 21,Zi 23 0] (.block 0 (.loop (ZR [Zr 24 .lss 23 22] (.seq (ZC 24 .skip (.exit 0)) (.seq (.block 1 (ZR [Zx 25 3 21 23,Zt 26 3 25,u1 9 (.alloc [(.bool false),(.int .u64 0),(.int .u64 0)]) [],Zs 3 9 26] (.seq (ZR [Zt 27 3 9,Zt 28 3 6,Zd 29 78 27 28] (ZC 29 (.region [Zt 30 3 9,Zs 3 6 30]) .skip)) (ZR [Zt 31 3 7,Zt 32 3 9,Zd 33 78 31 32] (ZC 33 (.region [Zt 34 3 9,Zs 3 7 34]) .skip))))) (.region [Zp 35 23 1,Zm 23 35]))))))) (ZR [Zt 37 3 6,Zm 38 0,u1 39 (.call 79) [.tm 37,.tm 38,.cn (.bool false)],Zm 36 39,Ze 40 0 36,Ze 41 1 36,Zm 10 40,Zm 11 41] (ZR [Zt 43 3 7,Zm 44 0,u1 45 (.call 79) [.tm 43,.tm 44,.cn (.bool true)],Zm 42 45,Ze 46 0 42,Ze 47 1 42,Zm 12 46,Zm 13 47] (.seq (ZR [Zm 48 11,u1 49 .not [.tm 48],Zm 50 49,Zg 51 50 false 13,u2 52 50 false .not [.tm 51],u1 53 .or [.tm 50,.tm 52]] (ZC 53 (ZR [u1 54 (.build [(.int .i64 0),(.int .i64 0)] []) [],Zs 2 4 54,Zi 5 7] .ret) .skip)) (ZR [Zm 55 10,Zm 56 12,u1 57 (.build [(.int .i64 0),(.int .i64 0)] [(0,1),(1,1)]) [.tm 55,.tm 56],Zs 2 4 57,Zi 5 0] .ret)))))))⟩
theorem YFf:Yg YGc Tryz.f47=some v47:=by kernel_rfl
def v97:VF:=⟨18,[.cell 4 true 2,.tmp 5],(ZR [Zn 4,Zi 5 0] (.seq (ZR [Zm 6 0,Zc 7 49 6,u1 8 .not [.tm 7],Zm 9 8,Zg 10 9 false 1,u2 11 9 false (.call 49) [.tm 10],u2 12 9 false .not [.tm 11],u1 13 .or [.tm 9,.tm 12]] (ZC 13 (ZR [u1 14 (.build [(.int .i64 0),(.int .i64 0)] []) [],Zs 2 4 14,Zi 5 7] .ret) .skip)) (ZR [Zm 15 0,Zm 16 1,u1 17 (.build [(.int .i64 0),(.int .i64 0)] [(0,1),(1,1)]) [.tm 15,.tm 16],Zs 2 4 17,Zi 5 0] .ret)))⟩
theorem YFZ:Yg YGc Tryz.f97=some v97:=by kernel_rfl
def numC:Ctr:={ alias:=false,of:=fun l=>match l with| [.int .i64 n]=> .fin (.bool (Ybg n)) [] |_=>noC}
def ivlC:Ctr:={ alias:=false,of:=fun a=>match a with
 | [.vs _ _ n sz get]=> .ex (List Iv) fun l=> .pre (lsP 2 enc2 n sz get l/\l.length<=1000000) (.fin (.int .i64 (ivE l)) [])
 |_=>noC}
def sizC:Ctr:={ alias:=false,of:=fun l=>match l with
 | [.int .i64 n]=> .pre (-9223372036854775808<=n/\n<=9223372036854775807) (.fin (.int .u64 (n.natAbs:Int)) [])
 |_=>noC}
def timC:Ctr:={ alias:=false,of:=fun l=>match l with
 | [.int .i64 a,.int .i64 b]=> .pre ((-9223372036854775808<=a/\a<=9223372036854775807)/\ -9223372036854775808<=b/\b<=9223372036854775807) (.fin (.agg (Ye1 (a*b))) [])
 |_=>noC}
def lessC:Ctr:={ alias:=false,of:=fun l=>match l with
 | [.agg [.bool n,.int .u64 h,.int .u64 lo],.agg [.bool n',.int .u64 h',.int .u64 lo']]=> .ex Int fun x=> .ex Int fun y=> .pre (YuN x n h lo/\YuN y n' h' lo') (.fin (.bool (decide (x<y))) [])
 |_=>noC}
def overC:Ctr:={ alias:=false,of:=fun l=>match l with
 | [.agg [.bool n,.int .u64 h,.int .u64 lo],.int .u64 d,.bool up]=> .ex Int fun x=> .pre (YuN x n h lo/\big x/\0<d/\d<=18446744073709551615) (.fin (.tup [.int .i64 (rndF up x d).1,.bool (rndF up x d).2]) [])
 |_=>noC}
def spanC:Ctr:={ alias:=false,of:=fun l=>match l with
 | [.int .u64 d,.vs _ _ n sz get]=> .ex Int fun x=> .ex (List Int) fun r=> .pre (lsP 3 Ye1 n sz get (x::r)/\r.length<=1000/\(∀y∈x::r,big y)/\0<d/\d<=18446744073709551615) (.fin (.tup [.agg (enc2 (Yd9 d x r).1),.int .i64 (Yd9 d x r).2]) [])
 |_=>noC}
def fitC:Ctr:={ alias:=false,of:=fun l=>match l with
 | [.int .i64 a,.int .i64 b]=> .fin (.tup [.agg (enc2 (fitF a b).1),.int .i64 (fitF a b).2]) []
 |_=>noC}
def P0:Env:={ ct:=fun _=>none,fn:=fun _=>none,meth:=fun _ _=>none}
theorem YBs:Yq YGc P0:=by
 refine⟨fun f c h=>?_,fun f vf h=>?_,(fun _ _ _ h=>by cases h),by kernel_rfl,(fun _ h=>by cases h)⟩
 ·cases h
 ·cases h
theorem YnF:numC.ok YGc 49:=by
 refine Yb Tryz.func49 YFh YBs 100 numC fun args k h=>⟨args,?_⟩
 simp only[numC]at h
 split at h
 ·refine⟨by simp [leL,le],?_⟩
  (try dsimp only[v49,go_sem,reduceIte])
  (try simp only[Yc,YGa,YF9,reduceCtorEq,YF8])
  exact YK h
 ·exact h.1.elim
theorem Ywq:sizC.ok YGc 81:=by
 refine Yb Tryz.func81 YFL YBs 100 sizC fun args k h=>⟨args,?_⟩
 simp only[sizC]at h
 split at h
 ·rename_i n
  obtain⟨⟨h0,h1⟩,h⟩:=h
  refine⟨by simp [leL,le],?_⟩
  (try dsimp only[v81,go_sem,reduceIte])
  (try simp only[Yc,YGa,YF9,reduceCtorEq,YF8])
  have e:IntKind.u64.wrap (max n (IntKind.i64.wrap (0-n)))=(n.natAbs:Int):=by
   rcases Int.lt_or_le n (-9223372036854775807)with h'|h'
   ·obtain rfl:n= -9223372036854775808:=by omega
    decide
   ·rw[YGd _ (by omega),YGF _ (by omega)];omega
  rw[e]
  exact Yf h
 ·exact h.1.elim
def P1:Env:={ ct:=fun n=>match n with|49=>some numC|81=>some sizC|80=>some mul64C|109=>some div64C|_=>none,fn:=fun _=>none,meth:=fun _ _=>none}
theorem YwD:P1.ct 49=some numC:=rfl
theorem YwF:P1.ct 81=some sizC:=rfl
theorem YwE:P1.ct 80=some mul64C:=rfl
theorem Ytb:P1.ct 109=some div64C:=rfl
theorem Yo4:Yq YGc P1:=by
 refine⟨fun f c h=>?_,fun f vf h=>?_,(fun _ _ _ h=>by cases h),by kernel_rfl,(fun _ h=>by cases h)⟩
 ·simp only[P1]at h
  split at h
  ·cases h;exact⟨YnF,Tryz.f49,Tryz.func49,by kernel_rfl,by kernel_rfl⟩
  ·cases h;exact⟨Ywq,Tryz.f81,Tryz.func81,by kernel_rfl,by kernel_rfl⟩
  ·cases h;exact⟨Ye3,Tryz.f80,Tryz.func80,by kernel_rfl,by kernel_rfl⟩
  ·cases h;exact⟨YiQ,Tryz.f109,Tryz.func109,by kernel_rfl,by kernel_rfl⟩
  ·cases h
 ·cases h
theorem Ynv:ivlC.ok YGc 46:=by
 refine Yb Tryz.func46 YFe Yo4 400 ivlC fun args k h=>?_
 simp only[ivlC]at h
 split at h
 ·rename_i tt z n sz get
  obtain⟨l,⟨⟨rfl,rfl,hg⟩,hmax⟩,h⟩:=h
  refine⟨[.vs tt z l.length 2 (fun k=>enc2 (l.getD k default))],by simpa [leL,le]using hg,?_⟩
  (try dsimp only[v46,enc2,go_sem,reduceIte])
  (try simp only[Yc,YGa,YF9,reduceCtorEq,YF8])
  refine Loop.keep [0,6,0,0] Nat (fun i=>[(9,.int .i64 i)]) (fun _=>[]) [] (fun i=>i<=l.length/\∀j,j<i->(Ybg (l.getD j default).1&&Ybg (l.getD j default).2)=true) (fun i=>l.length-i) ?_ ?_
  ·refine⟨0,⟨YHk _,fun j h=>by omega⟩,?_⟩
   (try dsimp only[go_sem,reduceIte])
   simp only[Ya]
   simp
  ·rintro i ⟨hi,ha⟩
   (try dsimp only[YwD,numC,enc2,YGb,go_sem,reduceIte])
   (try simp only[Yc,YGa,YF9,reduceCtorEq,YF8])
   refine⟨fun hlt=>⟨⟨by omega,hlt⟩,fun hb=>Yf ?_,fun hb=>?_⟩,fun hge=>?_⟩
   ·have e:=Yrf (l:=l) (i:=i) (by omega) (by rw[<-YHt,YGA]at hb;exact hb)
    rw[e]at h;exact h
   ·rw[<-YHt]at hb
    refine⟨i+1,⟨by omega,fun j hj=>?_⟩,by omega,?_⟩
    ·rcases YGz j i with h'|h'
     ·exact ha j h'
     ·obtain rfl:j=i:=by omega
      simpa using hb
    ·have hw:=Yed (i:=i) (n:=l.length) (by omega) (by omega)
     simp only[hw,Ya] <;> simp
   ·obtain rfl:i=l.length:=by omega
    refine Loop.keep [0,23,0,0] Nat (fun i=>[(26,.int .i64 i)]) (fun _=>[]) [] (fun i=>i<=l.length/\∀j,j<i->(l.getD j default).1<=(l.getD j default).2) (fun i=>l.length-i) ?_ ?_
    ·refine⟨0,⟨YHk _,fun j h=>by omega⟩,?_⟩
     (try dsimp only[go_sem,reduceIte])
     simp only[Ya]
     simp
    ·rintro i ⟨hi,hc⟩
     (try dsimp only[enc2,YGb,go_sem,reduceIte])
     (try simp only[Yc,YGa,YF9,reduceCtorEq,YF8])
     refine⟨fun hlt=>⟨⟨by omega,hlt⟩,fun hb=>Yf ?_,fun hb=>?_⟩,fun hge=>?_⟩
     ·have e:=YCP ha (i:=i) (by omega) (by omega)
      rw[e]at h;exact h
     ·refine⟨i+1,⟨by omega,fun j hj=>?_⟩,by omega,?_⟩
      ·rcases YGz j i with h'|h'
       ·exact hc j h'
       ·obtain rfl:j=i:=by omega
        omega
      ·have hw:=Yed (i:=i) (n:=l.length) (by omega) (by omega)
       simp only[hw,Ya] <;> simp
     ·obtain rfl:i=l.length:=by omega
      rw[YCO ha hc]at h
      exact Yf h
 ·exact h.1.elim
theorem Ywt:timC.ok YGc 48:=by
 refine Yb Tryz.func48 YFg Yo4 200 timC fun args k h=>⟨args,?_⟩
 simp only[timC]at h
 split at h
 ·rename_i a b
  obtain⟨⟨ha,hb⟩,h⟩:=h
  refine⟨by simp [leL,le],?_⟩
  (try dsimp only[v48,YwF,YwE,sizC,mul64C,go_sem,reduceIte])
  (try simp only[Yc,YGa,YF9,reduceCtorEq,YF8])
  obtain⟨P,hP⟩:∃P,P=a.natAbs*b.natAbs:=⟨_,rfl⟩
  have hPb:P<=9223372036854775808*9223372036854775808:=by rw[hP];exact YGB (by omega) (by omega)
  have e0:(a.natAbs:Int)*(b.natAbs:Int)=(P:Int):=by rw[hP];exact(YG1 _ _).symm
  have e1:(P:Int)/18446744073709551616=((P/18446744073709551616:Nat):Int):=by omega
  have e2:(P:Int)%18446744073709551616=((P%18446744073709551616:Nat):Int):=by omega
  rw[e0,e1,e2,Yub (by omega) (by omega)]
  refine⟨ha,hb,⟨⟨by omega,by omega⟩,by omega,by omega⟩,by decide,by decide,?_⟩
  have e3:(a*b).natAbs=P:=by rw[hP,Int.natAbs_mul]
  have e4:(!(decide (a<0)==decide (b<0))&& !decide (((P/18446744073709551616||| P%18446744073709551616:Nat):Int)=0))=decide (a*b<0):=by
   have z:decide (((P/18446744073709551616||| P%18446744073709551616:Nat):Int)=0)=decide (P=0):=by
    congr 1
    apply propext
    have:= @Nat.or_eq_zero_iff (P/18446744073709551616) (P%18446744073709551616)
    omega
   rw[z]
   have hz:P=0↔a=0\/b=0:=by rw[hP,Nat.mul_eq_zero];omega
   rcases Int.lt_trichotomy a 0 with h1|h1|h1 <;> rcases Int.lt_trichotomy b 0 with h2|h2|h2
   ·have:=Int.mul_pos_of_neg_of_neg h1 h2
    simp [h1,h2];omega
   ·subst h2;simp [hz]
   ·have:=Int.mul_neg_of_neg_of_pos h1 h2
    have hb':¬b<0:=by omega
    simp [h1,hb',this,hz];omega
   ·subst h1;simp [hz]
   ·subst h1;simp [hz]
   ·subst h1;simp [hz]
   ·have:=Int.mul_neg_of_pos_of_neg h1 h2
    have ha':¬a<0:=by omega
    simp [h2,ha',this,hz];omega
   ·subst h2;simp [hz]
   ·have:=Int.mul_pos h1 h2
    have ha':¬a<0:=by omega
    have hb':¬b<0:=by omega
    simp [ha',hb'];omega
  rw[e4]
  have h:k (.agg (Ye1 (a*b))) []:=h
  rw[Ye1,e3]at h
  exact YC (show k _ []from h) (Yv (.agg [.bool (decide (a*b<0)),.int .u64 ((P/18446744073709551616:Nat):Int),.int .u64 ((P%18446744073709551616:Nat):Int)]) ⟨trivial,trivial,trivial,trivial⟩) (fun _=>by simp [Yl,Ym])
 ·exact h.1.elim
theorem YyK:lessC.ok YGc 78:=by
 refine Yb Tryz.func78 YFI Yo4 200 lessC fun args k h=>⟨args,?_⟩
 simp only[lessC]at h
 split at h
 ·rename_i n hi lo n' hi' lo'
  obtain⟨x,y,⟨⟨rfl,rfl,rfl⟩,rfl,rfl,rfl⟩,h⟩:=h
  refine⟨by simp [leL,le],?_⟩
  (try dsimp only[v78,go_sem,reduceIte])
  (try simp only[Yc,YGa,YF9,reduceCtorEq,YF8])
  refine⟨fun hc=>YK ?_,fun hc=>⟨fun hd=>YK ?_,fun hd=>⟨fun h1 h2=>by rw[decide_eq_false h1,decide_eq_true h2];rfl,YK ?_⟩⟩⟩
  ·simp only[YGi,Bool.and_true,decide_eq_true_eq,beq_iff_eq,decide_eq_decide]at hc
   have:x=y:=by omega
   subst this
   have h:k (.bool (decide (x<x))) []:=h
   rw[decide_eq_false (Int.lt_irrefl x)]at h
   exact h
  ·have:decide (x<y)=decide (x<0):=by
    rw[beq_eq_false_iff_ne,ne_eq,decide_eq_decide]at hd
    rw[decide_eq_decide];omega
   rw[<-this];exact h
  ·have:(!((decide (((x.natAbs/18446744073709551616:Nat):Int)<((y.natAbs/18446744073709551616:Nat):Int)) || decide (((x.natAbs/18446744073709551616:Nat):Int)=((y.natAbs/18446744073709551616:Nat):Int))&&decide (((x.natAbs%18446744073709551616:Nat):Int)<((y.natAbs%18446744073709551616:Nat):Int)))==decide (x<0)))=decide (x<y):=by
    simp only[beq_iff_eq,decide_eq_decide]at hd
    simp only[YGZ,Bool.and_true,decide_eq_false_iff_not,beq_eq_false_iff_ne,ne_eq,decide_eq_decide]at hc
    have e:(decide (((x.natAbs/18446744073709551616:Nat):Int)<((y.natAbs/18446744073709551616:Nat):Int)) || decide (((x.natAbs/18446744073709551616:Nat):Int)=((y.natAbs/18446744073709551616:Nat):Int))&&decide (((x.natAbs%18446744073709551616:Nat):Int)<((y.natAbs%18446744073709551616:Nat):Int)))=decide (x.natAbs<y.natAbs):=by
     rw[YHz]
     simp only[YG6,YGi,decide_eq_true_eq]
     omega
    rw[e]
    by_cases hx:x<0
    ·rw[decide_eq_true hx,YHz,YGA,beq_eq_false_iff_ne,ne_eq,decide_eq_true_eq,decide_eq_true_eq];omega
    ·rw[decide_eq_false hx,YHz,YGA,beq_eq_false_iff_ne,ne_eq,decide_eq_false_iff_not,decide_eq_true_eq];omega
   rw[this];exact h
 ·exact h.1.elim
theorem Yl2:overC.ok YGc 79:=by
 refine Yb Tryz.func79 YFJ Yo4 200 overC fun args k h=>⟨args,?_⟩
 simp only[overC]at h
 split at h
 ·rename_i n hi lo d up
  obtain⟨x,⟨⟨rfl,rfl,rfl⟩,hbx,hd0,hd1⟩,h⟩:=h
  refine⟨by simp [leL,le],?_⟩
  (try dsimp only[v79,Ytb,div64C,go_sem,reduceIte])
  (try simp only[Yc,YGa,YF9,reduceCtorEq,YF8])
  obtain⟨d,rfl⟩:=YGM (by omega:0<=d)
  obtain⟨m,hm⟩:∃m,m=x.natAbs:=⟨_,rfl⟩
  have hT:=YzM (up:=up) (x:=x) (d:=d) (by omega)
  have e0:((m/18446744073709551616:Nat):Int)*18446744073709551616+((m%18446744073709551616:Nat):Int)=m:=by omega
  have e1:(m:Int)/(d:Int)=((m/d:Nat):Int):=(Int.natCast_ediv _ _).symm
  have e2:(m:Int)%(d:Int)=((m%d:Nat):Int):=(Int.natCast_emod _ _).symm
  rw[<-hm]at hT⊢
  rw[e0,e1,e2]
  have hF:rndF up x d=rndB (nsg (decide (x<0)) (m/d+bump up (decide (x<0)) (m%d))):=by unfold rndF;rw[hT]
  have hfail:4611686018427387904<m/d+bump up (decide (x<0)) (m%d)->rndF up x d=(0,false):=fun hh=>by
   rw[hF,rndB,if_neg]
   have:=Yg6 (decide (x<0)) (m/d+bump up (decide (x<0)) (m%d))
   omega
  have hgood:m/d+bump up (decide (x<0)) (m%d)<=4611686018427387904->rndF up x d=(nsg (decide (x<0)) (m/d+bump up (decide (x<0)) (m%d)),true):=fun hh=>by
   rw[hF,rndB,if_pos]
   have:=Yg6 (decide (x<0)) (m/d+bump up (decide (x<0)) (m%d))
   omega
  have h:k (.tup [.int .i64 (rndF up x d).1,.bool (rndF up x d).2]) []:=h
  have fin:∀(t:Int)(b:Bool)(hp:List HO),rndF up x d=(t,b)->YD overC.alias k (.tup [.int .i64 t,.bool b]) hp:=fun t b hp hh=>by
   rw[hh]at h
   exact YC (show k _ []from h) (Yv (.tup [.int .i64 t,.bool b]) ⟨trivial,trivial,trivial⟩) (fun _=>by simp [Yl,Ym])
  have hQ1:¬(d:Int)<=((m/18446744073709551616:Nat):Int)->m/d<18446744073709551616:=fun hc=>by
   rw[YGL (by omega)]
   have h1:m/18446744073709551616<d:=by omega
   rw[YGL (by decide)]at h1
   rw[YGj];exact h1
  have hQ2:(d:Int)<=((m/18446744073709551616:Nat):Int)->18446744073709551616<=m/d:=fun hc=>by
   rw[YG9 (by omega)]
   have h1:d<=m/18446744073709551616:=by omega
   rw[YG9 (by decide)]at h1
   rw[YGj];exact h1
  have hd0':(0:Int)<(d:Int):=hd0
  clear hT e1 e2
  generalize m/d=Q at*
  generalize m%d=R at*
  have ez:(!decide ((R:Int)=0))=decide (R≠0):=by
   rw[<-decide_not];congr 1;exact propext (by omega)
  refine⟨fun hc=>fin _ _ _ (hfail ?_),fun hc=>⟨⟨⟨by omega,by omega⟩,by omega,by omega,by omega⟩,by decide,by decide,fun hb=>?_,fun hb=>?_⟩⟩
  ·have:=hQ2 hc
   omega
  ·have hQ:=hQ1 hc
   rw[ez]at hb⊢
   have hbump:bump up (decide (x<0)) (R)=1:=by unfold bump;exact if_pos hb
   rw[hbump]at hfail hgood
   have hcond:∀w:Int,((decide (4611686018427387904<w) || decide (w=0)&&decide (R≠0)&& !(up==decide (x<0)))=true↔4611686018427387904<w\/w=0):=fun w=>by
    rw[Bool.and_assoc,hb,Bool.and_true,YG6,decide_eq_true_eq,decide_eq_true_eq]
   have hw:(4611686018427387904<IntKind.u64.wrap ((Q:Int)+1)\/IntKind.u64.wrap ((Q:Int)+1)=0)↔4611686018427387904<Q+1:=by
    rw[Ymi];omega
   refine⟨fun h1 h2=>by rw[decide_eq_false h1,decide_eq_true h2];rfl,fun h1 h2=>by rw[decide_eq_false h1,h2];rfl,fun hcc=>fin _ _ _ (hfail (hw.1 ((hcond _).1 hcc))),fun hcc=>?_⟩
   have hsm:Q+1<=4611686018427387904:=by
    refine YHy fun hh=>?_
    have:=(hcond _).2 (hw.2 hh)
    rw[hcc]at this;cases this
   have hg:=hgood hsm
   rw[YGF _ (by omega)]
   refine⟨fun hx=>fin _ _ _ ?_,fun hx=>fin _ _ _ ?_⟩
   ·rw[hg,YGd ((Q:Int)+1) (by omega),YGd _ (by omega)]
    unfold nsg
    simp only[hx,decide_true,if_true]
    congr 1 <;> omega
   ·rw[hg,YGd _ (by omega)]
    unfold nsg
    simp only[hx,decide_false,YGC,if_false]
    rfl
  ·have hQ:=hQ1 hc
   rw[ez]at hb⊢
   have hbump:bump up (decide (x<0)) (R)=0:=by unfold bump;exact if_neg (by rw[show(up !=decide (x<0))= !(up==decide (x<0))from rfl,hb];simp)
   rw[hbump,YHi]at hfail hgood
   have hcond:∀w:Int,((decide (4611686018427387904<w) || decide (w=0)&&decide (R≠0)&& !(up==decide (x<0)))=true↔4611686018427387904<w):=fun w=>by
    rw[Bool.and_assoc,hb,Bool.and_false,Bool.or_false,decide_eq_true_eq]
   refine⟨fun h1 h2=>by rw[decide_eq_false h1,decide_eq_true h2];rfl,fun h1 h2=>by rw[decide_eq_false h1,h2];rfl,fun hcc=>fin _ _ _ (hfail (by have:=(hcond _).1 hcc;omega)),fun hcc=>?_⟩
   have hsm:Q<=4611686018427387904:=by
    refine YHy fun hh=>?_
    have:=(hcond (Q:Int)).2 (by omega)
    rw[hcc]at this;cases this
   have hg:=hgood hsm
   refine⟨fun hx=>fin _ _ _ ?_,fun hx=>fin _ _ _ ?_⟩
   ·rw[hg,YGd (Q:Int) (by omega),YGd _ (by omega)]
    unfold nsg
    simp only[hx,decide_true,if_true]
    congr 1 <;> omega
   ·rw[hg,YGd _ (by omega)]
    unfold nsg
    simp only[hx,decide_false,YGC,if_false]
 ·exact h.1.elim
def P2:Env:={ ct:=fun n=>match n with|49=>some numC|78=>some lessC|79=>some overC|_=>none,fn:=fun _=>none,meth:=fun _ _=>none}
theorem YwG:P2.ct 49=some numC:=rfl
theorem YwH:P2.ct 78=some lessC:=rfl
theorem YwI:P2.ct 79=some overC:=rfl
theorem YBt:Yq YGc P2:=by
 refine⟨fun f c h=>?_,fun f vf h=>?_,(fun _ _ _ h=>by cases h),by kernel_rfl,(fun _ h=>by cases h)⟩
 ·simp only[P2]at h
  split at h
  ·cases h;exact⟨YnF,Tryz.f49,Tryz.func49,by kernel_rfl,by kernel_rfl⟩
  ·cases h;exact⟨YyK,Tryz.f78,Tryz.func78,by kernel_rfl,by kernel_rfl⟩
  ·cases h;exact⟨Yl2,Tryz.f79,Tryz.func79,by kernel_rfl,by kernel_rfl⟩
  ·cases h
 ·cases h
theorem YvU:fitC.ok YGc 97:=by
 refine Yb Tryz.func97 YFZ YBt 200 fitC fun args k h=>⟨args,?_⟩
 simp only[fitC]at h
 split at h
 ·rename_i a b
  refine⟨by simp [leL,le],?_⟩
  (try dsimp only[v97,YwG,numC,go_sem,reduceIte])
  (try simp only[Yc,YGa,YF9,reduceCtorEq,YF8])
  refine⟨fun hc=>?_,fun hc=>?_⟩
  ·rw[fitF,if_neg (by rw[<-YHt,YGA]at hc;simp [hc])]at h
   exact YC (show k _ []from h) (Yv (.tup [.agg (enc2 (0,0)),.int .i64 7]) ⟨⟨trivial,trivial,trivial⟩,trivial,trivial⟩) (fun _=>by simp [enc2,Yl,Ym])
  ·rw[fitF,if_pos (by rw[<-YHt,YG0]at hc;exact hc)]at h
   exact YC (show k _ []from h) (Yv (.tup [.agg (enc2 (a,b)),.int .i64 0]) ⟨⟨trivial,trivial,trivial⟩,trivial,trivial⟩) (fun _=>by simp [enc2,Yl,Ym])
 ·exact h.1.elim
theorem YsH:spanC.ok YGc 47:=by
 refine Yb Tryz.func47 YFf YBt 400 spanC fun args k h=>?_
 simp only[spanC]at h
 split at h
 ·rename_i d tt z n sz get
  obtain⟨x,r,⟨⟨rfl,rfl,hg⟩,hmax,hbig,hd0,hd1⟩,h⟩:=h
  refine⟨[.int .u64 d,.vs tt z (x::r).length 3 (fun k=>Ye1 ((x::r).getD k default))],⟨⟨rfl,rfl⟩,by simpa [le]using hg,trivial⟩,?_⟩
  (try dsimp only[v47,Ye1,go_sem,reduceIte])
  (try simp only[Yc,YGa,YF9,reduceCtorEq,YF8])
  have hlen:((x::r).length:Int)=r.length+1:=by simp
  refine⟨⟨by decide,by omega⟩,⟨by decide,by omega⟩,⟨by decide,by omega⟩,?_⟩
  have hlen2:(x::r).length-(0+1)=r.length:=by simp
  refine Loop.keep [0,0,2,0,0,0,13,0] Nat (fun i=>[(23,.int .i64 i)]) (fun i=>[(1,.box (Ye1 (lowI x (r.take i)))),(2,.box (Ye1 (Ybc x (r.take i))))]) [] (fun i=>i<=r.length) (fun i=>r.length-i) ?_ ?_
  ·refine⟨0,YHk _,?_⟩
   (try dsimp only[Ye1,go_sem,reduceIte])
   simp only[Ya]
   refine⟨by simp,?_,?_⟩ <;> simp [lowI,Ybc] <;> rfl
  ·rintro i hi
   (try dsimp only[YwH,YwI,lessC,overC,Ye1,YGb,go_sem,reduceIte])
   (try simp only[Yc,YGa,YF9,reduceCtorEq,YF8])
   have ey:(x::r).getD (1+i) default=r.getD i default:=by rw[Nat.add_comm];rfl
   have elen:(((x::r).length-1:Nat):Int)=r.length:=by simp
   simp only[ey,elen]
   refine⟨fun hlt=>⟨⟨by omega,by omega⟩,r.getD i default,lowI x (r.take i),⟨Yu _,Yu _⟩,?_⟩,fun hge=>?_⟩
   ·have eL:lowI x (r.take (i+1))=if r.getD i default<lowI x (r.take i)then r.getD i default else lowI x (r.take i):=Yr (by omega)
    have eH:Ybc x (r.take (i+1))=if Ybc x (r.take i)<r.getD i default then r.getD i default else Ybc x (r.take i):=Yr (by omega)
    have hw:=Yed (i:=i) (n:=r.length) (by omega) (by omega)
    refine⟨fun h1=>⟨Ybc x (r.take i),r.getD i default,⟨Yu _,Yu _⟩,fun h2=>⟨i+1,by omega,by omega,?_⟩,fun h2=>⟨i+1,by omega,by omega,?_⟩⟩,
     fun h1=>⟨Ybc x (r.take i),r.getD i default,⟨Yu _,Yu _⟩,fun h2=>⟨i+1,by omega,by omega,?_⟩,fun h2=>⟨i+1,by omega,by omega,?_⟩⟩⟩
    ·simp only[eL,eH,if_pos h1,if_pos h2,hw,Ya]
     simp
    ·simp only[eL,eH,if_pos h1,if_neg h2,hw,Ya]
     simp
    ·simp only[eL,eH,if_neg h1,if_pos h2,hw,Ya]
     simp
    ·simp only[eL,eH,if_neg h1,if_neg h2,hw,Ya]
     simp
   ·obtain rfl:i=r.length:=by omega
    rw[YHe]
    have hl:=YrH x r
    have hh:=Yor x r
    refine⟨lowI x r,⟨Yu _,hbig _ hl.1,hd0,hd1⟩,by decide,by decide,Ybc x r,⟨Yu _,hbig _ hh.1,hd0,hd1⟩,by decide,by decide,?_⟩
    have h:k (.tup [.agg (enc2 (Yd9 d x r).1),.int .i64 (Yd9 d x r).2]) []:=h
    unfold Yd9 Ybh at h
    refine⟨fun hb=>?_,fun hb=>?_⟩
    ·rw[if_neg (by rw[<-YHt,YGA]at hb;rw[hb];simp)]at h
     exact YC (show k _ []from h) (Yv (.tup [.agg (enc2 (0,0)),.int .i64 7]) ⟨⟨trivial,trivial,trivial⟩,trivial,trivial⟩) (fun _=>by simp [enc2,Yl,Ym])
    ·rw[if_pos (by rw[<-YHt,YG0]at hb;exact hb)]at h
     exact YC (show k _ []from h) (Yv (.tup [.agg (enc2 ((rndF false (lowI x r) d).1,(rndF true (Ybc x r) d).1)),.int .i64 0]) ⟨⟨trivial,trivial,trivial⟩,trivial,trivial⟩) (fun _=>by simp [enc2,Yl,Ym])
 ·exact h.1.elim
end Go.Proofs.YtmiclogmkfobgaaGreat
