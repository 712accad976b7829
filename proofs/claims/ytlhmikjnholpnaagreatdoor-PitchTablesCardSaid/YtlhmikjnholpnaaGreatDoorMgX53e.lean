/- Words of 64 bits, walked: Len64, LeadingZeros64, Mul64, Div64. -/
import Derived.Test.YtlhmikjnholpnaaGreatDoorMgX53d
import Derived.Test.YtlhmikjnholpnaaGreatDoorBL
open Bool renaming and_eq_true->YS
open Int renaming add_zero->Zb,eq_ofNat_of_zero_le->Un,mul_comm->KM,mul_le_mul_of_nonneg_right->XC,mul_neg->KN,mul_nonneg->ZZ,natCast_add->VH,natCast_mul->Qr,neg_neg->Jx,toNat->Xs,toNat_natCast->Yj
open Go.IntWalk renaming i64_in->Yg,u64_in->Wp,up_tdiv->Wq,up_tmod->VI
open List renaming all_eq_true->VJ,append_nil->Wr,cons_append->Ws,getD_eq_getElem?_getD->Kh,getElem?_append_left->QY,getElem?_append_right->Z0,getElem?_drop->Wu,getElem?_eq_getElem->VL,getElem?_take->XR,length_append->JO,length_cons->XS,length_nil->Z1,length_take->Qs,mem_append->Ky,mem_cons->Kz,mem_cons_of_mem->KX,mem_cons_self->KR,mem_singleton->Jj,not_mem_nil->Z3,take_length->Xt
open Nat renaming add_assoc->Zk,add_mul->YM,add_zero->KO,div_add_mod->KP,div_div_eq_div_mul->K8,div_eq_of_lt->QN,div_le_self->XD,div_mul_le_self->XE,dvd_trans->JY,eq_zero_or_pos->Jc,gcd->YI,gcd_dvd_left->WI,le_div_iff_mul_le->Wv,le_of_eq->Yx,le_of_lt->JZ,le_of_mul_le_mul_left->Vg,le_of_mul_le_mul_right->Ki,le_of_not_lt->XF,le_refl->Yt,le_trans->Yh,lt_irrefl->ZA,lt_of_le_of_lt->JC,lt_of_lt_of_le->Qt,lt_of_not_le->WJ,lt_or_ge->YY,lt_trichotomy->Ww,mod_eq_of_lt->QB,mod_lt->Kj,mul_add->Ka,mul_assoc->YA,mul_comm->Yl,mul_le_mul->YX,mul_le_mul_left->Yz,mul_le_mul_right->Yp,mul_left_comm->Jd,mul_lt_mul_of_pos_right->ZB,mul_one->Y0,mul_pos->Y1,mul_pow->Yq,mul_zero->ZD,one_mul->Y2,pow_add->Yo,pow_le_pow_iff_left->ZF,pow_le_pow_left->YG,pow_le_pow_right->Kp,pow_mul->Ym,pow_one->QO,pow_pos->YB,pow_succ->YH,pow_zero->Jk,reduceAdd->Ya,reduceBEq->Yk,reduceEqDiff->Yc,reduceLeDiff->Ye,zero_add->KJ,zero_le->JJ,zero_mul->JP
open Or renaming inl->KD,inr->KK
open Go.Proofs.Tryz renaming prog->Yb
set_option linter.all false
namespace Go.Proofs.YtlhmikjnholpnaaGreatDoor
open Go Go.Vx
set_option maxRecDepth 100000
set_option maxHeartbeats 4000000
theorem Sq:∀(f x:Nat),x<2^f->Lib.bitLenAux f x=Y6 x
 |0,x,h=>by
  have:x=0:=by simpa using h
  subst this;rfl
 |f+1,x,h=>by
  rw[Lib.bitLenAux]
  split
  ·rename_i h0;subst h0;rfl
  ·rename_i h0
   rw[YH]at h
   rw[Sq f (x/2) (by omega),Su (a:=x) (by omega)];omega
theorem Yfs{x:Nat}(h:x<18446744073709551616):Lib.bitLen x=Y6 x:=Sq 64 x h
def len64C:Ctr:={ alias:=false,of:=fun l=>match l with
 | [.int .u64 x]=> .pre (0<=x/\x<=18446744073709551615) (.fin (.int .i64 (Y6 x.toNat)) [])
 |_=>noC}
theorem Lk:len64C.ok Yb 138:=by
 intro args vs z k hsat hx hc
 simp only[len64C]at hc
 split at hc
 ·rename_i x
  obtain⟨⟨h0,h1⟩,hc⟩:=hc
  cases hx with|cons _ v _ l g1 hx=>
  cases hx
  cases g1
  refine(len64_calls x z.toWorld h0 h1).mono ?_
  rintro e w' ⟨rfl,rfl⟩
  rw[Yfs (by omega)]
  exact⟨_,[],_,[],z.I,Xw z,hc,rfl,.x _ _ (.int _ _),hp0 (hJ:=Xw z) hsat.1,BelowI.refl _ _,fun _=>⟨trivial,trivial⟩⟩
 ·exact hc.1.elim
def Ydc:VF:={ ntmps:=51,res:=[.tmp 4,.tmp 5],body:=
 (ZR [u1 4 .mov [.cn (.int .u64 0)],
 u1 5 .mov [.cn (.int .u64 0)]]
 (ZR [Zm 14 0,
 u1 15 (.bit .and) [.tm 14,.cn (.int .u64 4294967295)],
 Zm 6 15]
 (ZR [Zm 16 0,
 u1 17 .shr [.tm 16,.cn (.int .u64 32)],
 Zm 7 17]
 (ZR [Zm 18 1,
 u1 19 (.bit .and) [.tm 18,.cn (.int .u64 4294967295)],
 Zm 8 19]
 (ZR [Zm 20 1,
 u1 21 .shr [.tm 20,.cn (.int .u64 32)],
 Zm 9 21]
 (ZR [Zm 22 6,
 Zm 23 8,
 Zo 24 .mul 22 23,
 Zm 10 24]
 (ZR [Zm 25 7,
 Zm 26 8,
 Zo 27 .mul 25 26,
 Zm 28 10,
 u1 29 .shr [.tm 28,.cn (.int .u64 32)],
 Zo 30 .add 27 29,
 Zm 11 30]
 (ZR [Zm 31 11,
 u1 32 (.bit .and) [.tm 31,.cn (.int .u64 4294967295)],
 Zm 12 32]
 (ZR [Zm 33 11,
 u1 34 .shr [.tm 33,.cn (.int .u64 32)],
 Zm 13 34]
 (ZR [Zm 35 12,
 Zm 36 6,
 Zm 37 9,
 Zo 38 .mul 36 37,
 Zo 39 .add 35 38,
 Zm 12 39]
 (ZR [Zm 40 7,
 Zm 41 9,
 Zo 42 .mul 40 41,
 Zm 43 13,
 Zo 44 .add 42 43,
 Zm 45 12,
 u1 46 .shr [.tm 45,.cn (.int .u64 32)],
 Zo 47 .add 44 46,
 Zm 4 47]
 (ZR [Zm 48 0,
 Zm 49 1,
 Zo 50 .mul 48 49,
 Zm 5 50]
 .ret))))))))))))}
theorem Ypu:Yn Yb Tryz.f149=some Ydc:=by kernel_rfl
def mul64C:Ctr:={ alias:=false,of:=fun l=>match l with
 | [.int .u64 x,.int .u64 y]=> .pre ((0<=x/\x<=18446744073709551615)/\0<=y/\y<=18446744073709551615) (.fin (.tup [.int .u64 (x*y/18446744073709551616),.int .u64 (x*y%18446744073709551616)]) [])
 |_=>noC}
def B0:Env:=mkE [(138,len64C)] []
theorem YdI:YD Yb B0:=eo (by kernel_rfl) ⟨⟨Lk,_,Tryz.func138,rfl,rfl⟩,trivial⟩ trivial
theorem CR{x:Nat}(h:x<18446744073709551616):JR .and .u64 (x:Int) 4294967295=((x%4294967296:Nat):Int):=Ye3 h
theorem Se{x y:Nat}(hx:x<18446744073709551616)(hy:y<18446744073709551616):JR .or .u64 (x:Int) (y:Int)=((x||| y:Nat):Int):=Yae hx hy
theorem OC:mul64C.ok Yb 149:=by
 refine Yy Tryz.func149 Ypu YdI 200 mul64C fun args k h=>?_
 simp only[mul64C]at h
 split at h
 ·rename_i x y
  obtain⟨⟨⟨h0,h1⟩,h2,h3⟩,h⟩:=h
  obtain⟨x,rfl⟩:=Un h0
  obtain⟨y,rfl⟩:=Un h2
  refine⟨[.int .u64 x,.int .u64 y],by simp [leL,le],?_⟩
  (try dsimp only[Ydc,go_sem,reduceIte,Ya])
  (try simp only[Yd,Ya,Ye,reduceCtorEq,Yc])
  have hx:x<18446744073709551616:=by omega
  have hy:y<18446744073709551616:=by omega
  obtain⟨e,b1,b2,b3,b4,b5,b6,b7,b8⟩:=YjV hx hy
  have s32:∀z:Nat,(z:Int).fdiv (2^min (Xs 32) IntKind.u64.bits)=((z/4294967296:Nat):Int):=fun z=>NH (s:=32) (by decide)
  have hm:∀z:Nat,z%4294967296<18446744073709551616:=fun z=>by omega
  try rw[show IntKind.u64.bits=64 from rfl]at*
  rw[CR hx,CR hy,s32 x,s32 y,NL b1,s32 (x%4294967296*(y%4294967296)),NL b2,UU b3,s32 (x/4294967296*(y%4294967296)+x%4294967296*(y%4294967296)/4294967296),CR b3,NL b4,UU b5,s32,NL b6,UU b7,UU b8,e,A8]
  refine⟨by decide,by decide,by decide,by decide,by decide,?_⟩
  have h:k (.tup [.int .u64 ((x:Int)*y/18446744073709551616),.int .u64 ((x:Int)*y%18446744073709551616)]) []:=h
  have e2:((x*y/18446744073709551616:Nat):Int)=(x:Int)*y/18446744073709551616:=by
   rw[<-Qr];generalize x*y=z;omega
  rw[e2]
  exact Ye5 h
 ·exact h.1.elim
def B2:Env:=mkE [] []
def YcW:VF:={ ntmps:=6,res:=[.tmp 2],body:=
 (ZR [u1 2 .mov [.cn .nil]]
 (ZR [Zm 3 0,
 u1 4 (.conv .u64) [.tm 3],
 Zc 5 38 4,
 Zm 2 5]
 .ret))}
theorem Ypd:Yn Yb Tryz.f129=some YcW:=by kernel_rfl
def YcU:VF:={ ntmps:=14,res:=[.tmp 4],body:=
 (ZR [u1 4 .mov [.cn .nil]]
 (ZR [Zm 8 0,
 Zm 9 1,
 Zd 10 152 8 9,
 Zm 7 10,
 Ze 11 0 7,
 Ze 12 1 7,
 Zm 5 11,
 Zm 6 12]
 (ZR [Zm 13 5,
 Zm 4 13]
 .ret)))}
theorem Ypb:Yn Yb Tryz.f127=some YcU:=by kernel_rfl
def YcV:VF:={ ntmps:=14,res:=[.tmp 4],body:=
 (ZR [u1 4 .mov [.cn .nil]]
 (ZR [Zm 8 0,
 Zm 9 1,
 Zd 10 40 8 9,
 Zm 7 10,
 Ze 11 0 7,
 Ze 12 1 7,
 Zm 5 11,
 Zm 6 12]
 (ZR [Zm 13 5,
 Zm 4 13]
 .ret)))}
theorem Ypc:Yn Yb Tryz.f128=some YcV:=by kernel_rfl
def v89:VF:=⟨15,[.tmp 4],(ZR [u1 4 .mov [.cn (.bool false)]] (ZR [Zm 8 0,Zm 9 1,Zd 10 43 8 9,Zm 7 10,Ze 11 0 7,Ze 12 1 7,Zm 5 11,Zm 6 12] (ZR [Zm 13 5,Zq 14 .gtr 13 0,Zm 4 14] .ret)))⟩
theorem YqI:Yn Yb Tryz.f89=some v89:=by kernel_rfl
def Ydd:VF:={ ntmps:=34,res:=[.tmp 6],body:=
 (ZR [u1 6 .mov [.cn .nil]]
 (ZR [Zm 12 0,
 Zm 13 1,
 Zd 14 155 12 13,
 Zm 11 14,
 Ze 15 0 11,
 Ze 16 1 11,
 Zm 7 15,
 Zm 8 16]
 (.seq (ZR [Zm 18 7,
 Zm 19 1,
 u1 20 .neg [.tm 19],
 Zd 21 155 18 20,
 Zm 17 21,
 Ze 22 0 17,
 Ze 23 1 17,
 Zm 9 22,
 Zm 10 23]
 (ZR [Zm 24 2,
 Zm 25 24,
 Zg 26 25 true 0,
 Zg 27 25 true 9,
 u2 28 25 true (.call 89) [.tm 26,.tm 27],
 u1 29 .and [.tm 25,.tm 28]]
 (ZC 29 (.region [Zm 30 7,
 u1 31 (.call 129) [.cn (.int .i64 1)],
 Zd 32 127 30 31,
 Zm 7 32])
  .skip)))
 (ZR [Zm 33 7,
 Zm 6 33]
 .ret))))}
theorem Ypv:Yn Yb Tryz.f151=some Ydd:=by kernel_rfl
def YcT:VF:={ ntmps:=97,res:=[.tmp 4,.tmp 5],body:=
 (ZR [u1 4 .mov [.cn .nil],
 u1 5 .mov [.cn .nil]]
 (ZR [Zm 15 0,
 u1 16 (.conv .u64) [.tm 15],
 Zc 17 138 16,
 u1 18 (.ari .sub) [.tm 17,.cn (.int .i64 1)],
 Zm 6 18]
 (ZR [Zm 19 6,
 Zc 20 129 19,
 Zm 21 1,
 u1 22 (.call 151) [.tm 20,.tm 21,.cn (.bool false)],
 Zm 7 22]
 (.seq (ZR [Zm 23 0,
 Zm 24 0,
 u1 25 (.ari .sub) [.tm 24,.cn (.int .i64 1)],
 u1 26 (.bit .and) [.tm 23,.tm 25],
 Zq 27 .eql 26 0]
 (ZC 27 (ZR [Zm 28 7,
 Zm 29 7,
 Zm 4 28,
 Zm 5 29]
 .ret)
  .skip))
 (ZR [Zm 30 1,
 u1 31 (.ari .mul) [.cn (.int .i64 2),.tm 30],
 Zp 32 31 64,
 Zm 8 32]
 (ZR [Zm 33 0,
 Zc 34 129 33,
 Zm 35 8,
 Zm 36 6,
 Zo 37 .sub 35 36,
 u1 38 (.call 151) [.tm 34,.tm 37,.cn (.bool false)],
 Zm 9 38]
 (ZR [Zm 39 9,
 Zm 10 39]
 (ZR [u1 40 (.call 129) [.cn (.int .i64 2)],
 Zm 41 8,
 u1 42 (.call 151) [.tm 40,.tm 41,.cn (.bool false)],
 Zm 11 42]
 (ZR [Zm 43 6,
 Zc 44 129 43,
 Zm 12 44,
 Zi 13 0]
 (.seq (.block 0 (.loop (.seq (ZR [Zm 45 13,
 Zm 46 1,
 Zr 47 .lss 45 46]
 (ZC 47 .skip
  (.exit 0)))
 (.seq (.block 1 (ZR [Zm 50 9,
 Zm 51 9,
 Zd 52 128 50 51,
 Zm 53 8,
 u1 54 .neg [.tm 53],
 u1 55 (.call 151) [.tm 52,.tm 54,.cn (.bool false)],
 Zm 56 10,
 Zm 57 10,
 Zd 58 128 56 57,
 Zm 59 8,
 u1 60 .neg [.tm 59],
 u1 61 (.call 151) [.tm 58,.tm 60,.cn (.bool true)],
 Zm 9 55,
 Zm 10 61]
 (ZR [Zi 14 0]
 (.seq (.block 2 (ZR [Zm 63 11,
 Zm 64 9,
 Zd 65 89 63 64,
 u1 66 .not [.tm 65],
 Zm 62 66]
 (ZC 62 (.region [Zm 67 9,
 u1 68 (.call 151) [.tm 67,.cn (.int .i64 (-1)),.cn (.bool false)],
 Zm 69 10,
 u1 70 (.call 151) [.tm 69,.cn (.int .i64 (-1)),.cn (.bool true)],
 Zm 9 68,
 Zm 10 70,
 Zi 14 1])
  (ZR [Zm 72 11,
 Zm 73 10,
 Zd 74 89 72 73,
 u1 75 .not [.tm 74],
 Zm 71 75]
 (ZC 71 (ZR [Zm 76 12,
 Zm 77 1,
 Zm 78 13,
 Zo 79 .sub 77 78,
 u1 80 (.call 151) [.tm 76,.tm 79,.cn (.bool false)],
 Zm 81 12,
 u1 82 (.call 129) [.cn (.int .i64 1)],
 Zd 83 127 81 82,
 Zm 84 1,
 Zm 85 13,
 Zo 86 .sub 84 85,
 u1 87 (.call 151) [.tm 83,.tm 86,.cn (.bool false)],
 Zm 4 80,
 Zm 5 87]
 .ret)
  .skip)))))
 (.region [Zm 88 12,
 u1 89 (.call 151) [.tm 88,.cn (.int .i64 1),.cn (.bool false)],
 Zm 90 14,
 Zc 91 129 90,
 Zd 92 127 89 91,
 Zm 12 92])))))
 (.region [Zm 48 13,
 Zp 49 48 1,
 Zm 13 49])))))
 (ZR [Zm 93 12,
 Zm 94 12,
 u1 95 (.call 129) [.cn (.int .i64 1)],
 Zd 96 127 94 95,
 Zm 4 93,
 Zm 5 96]
 .ret)))))))))))}
theorem Ypa:Yn Yb Tryz.f126=some YcT:=by kernel_rfl
theorem HS(a:Nat):nl (JL a)<=512:=by
 unfold JL
 split
 ·assumption
 ·rw[WF];omega
def Xu(a b:Nat):Nat:=JL (a+b)
def Xj(a b:Nat):Nat:=JL (a*b)
def Kf(a:Nat)(d:Int)(up:Bool):Nat:=
 if(up&&decide (JL (shF (JL (shF a d)) (-d))<a))=true then Xu (JL (shF a d)) 1 else JL (shF a d)
theorem VT(a b:Nat):nl (Xu a b)<=512:=HS _
theorem Fg(a b:Nat):nl (Xj a b)<=512:=HS _
theorem W5(a:Nat)(d:Int)(up:Bool):nl (Kf a d up)<=512:=by
 unfold Kf
 split <;> exact HS _
theorem Kd{a:Nat}(h:nl a<=512):okW a (nl a) 1 (fun k=>[.int .u32 (dig a k)]):=⟨YO (by omega),rfl,h⟩
theorem GC{a:Nat}(h:a<18446744073709551616):nl a<=2:=nl_le.2 (by omega)
def numWC:Ctr:={ alias:=false,of:=fun l=>match l with
 | [.int .i64 n]=> .pre (0<=n/\n<=9223372036854775807) (.fin (Yv false n.toNat) [])
 |_=>noC}
def addWC:Ctr:={ alias:=false,of:=fun l=>match l with
 | [.vs _ z n sz get,.vs _ z' m sz' get']=> .ex Nat fun a=> .ex Nat fun b=> .pre (okW a n sz get/\okW b m sz' get') (.all Bool fun y=> .fin (Yv y (Xu a b)) [])
 |_=>noC}
def timesWC:Ctr:={ alias:=false,of:=fun l=>match l with
 | [.vs _ z n sz get,.vs _ z' m sz' get']=> .ex Nat fun a=> .ex Nat fun b=> .pre (okW a n sz get/\okW b m sz' get') (.all Bool fun y=> .fin (Yv y (Xj a b)) [])
 |_=>noC}
def aboveC:Ctr:={ alias:=false,of:=fun l=>match l with
 | [.vs _ z n sz get,.vs _ z' m sz' get']=> .ex Nat fun a=> .ex Nat fun b=> .pre (okW a n sz get/\okW b m sz' get') (.fin (.bool (decide (b<a))) [])
 |_=>noC}
def movC:Ctr:={ alias:=false,of:=fun l=>match l with
 | [.vs _ z n sz get,.int .i64 d,.bool up]=> .ex Nat fun a=> .pre (okW a n sz get/\ -20000<=d/\d<=20000) (.all Bool fun y=> .fin (Yv y (Kf a d up)) [])
 |_=>noC}
def RA0:Env:=mkE [(38,ofC),(152,wAddC),(40,wMulC),(43,wCmpC),(155,wShiftC)] []
theorem N2:YD Yb RA0:=eo (by kernel_rfl) ⟨⟨Yq8,_,Tryz.func38,rfl,rfl⟩,⟨Yq5,_,Tryz.func152,rfl,rfl⟩,⟨Yq7,_,Tryz.func40,rfl,rfl⟩,⟨Yq6,_,Tryz.func43,rfl,rfl⟩,⟨Ydw,_,Tryz.func155,rfl,rfl⟩,trivial⟩ trivial
theorem LL:numWC.ok Yb 129:=by
 refine Yy Tryz.func129 Ypd N2 200 numWC fun args k h=>?_
 simp only[numWC]at h
 split at h
 ·rename_i n
  obtain⟨⟨h0,h1⟩,h⟩:=h
  refine⟨[.int .i64 n],by simp [leL,le],?_⟩
  dsimp only[YcW,RA0,Yk,ofC,Yv,go_sem,reduceIte,Ya]
  simp only[Yd,Ya,Ye,reduceCtorEq,Yc]
  rw[Wp _ (by omega)]
  exact⟨⟨h0,by omega⟩,U4 (t:=true) h⟩
 ·exact h.1.elim
theorem CB:addWC.ok Yb 127:=by
 refine Yy Tryz.func127 Ypb N2 200 addWC fun args k h=>?_
 simp only[addWC]at h
 split at h
 ·rename_i t1 z1 n sz get t2 z2 m sz' get'
  obtain⟨a,b,⟨⟨⟨rfl,hn,ha,hg⟩,hna,hn5⟩,⟨rfl,hm,hb,hg'⟩,hmb,hm5⟩,h⟩:=h
  refine⟨[.vs t1 z1 n 1 (fun k=>[.int .u32 (dig a k)]),.vs t2 z2 m 1 (fun k=>[.int .u32 (dig b k)])],⟨by simpa [le]using hg,by simpa [le]using hg',trivial⟩,?_⟩
  dsimp only[YcU,RA0,Yk,wAddC,Yv,go_sem,reduceIte,Ya]
  simp only[Yd,Ya,Ye,reduceCtorEq,Yc]
  subst hna hmb
  exact⟨a,b,⟨Kd hn5,Kd hm5⟩,fun y=>⟨by decide,by decide,U4 (t:=true) (h y)⟩⟩
 ·exact h.1.elim
theorem OD:timesWC.ok Yb 128:=by
 refine Yy Tryz.func128 Ypc N2 200 timesWC fun args k h=>?_
 simp only[timesWC]at h
 split at h
 ·rename_i t1 z1 n sz get t2 z2 m sz' get'
  obtain⟨a,b,⟨⟨⟨rfl,hn,ha,hg⟩,hna,hn5⟩,⟨rfl,hm,hb,hg'⟩,hmb,hm5⟩,h⟩:=h
  refine⟨[.vs t1 z1 n 1 (fun k=>[.int .u32 (dig a k)]),.vs t2 z2 m 1 (fun k=>[.int .u32 (dig b k)])],⟨by simpa [le]using hg,by simpa [le]using hg',trivial⟩,?_⟩
  dsimp only[YcV,RA0,Yk,wMulC,Yv,go_sem,reduceIte,Ya]
  simp only[Yd,Ya,Ye,reduceCtorEq,Yc]
  subst hna hmb
  exact⟨a,b,⟨Kd hn5,Kd hm5⟩,fun y=>⟨by decide,by decide,U4 (t:=true) (h y)⟩⟩
 ·exact h.1.elim
theorem Cz:aboveC.ok Yb 89:=by
 refine Yy Tryz.func89 YqI N2 200 aboveC fun args k h=>?_
 simp only[aboveC]at h
 split at h
 ·rename_i t1 z1 n sz get t2 z2 m sz' get'
  obtain⟨a,b,⟨⟨⟨rfl,hn,ha,hg⟩,hna,hn5⟩,⟨rfl,hm,hb,hg'⟩,hmb,hm5⟩,h⟩:=h
  refine⟨[.vs t1 z1 n 1 (fun k=>[.int .u32 (dig a k)]),.vs t2 z2 m 1 (fun k=>[.int .u32 (dig b k)])],⟨by simpa [le]using hg,by simpa [le]using hg',trivial⟩,?_⟩
  dsimp only[v89,RA0,Yk,wCmpC,Yv,go_sem,reduceIte,Ya]
  simp only[Yd,Ya,Ye,reduceCtorEq,Yc]
  subst hna hmb
  have e:decide (0<JM a b)=decide (b<a):=by
   unfold JM
   by_cases h1:a<b
   ·rw[if_pos h1,decide_eq_false (by omega:¬b<a)];rfl
   ·rw[if_neg h1]
    by_cases h2:b<a
    ·rw[if_pos h2,decide_eq_true h2];rfl
    ·rw[if_neg h2,decide_eq_false h2];rfl
  refine⟨a,b,⟨Kd hn5,Kd hm5⟩,by decide,by decide,?_⟩
  rw[e]
  exact QF h
 ·exact h.1.elim
def RA1:Env:=mkE [(155,wShiftC),(89,aboveC),(127,addWC),(129,numWC)] []
theorem Yd1:YD Yb RA1:=eo (by kernel_rfl) ⟨⟨Ydw,_,Tryz.func155,rfl,rfl⟩,⟨Cz,_,Tryz.func89,rfl,rfl⟩,⟨CB,_,Tryz.func127,rfl,rfl⟩,⟨LL,_,Tryz.func129,rfl,rfl⟩,trivial⟩ trivial
theorem YjR:movC.ok Yb 151:=by
 refine Yy Tryz.func151 Ypv Yd1 300 movC fun args k h=>?_
 simp only[movC]at h
 split at h
 ·rename_i t1 z1 n sz get d up
  obtain⟨a,⟨⟨⟨rfl,hn,ha,hg⟩,hna,hn5⟩,hd0,hd1⟩,h⟩:=h
  refine⟨[.vs t1 z1 n 1 (fun k=>[.int .u32 (dig a k)]),.int .i64 d,.bool up],⟨by simpa [le]using hg,⟨rfl,rfl⟩,rfl,trivial⟩,?_⟩
  dsimp only[Ydd,RA1,Yk,wShiftC,aboveC,addWC,numWC,Yv,go_sem,reduceIte,Ya]
  simp only[Yd,Ya,Ye,reduceCtorEq,Yc]
  subst hna
  have hneg:IntKind.i64.wrap (0-d)= -d:=by rw[Yg _ (by omega)];omega
  rw[hneg]
  have h1:nl 1<=512:=by have:= @GC 1 (by decide);omega
  refine⟨a,⟨Kd hn5,hd0,hd1⟩,fun y=>⟨by decide,by decide,JL (shF a d),⟨Kd (HS _),by omega,by omega⟩,by decide,by decide,a,JL (shF (JL (shF a d)) (-d)),fun _=>⟨Kd hn5,Kd (HS _)⟩,fun hc=>⟨by decide,JL (shF a d),1,⟨Kd (HS _),Kd h1⟩,fun z=>?_⟩,fun hc=>?_⟩⟩
  ·have h:k (Yv z (Kf a d up)) []:=h z
   rw[Kf,if_pos hc]at h
   exact U4 (t:=true) h
  ·have h:k (Yv y (Kf a d up)) []:=h y
   rw[Kf,if_neg (by rw[hc];decide)]at h
   exact U4 (t:=true) h
 ·exact h.1.elim
def Qa(n:Int):Bool:=decide (JR .and .i64 n (IntKind.i64.wrap (n-1))=0)
def Xi(two:Nat)(deep:Int):Nat->Nat->Nat->Nat->Nat×Nat
 |0,_,_,sum=>(sum,Xu sum 1)
 |f+1,a,b,sum=>
  let a1:=Kf (Xj a a) (-deep) false
  let b1:=Kf (Xj b b) (-deep) true
  if a1<two then
   if b1<two then Xi two deep f a1 b1 (Xu (Kf sum 1 false) 0)
   else(Kf sum ((f+1:Nat):Int) false,Kf (Xu sum 1) ((f+1:Nat):Int) false)
  else Xi two deep f (Kf a1 (-1) false) (Kf b1 (-1) true) (Xu (Kf sum 1 false) 1)
def JV(n:Int)(p:Nat):Nat×Nat:=
 let k:=Y6 n.toNat-1
 if Qa n=true then(Kf k p false,Kf k p false)
 else
  let deep:Int:=((2*p+64:Nat):Int)
  let a:=Kf n.toNat (deep-k) false
  Xi (Kf 2 deep false) deep p a a k
theorem Lv{two:Nat}{deep:Int}:∀(f a b sum:Nat),nl sum<=512->nl (Xi two deep f a b sum).1<=512/\nl (Xi two deep f a b sum).2<=512
 |0,_,_,sum,h=>⟨h,VT _ _⟩
 |f+1,a,b,sum,h=>by
  rw[Xi]
  split
  ·split
   ·exact Lv f _ _ _ (VT _ _)
   ·exact⟨W5 sum _ false,W5 (Xu sum 1) _ false⟩
  ·exact Lv f _ _ _ (VT _ _)
theorem Yjr(n:Int)(p:Nat)(hn:n<=9223372036854775807):nl (JV n p).1<=512/\nl (JV n p).2<=512:=by
 rw[JV]
 by_cases hb:Qa n=true
 ·rw[if_pos hb];exact⟨W5 (Y6 n.toNat-1) p false,W5 (Y6 n.toNat-1) p false⟩
 ·rw[if_neg hb]
  refine Lv _ _ _ _ ?_
  have h1:Y6 n.toNat<=64:=bitsN_le.2 (by have:(2:Nat)^64=18446744073709551616:=rfl;omega)
  have:= @GC (Y6 n.toNat-1) (by omega)
  omega
structure LSt where
 i:Nat
 a:Nat
 b:Nat
 s:Nat
 za:Bool
 zb:Bool
 zs:Bool
theorem CF{k:SV->List HO->Prop}{al:Bool}{hp:List HO}{y z:Bool}{a b:Nat}(h:k (.tup [Yv y a,Yv z b]) []):Jz al k (.tup [Yv y a,Yv z b]) hp:=
 Kv (show k _ []from h) (JG _ ⟨trivial,trivial,trivial⟩) (fun _=>by simp [Yv,Y3,Y5])
def logC:Ctr:={ alias:=false,of:=fun l=>match l with
 | [.int .i64 n,.int .i64 p]=> .ex Nat fun q=> .pre (1<=n/\n<=9223372036854775807/\p=q/\q<=2048) (.all Bool fun y=> .all Bool fun z=> .fin (.tup [Yv y (JV n q).1,Yv z (JV n q).2]) [])
 |_=>noC}
def RA2:Env:=mkE [(138,len64C),(89,aboveC),(127,addWC),(128,timesWC),(129,numWC),(151,movC)] []
theorem Yd2:YD Yb RA2:=eo (by kernel_rfl) ⟨⟨Lk,_,Tryz.func138,rfl,rfl⟩,⟨Cz,_,Tryz.func89,rfl,rfl⟩,⟨CB,_,Tryz.func127,rfl,rfl⟩,⟨OD,_,Tryz.func128,rfl,rfl⟩,⟨LL,_,Tryz.func129,rfl,rfl⟩,⟨YjR,_,Tryz.func151,rfl,rfl⟩,trivial⟩ trivial
theorem Yjt:logC.ok Yb 126:=by
 refine Yy Tryz.func126 Ypa Yd2 600 logC fun args k h=>?_
 simp only[logC]at h
 split at h
 ·rename_i n p'
  obtain⟨p,⟨hn0,hn1,rfl,hp⟩,h⟩:=h
  refine⟨[.int .i64 n,.int .i64 p],by simp [leL,le],?_⟩
  dsimp only[YcT,RA2,Yk,len64C,aboveC,addWC,numWC,timesWC,movC,Yv,go_sem,reduceIte,Ya]
  simp only[Yd,Ya,Ye,reduceCtorEq,Yc]
  have hb1:Y6 n.toNat<=64:=bitsN_le.2 (by have:(2:Nat)^64=18446744073709551616:=rfl;omega)
  have hb0:Y6 n.toNat≠0:=fun e=>by have:=bitsN_eq0.1 e;omega
  obtain⟨K,hK⟩:∃K,K=Y6 n.toNat-1:=⟨_,rfl⟩
  have eu:IntKind.u64.wrap n=n:=Wp _ (by omega)
  have ek:IntKind.i64.wrap ((Y6 n.toNat:Int)-1)=(K:Int):=by rw[hK,Yg _ (by omega)];omega
  have ed:IntKind.i64.wrap (IntKind.i64.wrap (2*(p:Int))+64)=((2*p+64:Nat):Int):=by rw[Yg (2*(p:Int)) (by omega),Yg _ (by omega)];omega
  obtain⟨D,hD⟩:∃D:Int,D=((2*p+64:Nat):Int):=⟨_,rfl⟩
  have edk:IntKind.i64.wrap (D-(K:Int))=D-(K:Int):=Yg _ (by omega)
  rw[eu,ek,ed,<-hD,edk,Yj]
  have hKw:nl K<=512:=by have:= @GC K (by omega);omega
  have hnw:nl n.toNat<=512:=by have:= @GC n.toNat (by omega);omega
  have h2w:nl 2<=512:=by have:= @GC 2 (by decide);omega
  refine⟨by omega,by omega,K,⟨Kd hKw,by omega,by omega⟩,fun y=>⟨fun hc=>?_,fun hc=>⟨by omega,n.toNat,⟨Kd hnw,by omega,by omega⟩,fun z=>⟨by decide,2,⟨Kd h2w,by omega,by omega⟩,fun z2=>⟨by omega,?_⟩⟩⟩⟩⟩
  ·have h:k (.tup [Yv y (JV n p).1,Yv y (JV n p).2]) []:=h y y
   have e:JV n p=(Kf K p false,Kf K p false):=by rw[JV,if_pos (show Qa n=true from decide_eq_true hc),hK]
   rw[e]at h
   exact CF h
  ·have e:JV n p=Xi (Kf 2 D false) D p (Kf n.toNat (D-K) false) (Kf n.toNat (D-K) false) K:=by rw[JV,if_neg (show¬Qa n=true from fun hh=>hc (of_decide_eq_true hh)),hK,hD]
   rw[e]at h
   generalize hA:Kf n.toNat (D-(K:Int)) false=A at h⊢
   have hA5:nl A<=512:=by rw[<-hA];exact W5 _ _ _
   generalize hT:Kf 2 D false=T at h⊢
   have hT5:nl T<=512:=by rw[<-hT];exact W5 _ _ _
   refine Loop.keep [1,6,2] LSt (fun x=>[(9,Yv x.za x.a),(10,Yv x.zb x.b),(12,Yv x.zs x.s),(13,.int .i64 x.i)]) (fun _=>[]) [] (fun x=>x.i<=p/\Xi T D p A A K=Xi T D (p-x.i) x.a x.b x.s/\nl x.a<=512/\nl x.b<=512/\nl x.s<=512) (fun x=>p-x.i) ?_ ?_
   ·refine⟨⟨0,A,A,K,z,z,false⟩,⟨by simp only;omega,rfl,hA5,hA5,hKw⟩,?_⟩
    dsimp only[Yv,go_sem,reduceIte,Ya]
    simp only[Yf]
    try simp
   ·rintro⟨i,a,b,S,za,zb,zs⟩ ⟨hi,he,ha5,hb5,hs5⟩
    dsimp only at hi he ha5 hb5 hs5
    dsimp only[RA2,Yk,len64C,aboveC,addWC,numWC,timesWC,movC,Yv,go_sem,reduceIte,Ya]
    simp only[Yd,Ya,Ye,reduceCtorEq,Yc]
    have eD:IntKind.i64.wrap (0-D)= -D:=by rw[Yg _ (by omega)];omega
    have ei:IntKind.i64.wrap ((p:Int)-(i:Int))=((p-i:Nat):Int):=by rw[Yg _ (by omega)];omega
    have h1w:nl 1<=512:=by have:= @GC 1 (by decide);omega
    have h0w:nl 0<=512:=by rw[WF];omega
    rw[eD,ei]
    refine⟨fun hlt=>?_,fun hge=>⟨by decide,S,1,⟨Kd hs5,Kd h1w⟩,fun y=>?_⟩⟩
    ·obtain⟨q,hq⟩:∃q,p-i=q+1:=⟨p-i-1,by omega⟩
     rw[hq,Xi]at he
     obtain⟨a1,ha1⟩:∃a1,a1=Kf (Xj a a) (-D) false:=⟨_,rfl⟩
     obtain⟨b1,hb1⟩:∃b1,b1=Kf (Xj b b) (-D) true:=⟨_,rfl⟩
     have ha15:nl a1<=512:=by rw[ha1];exact W5 _ _ _
     have hb15:nl b1<=512:=by rw[hb1];exact W5 _ _ _
     rw[<-ha1,<-hb1]at he
     refine⟨a,a,⟨Kd ha5,Kd ha5⟩,fun _=>⟨Xj a a,⟨Kd (Fg _ _),by omega,by omega⟩,fun y1=>⟨b,b,⟨Kd hb5,Kd hb5⟩,fun _=>⟨Xj b b,⟨Kd (Fg _ _),by omega,by omega⟩,fun y2=>?_⟩⟩⟩⟩
     rw[<-ha1,<-hb1]
     refine⟨T,a1,⟨Kd hT5,Kd ha15⟩,fun hc=>?_,fun hc=>⟨T,b1,⟨Kd hT5,Kd hb15⟩,fun hd=>?_,fun hd=>?_⟩⟩
     ·rw[if_neg hc]at he
      refine⟨a1,⟨Kd ha15,by decide,by decide⟩,fun y3=>⟨b1,⟨Kd hb15,by decide,by decide⟩,fun y4=>⟨S,⟨Kd hs5,by decide,by decide⟩,fun _=>⟨by decide,Kf S 1 false,1,⟨Kd (W5 _ _ _),Kd h1w⟩,fun y5=>?_⟩⟩⟩⟩
      refine⟨⟨i+1,Kf a1 (-1) false,Kf b1 (-1) true,Xu (Kf S 1 false) 1,y3,y4,y5⟩,⟨by simp only;omega,?_,W5 a1 (-1) false,W5 b1 (-1) true,VT (Kf S 1 false) 1⟩,by simp only;omega,?_⟩
      ·rw[show p-(i+1)=q by omega];exact he
      ·rw[Yg ((i:Int)+1) (by omega)]
       simp only[Yf]
       simp
     ·rw[if_pos hc,if_neg hd]at he
      refine⟨S,⟨Kd hs5,by omega,by omega⟩,fun y3=>⟨by decide,S,1,⟨Kd hs5,Kd h1w⟩,Xu S 1,⟨Kd (VT _ _),by omega,by omega⟩,fun y4=>?_⟩⟩
      have h:k (.tup [Yv y3 (Xi T D p A A K).1,Yv y4 (Xi T D p A A K).2]) []:=h y3 y4
      rw[he]at h
      rw[hq]
      exact CF h
     ·rw[if_pos hc,if_pos hd]at he
      refine⟨S,⟨Kd hs5,by decide,by decide⟩,fun _=>⟨by decide,Kf S 1 false,0,⟨Kd (W5 _ _ _),Kd h0w⟩,fun y5=>?_⟩⟩
      refine⟨⟨i+1,a1,b1,Xu (Kf S 1 false) 0,y1,y2,y5⟩,⟨by simp only;omega,?_,ha15,hb15,VT (Kf S 1 false) 0⟩,by simp only;omega,?_⟩
      ·rw[show p-(i+1)=q by omega];exact he
      ·rw[Yg ((i:Int)+1) (by omega)]
       simp only[Yf]
       simp
    ·have h:k (.tup [Yv zs (Xi T D p A A K).1,Yv y (Xi T D p A A K).2]) []:=h zs y
     rw[he,show p-i=0 by omega,Xi]at h
     exact CF h
 ·exact h.1.elim
def YcX:VF:={ ntmps:=12,res:=[.tmp 4],body:=
 (ZR [Zi 4 0]
 (.seq (.block 0 (.loop (.seq (ZR [Zm 5 1,
 Zq 6 .neq 5 0]
 (ZC 6 .skip
  (.exit 0)))
 (.block 1 (.draw [] [Zu 7 1,
 Zu 8 0,
 Zu 9 1,
 w1 10 .rem [.tm 8,.tm 9],
 Zu 0 7,
 Zu 1 10])))))
 (ZR [Zm 11 0,
 Zm 4 11]
 .ret)))}
theorem Ype:Yn Yb Tryz.f130=some YcX:=by kernel_rfl
def v88:VF:=⟨58,[.cell 4 true 2,.cell 5 true 2],(ZR [u1 4 (.alloc [.nil,.nil]) [],u1 5 (.alloc [.nil,.nil]) []] (.seq (ZR [Zm 12 0,Zl 13 12,Zi 14 0] (.block 0 (.loop (ZR [Zr 15 .lss 14 13] (.seq (ZC 15 .skip (.exit 0)) (.seq (.block 1 (ZR [Zx 16 2 12 14,Zt 17 2 16,u1 7 (.alloc Z2) [],Zs 2 7 17] (ZR [Za 19 0 7,Zf 20 1 19,Zm 21 1,Zd 22 126 20 21,Zm 18 22,Ze 23 0 18,Ze 24 1 18,Zm 8 23,Zm 9 24] (.seq (.draw [] [Zy 25 1 7,Zv 26 1 25,Zu 10 4,Zu 11 26]) (.seq (ZR [Zm 27 11,Zq 28 .lss 27 0] (ZC 28 (.region [Zm 29 11,u1 30 .neg [.tm 29],Zm 10 5,Zm 11 30]) .skip)) (.draw [] [Zu 31 10,Zu 32 10,Zu 33 10,w1 34 .nilCheck [.tm 33],Zy 35 0 34,Zv 36 1 35,Zu 37 8,Zu 38 11,Zu 42 10,w1 43 .nilCheck [.tm 42],Zy 44 1 43,Zv 45 1 44,Zu 46 9,Zu 47 11,w1 39 (.call 129) [.tm 38],Zz 40 128 37 39,Zz 41 127 36 40,w1 48 (.call 129) [.tm 47],Zz 49 128 46 48,Zz 50 127 45 49,w1 51 .nilCheck [.tm 31],Zy 52 0 51,ZS 1 52 41,w1 53 .nilCheck [.tm 32],Zy 54 1 53,ZS 1 54 50])))))) (.region [Zp 55 14 1,Zm 14 55]))))))) (ZR [Zt 56 2 4,Zt 57 2 5,Zs 2 4 56,Zs 2 5 57] .ret)))⟩
theorem YqH:Yn Yb Tryz.f88=some v88:=by kernel_rfl
def gcdC:Ctr:={ alias:=false,of:=fun l=>match l with
 | [.int .i64 a,.int .i64 b]=> .ex Nat fun x=> .ex Nat fun y=> .pre (a=x/\b=y/\x<=9223372036854775807/\y<=9223372036854775807) (.fin (.int .i64 (YI x y)) [])
 |_=>noC}
def RA3:Env:=mkE [] []
theorem Yd3:YD Yb RA3:=eo (by kernel_rfl) trivial trivial
theorem gcd_c:gcdC.ok Yb 130:=by
 refine Yy Tryz.func130 Ype Yd3 100 gcdC fun args k h=>?_
 simp only[gcdC]at h
 split at h
 ·rename_i a b
  obtain⟨x,y,⟨rfl,rfl,hx,hy⟩,h⟩:=h
  refine⟨[.int .i64 x,.int .i64 y],by simp [leL,le],?_⟩
  dsimp only[YcX,go_sem,reduceIte,Ya]
  simp only[Yd,Ya,Ye,reduceCtorEq,Yc]
  refine Loop.keep [] (Nat×Nat) (fun s=>[(0,.int .i64 s.1),(1,.int .i64 s.2)]) (fun _=>[]) [] (fun s=>YI s.1 s.2=YI x y/\s.1<=9223372036854775807/\s.2<=9223372036854775807) (fun s=>s.2) ?_ ?_
  ·refine⟨(x,y),⟨rfl,hx,hy⟩,?_⟩
   dsimp only[go_sem,reduceIte,Ya]
   simp only[Yf]
  ·rintro⟨p,q⟩ ⟨he,hp,hq⟩
   dsimp only at he hp hq
   dsimp only[go_sem,reduceIte,Ya]
   simp only[Yd,Ya,Ye,reduceCtorEq,Yc]
   refine⟨fun hc=>⟨hc,(q,p%q),⟨?_,by simp only;omega,?_⟩,?_,?_⟩,fun hc=>Kb ?_⟩
   ·rw[<-he,Nat.gcd_comm p q]
    show YI q (p%q)=YI q p
    rw[Nat.gcd_comm q (p%q),<-Nat.gcd_rec]
   ·have:=Kj p (by omega:0<q)
    simp only;omega
   ·exact Kj p (by omega:0<q)
   ·have e:(p:Int).tmod q=((p%q:Nat):Int):=VI rfl rfl
    rw[e]
    simp only[Yf]
   ·obtain rfl:q=0:=by omega
    rw[Nat.gcd_zero_right]at he
    rw[he];exact h
 ·exact h.1.elim
structure Bnd where
 ul:Nat
 uh:Nat
 dl:Nat
 dh:Nat
def XP(p:Nat)(s:Bnd)(x:Int×Int):Bnd:=
 if x.2<0 then { s with dl:=Xu s.dl (Xj (JV x.1 p).1 (-x.2).toNat),dh:=Xu s.dh (Xj (JV x.1 p).2 (-x.2).toNat)}
 else { s with ul:=Xu s.ul (Xj (JV x.1 p).1 x.2.toNat),uh:=Xu s.uh (Xj (JV x.1 p).2 x.2.toNat)}
def QV(l:List (Int×Int))(p:Nat):Bnd:=l.foldl (XP p) ⟨0,0,0,0⟩
def okT(x:Int×Int):Prop:=1<=x.1/\x.1<=1000000000001/\ -9000000000000000000<=x.2/\x.2<=9000000000000000000
def Bnd.ok(s:Bnd):Prop:=nl s.ul<=512/\nl s.uh<=512/\nl s.dl<=512/\nl s.dh<=512
theorem PQ(p:Nat)(s:Bnd)(x:Int×Int)(h:s.ok):(XP p s x).ok:=by
 obtain⟨h1,h2,h3,h4⟩:=h
 unfold XP
 split
 ·exact⟨h1,h2,VT _ _,VT _ _⟩
 ·exact⟨VT _ _,VT _ _,h3,h4⟩
def sumsC:Ctr:={ alias:=false,of:=fun l=>match l with
 | [.vs _ _ n sz get,.int .i64 p]=> .ex (List (Int×Int)) fun l=> .ex Nat fun q=> .pre (lsP 2 Yw n sz get l/\(∀x,x∈l->okT x)/\n<=100/\p=q/\q<=2048)
     (.all Bool fun y1=> .all Bool fun y2=> .all Bool fun y3=> .all Bool fun y4=> .fin (.tup [.agg [Yv y1 (QV l q).ul,Yv y2 (QV l q).uh],.agg [Yv y3 (QV l q).dl,Yv y4 (QV l q).dh]]) [])
 |_=>noC}
def RA4:Env:=mkE [(127,addWC),(128,timesWC),(129,numWC),(126,logC)] []
theorem Yd4:YD Yb RA4:=eo (by kernel_rfl) ⟨⟨CB,_,Tryz.func127,rfl,rfl⟩,⟨OD,_,Tryz.func128,rfl,rfl⟩,⟨LL,_,Tryz.func129,rfl,rfl⟩,⟨Yjt,_,Tryz.func126,rfl,rfl⟩,trivial⟩ trivial
structure SSt where
 i:Nat
 b:Bnd
 y1:Bool
 y2:Bool
 y3:Bool
 y4:Bool
theorem Yot:sumsC.ok Yb 88:=by
 refine Yy Tryz.func88 YqH Yd4 500 sumsC fun args k h=>?_
 simp only[sumsC]at h
 split at h
 ·rename_i tt z n sz get p'
  obtain⟨l,p,⟨⟨rfl,rfl,hg⟩,hl,hn,rfl,hp⟩,h⟩:=h
  refine⟨[.vs tt z l.length 2 (fun k=>Yw (l.getD k default)),.int .i64 p],⟨⟨id,rfl,rfl,rfl,hg⟩,⟨rfl,rfl⟩,trivial⟩,?_⟩
  dsimp only[v88,Yw,go_sem,reduceIte,Ya]
  simp only[Yd,Ya,Ye,reduceCtorEq,Yc]
  refine Loop.keep [0,0,2,0,6,0] SSt (fun s=>[(14,.int .i64 s.i)]) (fun s=>[(0,.box [Yv s.y1 s.b.ul,Yv s.y2 s.b.uh]),(1,.box [Yv s.y3 s.b.dl,Yv s.y4 s.b.dh])]) [] (fun s=>s.i<=l.length/\s.b=(l.take s.i).foldl (XP p) ⟨0,0,0,0⟩/\s.b.ok) (fun s=>l.length-s.i) ?_ ?_
  ·refine⟨⟨0,⟨0,0,0,0⟩,true,true,true,true⟩,⟨by simp only;omega,rfl,by simp [Bnd.ok,WF]⟩,?_⟩
   dsimp only[Yv,go_sem,reduceIte,Ya]
   simp only[Yf]
   simp [WF]
  ·rintro⟨i,B,y1,y2,y3,y4⟩ ⟨hi,hB,hok⟩
   dsimp only at hi hB hok
   dsimp only[RA4,Yk,logC,addWC,numWC,timesWC,Yv,Yw,Yj,go_sem,reduceIte,Ya]
   simp only[Yd,Ya,Ye,reduceCtorEq,Yc]
   refine⟨fun hlt=>?_,fun hge=>?_⟩
   ·have hx:=hl _ (KZ (by omega:i<l.length))
    generalize hxe:l.getD i default=x at hx⊢
    obtain⟨q0,q1,q2,q3⟩:=hx
    have hstep:(l.take (i+1)).foldl (XP p) ⟨0,0,0,0⟩=XP p B x:=by
     rw[Vm (by omega),<-hB,hxe]
    obtain⟨g1,g2⟩:=Yjr x.1 p (by omega)
    obtain⟨o1,o2,o3,o4⟩:=hok
    refine⟨⟨by omega,by omega⟩,p,⟨q0,by omega,rfl,hp⟩,fun z1 z2=>⟨by decide,by decide,fun hc=>?_,fun hc=>?_⟩⟩
    ·have en:IntKind.i64.wrap (0-x.2)= -x.2:=by rw[Yg _ (by omega)];omega
     rw[en]
     have hnw:nl (-x.2).toNat<=512:=by have:= @GC (-x.2).toNat (by omega);omega
     refine⟨⟨by omega,by omega⟩,(JV x.1 p).1,(-x.2).toNat,⟨Kd g1,Kd hnw⟩,fun _=>⟨B.dl,Xj (JV x.1 p).1 (-x.2).toNat,⟨Kd o3,Kd (Fg _ _)⟩,fun z3=>⟨⟨by omega,by omega⟩,(JV x.1 p).2,(-x.2).toNat,⟨Kd g2,Kd hnw⟩,fun _=>⟨B.dh,Xj (JV x.1 p).2 (-x.2).toNat,⟨Kd o4,Kd (Fg _ _)⟩,fun z4=>?_⟩⟩⟩⟩
     refine⟨⟨i+1,XP p B x,y1,y2,z3,z4⟩,⟨by simp only;omega,hstep.symm,PQ p B x ⟨o1,o2,o3,o4⟩⟩,by simp only;omega,?_⟩
     simp only[XP,if_pos hc]
     rw[Yg ((i:Int)+1) (by omega)]
     simp only[Yf]
     exact⟨by decide,by decide,by simp⟩
    ·have hnw:nl x.2.toNat<=512:=by have:= @GC x.2.toNat (by omega);omega
     refine⟨⟨by omega,by omega⟩,(JV x.1 p).1,x.2.toNat,⟨Kd g1,Kd hnw⟩,fun _=>⟨B.ul,Xj (JV x.1 p).1 x.2.toNat,⟨Kd o1,Kd (Fg _ _)⟩,fun z3=>⟨⟨by omega,by omega⟩,(JV x.1 p).2,x.2.toNat,⟨Kd g2,Kd hnw⟩,fun _=>⟨B.uh,Xj (JV x.1 p).2 x.2.toNat,⟨Kd o2,Kd (Fg _ _)⟩,fun z4=>?_⟩⟩⟩⟩
     refine⟨⟨i+1,XP p B x,z3,z4,y3,y4⟩,⟨by simp only;omega,hstep.symm,PQ p B x ⟨o1,o2,o3,o4⟩⟩,by simp only;omega,?_⟩
     simp only[XP,if_neg hc]
     rw[Yg ((i:Int)+1) (by omega)]
     simp only[Yf]
     exact⟨by decide,by decide,by simp⟩
   ·obtain rfl:i=l.length:=by omega
    rw[Xt]at hB
    have h:k (.tup [.agg [Yv y1 (QV l p).ul,Yv y2 (QV l p).uh],.agg [Yv y3 (QV l p).dl,Yv y4 (QV l p).dh]]) []:=h y1 y2 y3 y4
    rw[QV,<-hB]at h
    exact Kv h (JG _ ⟨⟨trivial,trivial,trivial⟩,⟨trivial,trivial,trivial⟩,trivial⟩) (fun _=>by simp [Yv,Y3,Y5])
 ·exact h.1.elim
def YcR:VF:={ ntmps:=31,res:=[.cell 6 true 2],body:=
 (ZR [u1 3 .box [.tm 0],
 u1 6 (.alloc [(.int .u64 0),(.int .u64 0)]) []]
 (ZR [Zm 11 1,
 Zm 12 2,
 Zd 13 149 11 12,
 Zm 10 13,
 Ze 14 0 10,
 Ze 15 1 10,
 Zm 7 14,
 Zm 8 15]
 (ZR [Za 17 1 3,
 Zf 18 1 17,
 Zm 19 8,
 u1 20 .addc [.tm 18,.tm 19,.cn (.int .u64 0)],
 Zm 16 20,
 Ze 21 0 16,
 Ze 22 1 16,
 Zm 8 21,
 Zm 9 22]
 (ZR [Za 23 0 3,
 Zf 24 1 23,
 Zm 25 7,
 Zo 26 .add 24 25,
 Zm 27 9,
 Zo 28 .add 26 27,
 Zm 29 8,
 u1 30 (.build [(.int .u64 0),(.int .u64 0)] [(0,1),(1,1)]) [.tm 28,.tm 29],
 Zs 2 6 30]
 .ret))))}
theorem Yo8:Yn Yb Tryz.f124=some YcR:=by kernel_rfl
def YcS:VF:={ ntmps:=24,res:=[.tmp 4],body:=
 (ZR [u1 2 .box [.tm 0],
 u1 3 .box [.tm 1],
 u1 4 .mov [.cn (.bool false)]]
 (ZR [Za 5 0 2,
 Zf 6 1 5,
 Za 7 0 3,
 Zf 8 1 7,
 Zr 9 .gtr 6 8,
 Zm 10 9,
 Zj 11 10 false 0 2,
 Zh 12 10 false 1 11,
 Zj 13 10 false 0 3,
 Zh 14 10 false 1 13,
 u2 15 10 false (.cmp .eql) [.tm 12,.tm 14],
 Zg 16 10 false 15,
 Zj 17 16 true 1 2,
 Zh 18 16 true 1 17,
 Zj 19 16 true 1 3,
 Zh 20 16 true 1 19,
 u2 21 16 true (.cmp .gtr) [.tm 18,.tm 20],
 u2 22 10 false .and [.tm 16,.tm 21],
 u1 23 .or [.tm 10,.tm 22],
 Zm 4 23]
 .ret))}
theorem Yo9:Yn Yb Tryz.f125=some YcS:=by kernel_rfl
def YcQ:VF:={ ntmps:=100,res:=[.tmp 2,.tmp 3],body:=
 (ZR [u1 2 .mov [.cn (.int .u64 0)],
 u1 3 .mov [.cn (.int .u64 0)]]
 (ZR [Zm 15 0,
 u1 16 (.conv .u64) [.tm 15],
 Zc 17 138 16,
 u1 18 (.ari .sub) [.tm 17,.cn (.int .i64 1)],
 Zm 4 18]
 (ZR [Zm 19 4,
 u1 20 (.conv .u64) [.tm 19],
 Zm 5 20]
 (.seq (ZR [Zm 21 0,
 Zm 22 0,
 u1 23 (.ari .sub) [.tm 22,.cn (.int .i64 1)],
 u1 24 (.bit .and) [.tm 21,.tm 23],
 Zq 25 .eql 24 0]
 (ZC 25 (ZR [Zm 26 5,
 u1 27 .shl [.tm 26,.cn (.int .u64 28)],
 Zm 28 5,
 u1 29 .shl [.tm 28,.cn (.int .u64 28)],
 Zm 2 27,
 Zm 3 29]
 .ret)
  .skip))
 (ZR [Zm 30 0,
 u1 31 (.conv .u64) [.tm 30],
 Zm 32 4,
 u1 33 (.ari .sub) [.cn (.int .i64 63),.tm 32],
 u1 34 .shl [.tm 31,.tm 33],
 Zm 6 34]
 (ZR [Zm 35 6,
 Zm 7 35]
 (.seq (ZR [Zi 36 0]
 (.block 0 (.loop (ZR [Zq 37 .lss 36 28]
 (.seq (ZC 37 .skip
  (.exit 0))
 (.seq (.block 1 (ZR [Zm 38 36,
 Zm 8 38]
 (ZR [Zm 40 6,
 Zm 41 6,
 Zd 42 149 40 41,
 Zm 39 42,
 Ze 43 0 39,
 Ze 44 1 39,
 Zm 9 43,
 Zm 10 44]
 (ZR [Zm 46 7,
 Zm 47 7,
 Zd 48 149 46 47,
 Zm 45 48,
 Ze 49 0 45,
 Ze 50 1 45,
 Zm 11 49,
 Zm 12 50]
 (ZR [Zm 51 9,
 u1 52 .shr [.tm 51,.cn (.int .u64 63)],
 Zm 13 52]
 (ZR [Zm 53 13,
 Zm 54 11,
 u1 55 .shr [.tm 54,.cn (.int .u64 63)],
 Zr 56 .eql 53 55,
 Zm 14 56]
 (.seq (ZR [Zm 57 13,
 u1 58 (.cmp .eql) [.tm 57,.cn (.int .u64 0)]]
 (ZC 58 (.region [Zm 59 9,
 u1 60 .shl [.tm 59,.cn (.int .u64 1)],
 Zm 61 10,
 u1 62 .shr [.tm 61,.cn (.int .u64 63)],
 u1 63 (.bit .or) [.tm 60,.tm 62],
 Zm 64 11,
 u1 65 .shl [.tm 64,.cn (.int .u64 1)],
 Zm 66 12,
 u1 67 .shr [.tm 66,.cn (.int .u64 63)],
 u1 68 (.bit .or) [.tm 65,.tm 67],
 Zm 69 12,
 u1 70 .shl [.tm 69,.cn (.int .u64 1)],
 Zm 9 63,
 Zm 11 68,
 Zm 12 70])
  .skip))
 (.seq (ZR [Zm 71 12,
 u1 72 (.cmp .gtr) [.tm 71,.cn (.int .u64 0)]]
 (ZC 72 (.region [Zm 73 11,
 u1 74 (.ari .add) [.tm 73,.cn (.int .u64 1)],
 Zm 11 74])
  .skip))
 (.seq (ZR [Zm 75 14,
 u1 76 .not [.tm 75],
 Zm 77 76,
 Zg 78 77 false 11,
 u2 79 77 false (.cmp .eql) [.tm 78,.cn (.int .u64 0)],
 u1 80 .or [.tm 77,.tm 79]]
 (ZC 80 (.seq (.draw [] [Zu 81 5,
 Zu 82 8,
 w1 83 (.ari .sub) [.cn (.int .i64 28),.tm 82],
 w1 84 .shl [.tm 81,.tm 83],
 Zu 85 5,
 w1 86 (.ari .add) [.tm 85,.cn (.int .u64 1)],
 Zu 87 8,
 w1 88 (.ari .sub) [.cn (.int .i64 28),.tm 87],
 w1 89 .shl [.tm 86,.tm 88],
 Zu 2 84,
 Zu 3 89])
 .ret)
  .skip))
 (.region [Zm 90 9,
 Zm 91 11,
 Zm 92 5,
 u1 93 .shl [.tm 92,.cn (.int .u64 1)],
 Zm 94 13,
 u1 95 (.bit .or) [.tm 93,.tm 94],
 Zm 6 90,
 Zm 7 91,
 Zm 5 95]))))))))))
 (.region [Zp 96 36 1,
 Zm 36 96])))))))
 (ZR [Zm 97 5,
 Zm 98 5,
 u1 99 (.ari .add) [.tm 98,.cn (.int .u64 1)],
 Zm 2 97,
 Zm 3 99]
 .ret))))))))}
theorem Yo7:Yn Yb Tryz.f123=some YcQ:=by kernel_rfl
def X2(a:Int×Int)(x y:Int):Int×Int:=
 (IntKind.u64.wrap (IntKind.u64.wrap (a.1+x*y/18446744073709551616)+(a.2+x*y%18446744073709551616)/18446744073709551616),(a.2+x*y%18446744073709551616)%18446744073709551616)
def Ub(a b:Int×Int):Bool:=decide (b.1<a.1) || (decide (a.1=b.1)&&decide (b.2<a.2))
def okL(a:Int×Int):Prop:=(0<=a.1/\a.1<=18446744073709551615)/\0<=a.2/\a.2<=18446744073709551615
def lpC:Ctr:={ alias:=false,of:=fun l=>match l with
 | [.agg [.int .u64 a,.int .u64 b],.int .u64 x,.int .u64 y]=> .pre (okL (a,b)/\(0<=x/\x<=18446744073709551615)/\0<=y/\y<=18446744073709551615) (.fin (.agg [.int .u64 (X2 (a,b) x y).1,.int .u64 (X2 (a,b) x y).2]) [])
 |_=>noC}
def loC:Ctr:={ alias:=false,of:=fun l=>match l with
 | [.agg [.int .u64 a,.int .u64 b],.agg [.int .u64 c,.int .u64 d]]=> .fin (.bool (Ub (a,b) (c,d))) []
 |_=>noC}
def RA5:Env:=mkE [(149,mul64C)] []
theorem RE:YD Yb RA5:=eo (by kernel_rfl) ⟨⟨OC,_,Tryz.func149,rfl,rfl⟩,trivial⟩ trivial
theorem lp_c:lpC.ok Yb 124:=by
 refine Yy Tryz.func124 Yo8 RE 200 lpC fun args k h=>?_
 simp only[lpC]at h
 split at h
 ·rename_i a b x y
  obtain⟨⟨⟨⟨a0,a1⟩,b0,b1⟩,hx,hy⟩,h⟩:=h
  refine⟨[.agg [.int .u64 a,.int .u64 b],.int .u64 x,.int .u64 y],by simp [leL,le],?_⟩
  dsimp only[YcR,RA5,Yk,mul64C,Es,go_sem,reduceIte,Ya]
  simp only[Yd,Ya,Ye,reduceCtorEq,Yc]
  refine⟨⟨hx,hy⟩,by decide,by decide,⟨b0,Int.emod_nonneg _ (by decide),by decide,by decide⟩,by decide,by decide,?_⟩
  rw[Zb]
  exact Kv (show k _ []from h) (JG (.agg [.int .u64 (X2 (a,b) x y).1,.int .u64 (X2 (a,b) x y).2]) ⟨trivial,trivial,trivial⟩) (fun _=>by simp [Y3,Y5])
 ·exact h.1.elim
theorem lo_c:loC.ok Yb 125:=by
 refine Yy Tryz.func125 Yo9 RE 200 loC fun args k h=>?_
 simp only[loC]at h
 split at h
 ·rename_i a b c d
  refine⟨[.agg [.int .u64 a,.int .u64 b],.agg [.int .u64 c,.int .u64 d]],by simp [leL,le],?_⟩
  dsimp only[YcS,go_sem,reduceIte,Ya]
  simp only[Yd,Ya,Ye,reduceCtorEq,Yc]
  exact⟨fun h1 h2=>by rw[decide_eq_false h1,decide_eq_true h2];rfl,QF h⟩
 ·exact h.1.elim
def RA6:Env:=mkE [(138,len64C),(149,mul64C)] []
theorem Yd5:YD Yb RA6:=eo (by kernel_rfl) ⟨⟨Lk,_,Tryz.func138,rfl,rfl⟩,⟨OC,_,Tryz.func149,rfl,rfl⟩,trivial⟩ trivial
abbrev hiW(a:Int):Int:=a*a/18446744073709551616
abbrev loW(a:Int):Int:=a*a%18446744073709551616
abbrev Qz(x:Int):Int:=x.fdiv (2^min (Xs 63) 64)
abbrev sl1(x:Int):Int:=IntKind.u64.wrap (x*2^min (Xs 1) 64)
abbrev Wz(x y:Int):Int:=JR .or .u64 (sl1 x) (Qz y)
abbrev shW(S:Int)(f:Nat):Int:=IntKind.u64.wrap (S*2^min f 64)
def Xz:Nat->Int->Int->Int->Int×Int
 |0,S,_,_=>(S,IntKind.u64.wrap (S+1))
 |f+1,S,a,b=>
  if Qz (hiW a)=0 then
   if 0<sl1 (loW b)then
    if(!decide (Qz (hiW a)=Qz (hiW b)) || decide (IntKind.u64.wrap (Wz (hiW b) (loW b)+1)=0))=true then(shW S (f+1),shW (IntKind.u64.wrap (S+1)) (f+1))
    else Xz f (JR .or .u64 (sl1 S) (Qz (hiW a))) (Wz (hiW a) (loW a)) (IntKind.u64.wrap (Wz (hiW b) (loW b)+1))
   else
    if(!decide (Qz (hiW a)=Qz (hiW b)) || decide (Wz (hiW b) (loW b)=0))=true then(shW S (f+1),shW (IntKind.u64.wrap (S+1)) (f+1))
    else Xz f (JR .or .u64 (sl1 S) (Qz (hiW a))) (Wz (hiW a) (loW a)) (Wz (hiW b) (loW b))
  else
   if 0<loW b then
    if(!decide (Qz (hiW a)=Qz (hiW b)) || decide (IntKind.u64.wrap (hiW b+1)=0))=true then(shW S (f+1),shW (IntKind.u64.wrap (S+1)) (f+1))
    else Xz f (JR .or .u64 (sl1 S) (Qz (hiW a))) (hiW a) (IntKind.u64.wrap (hiW b+1))
   else
    if(!decide (Qz (hiW a)=Qz (hiW b)) || decide (hiW b=0))=true then(shW S (f+1),shW (IntKind.u64.wrap (S+1)) (f+1))
    else Xz f (JR .or .u64 (sl1 S) (Qz (hiW a))) (hiW a) (hiW b)
def XN(n:Int):Int×Int:=
 if Qa n=true then(IntKind.u64.wrap (((Y6 n.toNat-1:Nat):Int)*2^min (Xs 28) 64),IntKind.u64.wrap (((Y6 n.toNat-1:Nat):Int)*2^min (Xs 28) 64))
 else Xz 28 ((Y6 n.toNat-1:Nat):Int) (shW n (63-(Y6 n.toNat-1))) (shW n (63-(Y6 n.toNat-1)))
theorem X9(x:Int):0<=IntKind.u64.wrap x/\IntKind.u64.wrap x<=18446744073709551615:=by rw[A8];omega
theorem Ha(x y:Int):0<=JR .or .u64 x y/\JR .or .u64 x y<=18446744073709551615:=X9 _
theorem Iy{a:Int}(h0:0<=a)(h1:a<=18446744073709551615):0<=hiW a/\hiW a<=18446744073709551615:=by
 have h2:a*a<=18446744073709551615*18446744073709551615:=YjW h1 h1 h0 (by decide)
 have h3:0<=a*a:=ZZ h0 h0
 unfold hiW
 omega
def quickC:Ctr:={ alias:=false,of:=fun l=>match l with
 | [.int .i64 n]=> .pre (1<=n/\n<=4611686018427387904) (.fin (.tup [.int .u64 (XN n).1,.int .u64 (XN n).2]) [])
 |_=>noC}
theorem Ylz:quickC.ok Yb 123:=by
 refine Yy Tryz.func123 Yo7 Yd5 400 quickC fun args k h=>?_
 simp only[quickC]at h
 split at h
 ·rename_i n
  obtain⟨⟨n0,n1⟩,h⟩:=h
  refine⟨[.int .i64 n],by simp [leL,le],?_⟩
  dsimp only[YcQ,RA6,Yk,len64C,mul64C,go_sem,reduceIte,Ya]
  simp only[Yd,Ya,Ye,reduceCtorEq,Yc]
  have hb1:Y6 n.toNat<=63:=bitsN_le.2 (by have:(2:Nat)^63=9223372036854775808:=rfl;omega)
  have hb0:Y6 n.toNat≠0:=fun e=>by have:=bitsN_eq0.1 e;omega
  obtain⟨K,hK⟩:∃K,K=Y6 n.toNat-1:=⟨_,rfl⟩
  have eu:IntKind.u64.wrap n=n:=Wp _ (by omega)
  have ek:IntKind.i64.wrap ((Y6 n.toNat:Int)-1)=(K:Int):=by rw[hK,Yg _ (by omega)];omega
  have ek2:IntKind.i64.wrap (63-(K:Int))=((63-K:Nat):Int):=by rw[Yg _ (by omega)];omega
  have ek3:IntKind.u64.wrap (K:Int)=(K:Int):=Wp _ (by omega)
  rw[eu,ek,ek2,ek3]
  refine⟨by omega,fun hc=>⟨by decide,by decide,?_⟩,fun hc=>⟨by omega,?_⟩⟩
  ·rw[XN,if_pos (show Qa n=true from decide_eq_true hc),<-hK]at h
   exact WL h
  ·have e:XN n=Xz 28 K (shW n (63-K)) (shW n (63-K)):=by rw[XN,if_neg (show¬Qa n=true from fun hh=>hc (of_decide_eq_true hh)),<-hK]
   rw[e]at h
   rw[Yj]
   obtain⟨A,hA⟩:∃A,A=shW n (63-K):=⟨_,rfl⟩
   rw[<-hA]at h
   obtain⟨R,hR⟩:∃R,R=Xz 28 K A A:=⟨_,rfl⟩
   rw[<-hR]at h
   rw[show IntKind.u64.wrap (n*2^min (63-K) 64)=A from hA.symm]
   have hAr:0<=A/\A<=18446744073709551615:=by rw[hA];exact X9 _
   refine Loop.keep [] (Int×Int×Int×Nat) (fun s=>[(5,.int .u64 s.1),(6,.int .u64 s.2.1),(7,.int .u64 s.2.2.1),(36,.int .i64 s.2.2.2)]) (fun _=>[]) [] (fun s=>s.2.2.2<=28/\R=Xz (28-s.2.2.2) s.1 s.2.1 s.2.2.1/\(0<=s.2.1/\s.2.1<=18446744073709551615)/\0<=s.2.2.1/\s.2.2.1<=18446744073709551615) (fun s=>28-s.2.2.2) ?_ ?_
   ·refine⟨(K,A,A,0),⟨by simp only;omega,hR,hAr,hAr⟩,?_⟩
    dsimp only[go_sem,reduceIte,Ya]
    simp only[Yf]
    try simp
   ·rintro⟨S,a,b,i⟩ ⟨hi,he,ha,hb⟩
    dsimp only at hi he ha hb
    dsimp only[RA6,Yk,len64C,mul64C,go_sem,reduceIte,Ya]
    simp only[Yd,Ya,Ye,reduceCtorEq,Yc]
    have ei:IntKind.i64.wrap (28-(i:Int))=((28-i:Nat):Int):=by rw[Yg _ (by omega)];omega
    rw[ei]
    have hA2:=Iy ha.1 ha.2
    have hB2:=Iy hb.1 hb.2
    refine⟨fun hlt=>?_,fun hge=>?_⟩
    ·obtain⟨f,hf⟩:∃f,28-i=f+1:=⟨28-i-1,by omega⟩
     rw[hf,Xz]at he
     rw[hf,Yj]
     refine⟨ha,by decide,by decide,hb,by decide,by decide,by decide,by decide,fun hc1=>⟨by decide,by decide,by decide,by decide,by decide,fun hc2=>⟨fun hc3=>?_,fun hc3=>?_⟩,fun hc2=>⟨fun hc3=>?_,fun hc3=>?_⟩⟩,fun hc1=>⟨fun hc2=>⟨fun hc3=>?_,fun hc3=>?_⟩,fun hc2=>⟨fun hc3=>?_,fun hc3=>?_⟩⟩⟩
     ·rw[if_pos hc1,if_pos hc2,if_pos hc3]at he
      rw[he]at h
      exact⟨by omega,by omega,WL h⟩
     ·rw[if_pos hc1,if_pos hc2,if_neg (by rw[hc3];decide)]at he
      refine⟨by decide,(JR .or .u64 (sl1 S) (Qz (hiW a)),Wz (hiW a) (loW a),IntKind.u64.wrap (Wz (hiW b) (loW b)+1),i+1),⟨by simp only;omega,by rw[show 28-(i+1)=f by omega];exact he,Ha _ _,X9 _⟩,by simp only;omega,?_⟩
      rw[Yg ((i:Int)+1) (by omega)]
      simp only[Yf]
      simp
     ·rw[if_pos hc1,if_neg hc2,if_pos hc3]at he
      rw[he]at h
      exact⟨by omega,by omega,WL h⟩
     ·rw[if_pos hc1,if_neg hc2,if_neg (by rw[hc3];decide)]at he
      refine⟨by decide,(JR .or .u64 (sl1 S) (Qz (hiW a)),Wz (hiW a) (loW a),Wz (hiW b) (loW b),i+1),⟨by simp only;omega,by rw[show 28-(i+1)=f by omega];exact he,Ha _ _,Ha _ _⟩,by simp only;omega,?_⟩
      rw[Yg ((i:Int)+1) (by omega)]
      simp only[Yf]
      simp
     ·rw[if_neg hc1,if_pos hc2,if_pos hc3]at he
      rw[he]at h
      exact⟨by omega,by omega,WL h⟩
     ·rw[if_neg hc1,if_pos hc2,if_neg (by rw[hc3];decide)]at he
      refine⟨by decide,(JR .or .u64 (sl1 S) (Qz (hiW a)),hiW a,IntKind.u64.wrap (hiW b+1),i+1),⟨by simp only;omega,by rw[show 28-(i+1)=f by omega];exact he,hA2,X9 _⟩,by simp only;omega,?_⟩
      rw[Yg ((i:Int)+1) (by omega)]
      simp only[Yf]
      simp
     ·rw[if_neg hc1,if_neg hc2,if_pos hc3]at he
      rw[he]at h
      exact⟨by omega,by omega,WL h⟩
     ·rw[if_neg hc1,if_neg hc2,if_neg (by rw[hc3];decide)]at he
      refine⟨by decide,(JR .or .u64 (sl1 S) (Qz (hiW a)),hiW a,hiW b,i+1),⟨by simp only;omega,by rw[show 28-(i+1)=f by omega];exact he,hA2,hB2⟩,by simp only;omega,?_⟩
      rw[Yg ((i:Int)+1) (by omega)]
      simp only[Yf]
      simp
    ·rw[show 28-i=0 by omega,Xz]at he
     rw[he]at h
     exact WL h
 ·exact h.1.elim
def v87:VF:=⟨72,[.tmp 2,.tmp 3],(ZR [Zi 2 0,u1 3 .mov [.cn (.bool false)]] (ZR [u1 4 (.allocArr 2 2 [(.int .u64 0),(.int .u64 0),(.int .u64 0),(.int .u64 0)]) [],u1 5 (.allocArr 2 2 [(.int .u64 0),(.int .u64 0),(.int .u64 0),(.int .u64 0)]) []] (.seq (ZR [Zm 10 0,Zl 11 10,Zi 12 0] (.block 0 (.loop (ZR [Zr 13 .lss 12 11] (.seq (ZC 13 .skip (.exit 0)) (.seq (.block 1 (ZR [Zx 14 2 10 12,Zt 15 2 14,u1 7 (.alloc Z2) [],Zs 2 7 15] (ZR [Za 17 0 7,Zf 18 1 17,Zc 19 123 18,Zm 16 19,Ze 20 0 16,Ze 21 1 16,Zm 8 20,Zm 9 21] (ZR [Za 22 1 7,Zf 23 1 22,Zq 24 .geq 23 0] (ZC 24 (.draw [] [w1 25 (.idxArr 2 2) [.tm 4,.cn (.int .i64 0)],Zw 26 2 25,Zu 27 8,Zy 28 1 7,Zv 29 1 28,w1 30 (.conv .u64) [.tm 29],w1 32 (.idxArr 2 2) [.tm 4,.cn (.int .i64 1)],Zw 33 2 32,Zu 34 9,Zy 35 1 7,Zv 36 1 35,w1 37 (.conv .u64) [.tm 36],w1 31 (.call 124) [.tm 26,.tm 27,.tm 30],w1 39 (.idxArr 2 2) [.tm 4,.cn (.int .i64 0)],w1 38 (.call 124) [.tm 33,.tm 34,.tm 37],ZS 2 39 31,w1 40 (.idxArr 2 2) [.tm 4,.cn (.int .i64 1)],ZS 2 40 38]) (.draw [] [w1 41 (.idxArr 2 2) [.tm 5,.cn (.int .i64 0)],Zw 42 2 41,Zu 43 8,Zy 44 1 7,Zv 45 1 44,w1 46 .neg [.tm 45],w1 47 (.conv .u64) [.tm 46],w1 49 (.idxArr 2 2) [.tm 5,.cn (.int .i64 1)],Zw 50 2 49,Zu 51 9,Zy 52 1 7,Zv 53 1 52,w1 54 .neg [.tm 53],w1 55 (.conv .u64) [.tm 54],w1 48 (.call 124) [.tm 42,.tm 43,.tm 47],w1 57 (.idxArr 2 2) [.tm 5,.cn (.int .i64 0)],w1 56 (.call 124) [.tm 50,.tm 51,.tm 55],ZS 2 57 48,w1 58 (.idxArr 2 2) [.tm 5,.cn (.int .i64 1)],ZS 2 58 56])))))) (.region [Zp 59 12 1,Zm 12 59]))))))) (.seq (.block 2 (ZR [u1 61 (.idxArr 2 2) [.tm 4,.cn (.int .i64 0)],Zt 62 2 61,u1 63 (.idxArr 2 2) [.tm 5,.cn (.int .i64 1)],Zt 64 2 63,Zd 65 125 62 64,Zm 60 65] (ZC 60 (ZR [Zi 2 1,u1 3 .mov [.cn (.bool true)]] .ret) (ZR [u1 67 (.idxArr 2 2) [.tm 5,.cn (.int .i64 0)],Zt 68 2 67,u1 69 (.idxArr 2 2) [.tm 4,.cn (.int .i64 1)],Zt 70 2 69,Zd 71 125 68 70,Zm 66 71] (ZC 66 (ZR [Zi 2 (-1),u1 3 .mov [.cn (.bool true)]] .ret) .skip))))) (ZR [Zi 2 0,u1 3 .mov [.cn (.bool false)]] .ret)))))⟩
theorem YqG:Yn Yb Tryz.f87=some v87:=by kernel_rfl
structure Gss where
 u0:Int×Int
 u1:Int×Int
 d0:Int×Int
 d1:Int×Int
def Gss.ok(s:Gss):Prop:=okL s.u0/\okL s.u1/\okL s.d0/\okL s.d1
def J9(s:Gss)(x:Int×Int):Gss:=
 if 0<=x.2 then { s with u0:=X2 s.u0 (XN x.1).1 x.2,u1:=X2 s.u1 (XN x.1).2 x.2}
 else { s with d0:=X2 s.d0 (XN x.1).1 (-x.2),d1:=X2 s.d1 (XN x.1).2 (-x.2)}
def gss0:Gss:=⟨(0,0),(0,0),(0,0),(0,0)⟩
def Hh(l:List (Int×Int)):Int×Bool:=
 let s:=l.foldl J9 gss0
 if Ub s.u0 s.d1=true then(1,true)else if Ub s.d0 s.u1=true then(-1,true)else(0,false)
theorem Ad(a:Int×Int)(x y:Int)(h:okL a):okL (X2 a x y):=by
 unfold X2
 exact⟨X9 _,Int.emod_nonneg _ (by decide),by show _%_<=_;omega⟩
theorem Io(s:Gss)(x:Int×Int)(h:s.ok):(J9 s x).ok:=by
 obtain⟨h1,h2,h3,h4⟩:=h
 unfold J9
 split
 ·exact⟨Ad _ _ _ h1,Ad _ _ _ h2,h3,h4⟩
 ·exact⟨h1,h2,Ad _ _ _ h3,Ad _ _ _ h4⟩
theorem Ns:∀(f:Nat)(S a b:Int),(0<=S/\S<=18446744073709551615)->(0<=(Xz f S a b).1/\(Xz f S a b).1<=18446744073709551615)/\0<=(Xz f S a b).2/\(Xz f S a b).2<=18446744073709551615
 |0,S,a,b,h=>⟨h,X9 _⟩
 |f+1,S,a,b,h=>by
  rw[Xz]
  split
  ·split
   ·split
    ·exact⟨X9 _,X9 _⟩
    ·exact Ns f _ _ _ (Ha _ _)
   ·split
    ·exact⟨X9 _,X9 _⟩
    ·exact Ns f _ _ _ (Ha _ _)
  ·split
   ·split
    ·exact⟨X9 _,X9 _⟩
    ·exact Ns f _ _ _ (Ha _ _)
   ·split
    ·exact⟨X9 _,X9 _⟩
    ·exact Ns f _ _ _ (Ha _ _)
theorem Ylx(n:Int)(hn:n<=4611686018427387904):(0<=(XN n).1/\(XN n).1<=18446744073709551615)/\0<=(XN n).2/\(XN n).2<=18446744073709551615:=by
 unfold XN
 split
 ·exact⟨X9 _,X9 _⟩
 ·have hb1:Y6 n.toNat<=63:=bitsN_le.2 (by have:(2:Nat)^63=9223372036854775808:=rfl;omega)
  exact Ns _ _ _ _ ⟨by omega,by omega⟩
def guessC:Ctr:={ alias:=false,of:=fun l=>match l with
 | [.vs _ _ n sz get]=> .ex (List (Int×Int)) fun l=> .pre (lsP 2 Yw n sz get l/\(∀x,x∈l->okT x)/\n<=100) (.fin (.tup [.int .i64 (Hh l).1,.bool (Hh l).2]) [])
 |_=>noC}
def RA7:Env:=mkE [(123,quickC),(124,lpC),(125,loC)] []
theorem Yd6:YD Yb RA7:=eo (by kernel_rfl) ⟨⟨Ylz,_,Tryz.func123,rfl,rfl⟩,⟨lp_c,_,Tryz.func124,rfl,rfl⟩,⟨lo_c,_,Tryz.func125,rfl,rfl⟩,trivial⟩ trivial
theorem CE{k:SV->List HO->Prop}{al:Bool}{hp:List HO}{κ:IntKind}{x:Int}{b:Bool}(h:k (.tup [.int κ x,.bool b]) []):Jz al k (.tup [.int κ x,.bool b]) hp:=
 Kv (show k _ []from h) (JG (.tup [.int κ x,.bool b]) ⟨trivial,trivial,trivial⟩) (fun _=>by simp [Y3,Y5])
theorem Yhw:guessC.ok Yb 87:=by
 refine Yy Tryz.func87 YqG Yd6 500 guessC fun args k h=>?_
 simp only[guessC]at h
 split at h
 ·rename_i tt z n sz get
  obtain⟨l,⟨⟨rfl,rfl,hg⟩,hl,hn⟩,h⟩:=h
  refine⟨[.vs tt z l.length 2 (fun k=>Yw (l.getD k default))],⟨⟨id,rfl,rfl,rfl,hg⟩,trivial⟩,?_⟩
  dsimp only[v87,Yw,go_sem,reduceIte,Ya]
  simp only[Yd,Ya,Ye,reduceCtorEq,Yc]
  refine Loop.keep [0,3,0,4,0] (Nat×Gss) (fun s=>[(12,.int .i64 s.1)]) (fun s=>[(0,.own false 2 2 (Jt 2 [.int .u64 s.2.u0.1,.int .u64 s.2.u0.2,.int .u64 s.2.u1.1,.int .u64 s.2.u1.2])),(1,.own false 2 2 (Jt 2 [.int .u64 s.2.d0.1,.int .u64 s.2.d0.2,.int .u64 s.2.d1.1,.int .u64 s.2.d1.2]))]) [] (fun s=>s.1<=l.length/\s.2=(l.take s.1).foldl J9 gss0/\s.2.ok) (fun s=>l.length-s.1) ?_ ?_
  ·refine⟨(0,gss0),⟨by simp only;omega,rfl,by simp [Gss.ok,gss0,okL]⟩,?_⟩
   dsimp only[gss0,go_sem,reduceIte,Ya]
   simp only[Yf]
   exact⟨by decide,by decide,rfl⟩
  ·rintro⟨i,G⟩ ⟨hi,hG,hok⟩
   dsimp only at hi hG hok
   dsimp only[RA7,Yk,quickC,lpC,loC,Yw,Yj,Int.reduceToNat,Nat.reduceMul,Int.toNat_zero,Int.toNat_one,go_sem,reduceIte,Ya]
   simp only[Yd,Ya,Ye,reduceCtorEq,Yc]
   refine⟨fun hlt=>?_,fun hge=>?_⟩
   ·have hx:=hl _ (KZ (by omega:i<l.length))
    generalize hxe:l.getD i default=x at hx⊢
    obtain⟨q0,q1,q2,q3⟩:=hx
    have hstep:(l.take (i+1)).foldl J9 gss0=J9 G x:=by
     rw[Vm (by omega),<-hG,hxe]
    obtain⟨g1,g2⟩:=Ylx x.1 (by omega)
    have hok':=Io G x hok
    obtain⟨o1,o2,o3,o4⟩:=hok
    refine⟨⟨by omega,by omega⟩,⟨by omega,by omega⟩,by decide,by decide,fun hc=>?_,fun hc=>?_⟩
    ·have ew:IntKind.u64.wrap x.2=x.2:=Wp _ (by omega)
     rw[ew]
     refine⟨by decide,by decide,by decide,by decide,⟨o1,g1,by omega,by omega⟩,by decide,⟨o2,g2,by omega,by omega⟩,by decide,by decide,by decide,(i+1,J9 G x),⟨by simp only;omega,hstep.symm,hok'⟩,by simp only;omega,?_⟩
     rw[Yg ((i:Int)+1) (by omega)]
     simp only[J9,if_pos hc]
     simp only[Yf]
     refine⟨⟨by decide,by decide,by simp⟩,fun j hj=>?_⟩
     match j,hj with
     |0,_=>exact⟨⟨rfl,rfl⟩,⟨rfl,rfl⟩,trivial⟩
     |1,_=>exact⟨⟨rfl,rfl⟩,⟨rfl,rfl⟩,trivial⟩
    ·have en:IntKind.i64.wrap (0-x.2)= -x.2:=by rw[Yg _ (by omega)];omega
     rw[en]
     have ew:IntKind.u64.wrap (-x.2)= -x.2:=Wp _ (by omega)
     rw[ew]
     refine⟨by decide,by decide,by decide,by decide,⟨o3,g1,by omega,by omega⟩,by decide,⟨o4,g2,by omega,by omega⟩,by decide,by decide,by decide,(i+1,J9 G x),⟨by simp only;omega,hstep.symm,hok'⟩,by simp only;omega,?_⟩
     rw[Yg ((i:Int)+1) (by omega)]
     simp only[J9,if_neg hc]
     simp only[Yf]
     refine⟨⟨by decide,by decide,by simp⟩,fun j hj=>?_⟩
     match j,hj with
     |0,_=>exact⟨⟨rfl,rfl⟩,⟨rfl,rfl⟩,trivial⟩
     |1,_=>exact⟨⟨rfl,rfl⟩,⟨rfl,rfl⟩,trivial⟩
   ·obtain rfl:i=l.length:=by omega
    rw[Xt]at hG
    rw[Hh,<-hG]at h
    refine⟨by decide,by decide,by decide,by decide,fun hc=>?_,fun hc=>⟨by decide,by decide,by decide,by decide,fun hd=>?_,fun hd=>?_⟩⟩
    ·rw[show Ub G.u0 G.d1=true from hc]at h
     exact CE h
    ·rw[show Ub G.u0 G.d1=false from hc,show Ub G.d0 G.u1=true from hd]at h
     exact CE h
    ·rw[show Ub G.u0 G.d1=false from hc,show Ub G.d0 G.u1=false from hd]at h
     exact CE h
 ·exact h.1.elim
theorem ML(a:Nat):hiW (a:Int)=((a*a/18446744073709551616:Nat):Int):=by
 show(a:Int)*a/18446744073709551616=_
 rw[Int.natCast_ediv,Qr];rfl
theorem Lu(a:Nat):loW (a:Int)=((a*a%18446744073709551616:Nat):Int):=by
 show(a:Int)*a%18446744073709551616=_
 rw[Int.natCast_emod,Qr];rfl
theorem PN(x:Nat):Qz (x:Int)=((x/9223372036854775808:Nat):Int):=NH (s:=63) (by decide)
theorem PK(x:Nat):sl1 (x:Int)=((x*2%18446744073709551616:Nat):Int):=by
 show IntKind.u64.wrap ((x:Int)*2^min (Xs 1) 64)=_
 rw[show(2:Int)^min (Xs 1) 64=2 from rfl,A8,Int.natCast_emod,Qr];rfl
theorem Ygh{M x:Nat}(hM:0<M):x/(2*M)*2+x%(2*M)/M=x/M:=by
 have e1:x/(2*M)=x/M/2:=by rw[Yl,K8]
 have e2:x%(2*M)/M=x/M%2:=by
  rw[Yl,Nat.mod_mul_right_div_self]
 rw[e1,e2];omega
theorem Yad{h b:Nat}(hb:b<2):(h*2||| b)=h*2+b:=by
 have:=Nat.two_pow_add_eq_or_of_lt (i:=1) (b:=b) (by simpa using hb) h
 rw[QO]at this
 rw[Yl h 2,this]
theorem Ta{a:Nat}(ha:a*a<18446744073709551616*9223372036854775808):Wz (hiW (a:Int)) (loW (a:Int))=((a*a/9223372036854775808:Nat):Int):=by
 show JR .or .u64 (sl1 (hiW (a:Int))) (Qz (loW (a:Int)))=_
 rw[ML,Lu,PK,PN]
 generalize a*a=x at*
 have h1:x/18446744073709551616<9223372036854775808:=Nat.div_lt_of_lt_mul ha
 have h2:x%18446744073709551616/9223372036854775808<2:=Nat.div_lt_of_lt_mul (Kj _ (by decide))
 have h3:=Ygh (M:=9223372036854775808) (x:=x) (by decide)
 rw[show 2*9223372036854775808=18446744073709551616 from rfl]at h3
 generalize x/18446744073709551616=h at*
 generalize x%18446744073709551616/9223372036854775808=l at*
 rw[QB (by omega),Se (by omega) (by omega),Yad h2,h3]
theorem SB{x d:Nat}(hd:0<d)(h:x%d=0):YV x d=x/d:=by
 unfold YV
 rw[if_neg]
 have:=KP x d
 rw[Yl]at this
 omega
theorem SC{x d:Nat}(hd:0<d)(h:x%d≠0):YV x d=x/d+1:=by
 unfold YV
 rw[if_pos]
 have:=KP x d
 rw[Yl]at this
 omega
theorem YjS{x M:Nat}(hM:0<M):x%(2*M)*2%(2*M)=x%M*2:=by
 have e:x%(2*M)%M=x%M:=Nat.mod_mul_left_mod ..
 rw[<-e]
 generalize x%(2*M)=y at*
 rw[Yl y 2,Nat.mul_mod_mul_left,Yl]
theorem Yb5(b:Nat):(0<sl1 (loW (b:Int)))↔b*b%9223372036854775808≠0:=by
 rw[Lu,PK]
 have h:=YjS (x:=b*b) (M:=9223372036854775808) (by decide)
 rw[show 2*9223372036854775808=18446744073709551616 from rfl]at h
 rw[h]
 omega
theorem Ycw{z:Nat}(h:z<18446744073709551616):(IntKind.u64.wrap ((z:Int)+1)=0↔z+1=18446744073709551616)/\(z+1<18446744073709551616->IntKind.u64.wrap ((z:Int)+1)=((z+1:Nat):Int)):=by
 rw[A8]
 constructor <;> omega
theorem Sr{S b:Nat}(hS:S<9223372036854775808)(hb:b<2):JR .or .u64 (sl1 (S:Int)) ((b:Nat):Int)=((2*S+b:Nat):Int):=by
 rw[PK,QB (by omega),Se (by omega) (by omega),Yad hb,Yl]
theorem AT{S f:Nat}(hf:f<=64)(h:S*2^f<18446744073709551616):shW (S:Int) f=((S*2^f:Nat):Int):=PF hf h
theorem uS{S:Nat}(hS:S<18446744073709551615):IntKind.u64.wrap ((S:Int)+1)=((S+1:Nat):Int):=by rw[Wp _ (by omega)];rfl
def Ma(p:Nat×Nat):Int×Int:=((p.1:Int),(p.2:Int))
theorem Yly:∀(f S a b:Nat),f<=28->S<2^(34-f)->9223372036854775808<=a->a<=b->b<18446744073709551616->
 Xz f (S:Int) (a:Int) (b:Int)=Ma (gl 9223372036854775808 true f a b S):=by
 intro f
 induction f with
 |zero=>
  intro S a b _ hS _ _ _
  rw[show(2:Nat)^(34-0)=17179869184 from rfl]at hS
  rw[Xz,gl,Ma,uS (by omega)]
 |succ f ih=>
  intro S a b hf hS ha hab hb
  have e34:(2:Nat)^(34-f)=2*2^(34-(f+1)):=by rw[show 34-f=34-(f+1)+1 by omega,YH,Yl]
  have hS2:S<17179869184:=Qt hS (by rw[show 17179869184=2^34 from rfl];exact Kp (by decide) (by omega))
  have stop:(shW (S:Int) (f+1),shW (IntKind.u64.wrap ((S:Int)+1)) (f+1))=Ma (S*2^(f+1),(S+1)*2^(f+1)):=by
   have hp:(2:Nat)^(34-(f+1))*2^(f+1)=17179869184:=by rw[<-Yo,show 34-(f+1)+(f+1)=34 by omega]
   have h1:S*2^(f+1)<=2^(34-(f+1))*2^(f+1):=Yp _ (JZ hS)
   have h2:(S+1)*2^(f+1)<=2^(34-(f+1))*2^(f+1):=Yp _ hS
   rw[uS (by omega),AT (by omega) (by omega),AT (by omega) (by omega)];rfl
  have haa:9223372036854775808*9223372036854775808<=a*a:=YX ha ha
  have hbb:b*b<18446744073709551616*18446744073709551616:=Nat.mul_lt_mul_of_lt_of_le hb (JZ hb) (by decide)
  have hab2:a*a<=b*b:=YX hab hab
  have kA:Qz (hiW (a:Int))=((a*a/170141183460469231731687303715884105728:Nat):Int):=by rw[ML,PN,K8]
  have kB:Qz (hiW (b:Int))=((b*b/170141183460469231731687303715884105728:Nat):Int):=by rw[ML,PN,K8]
  have hS0:=Sr (S:=S) (b:=0) (by omega) (by decide)
  have hS1:=Sr (S:=S) (b:=1) (by omega) (by decide)
  have eb:IntKind.u64.wrap (Wz (hiW (b:Int)) (loW (b:Int))+1)=IntKind.u64.wrap (Wz (hiW (b:Int)) (loW (b:Int))+1):=rfl
  rw[Xz,gl,kA,kB]
  by_cases c1:a*a<170141183460469231731687303715884105728
  ·have z1:a*a/170141183460469231731687303715884105728=0:=QN c1
   have c1':a*a/9223372036854775808<2*9223372036854775808:=Nat.div_lt_of_lt_mul c1
   have la:9223372036854775808<=a*a/9223372036854775808:=(Wv (by decide)).2 haa
   rw[if_pos c1',z1,if_pos (by rfl),Ta c1,hS0]
   by_cases c2:b*b<170141183460469231731687303715884105728
   ·have z2:b*b/170141183460469231731687303715884105728=0:=QN c2
    have c2':b*b/9223372036854775808<18446744073709551616:=Nat.div_lt_of_lt_mul c2
    have hq:a*a/9223372036854775808<=b*b/9223372036854775808:=Nat.div_le_div_right hab2
    rw[z2,Ta c2]
    obtain⟨u1,u2⟩:=Ycw c2'
    by_cases c3:b*b%9223372036854775808≠0
    ·rw[if_pos ((Yb5 b).2 c3),SC (by decide) c3]
     by_cases c4:b*b/9223372036854775808+1=18446744073709551616
     ·rw[if_pos (by rw[decide_eq_true (u1.2 c4)];simp),if_neg (by omega)]
      exact stop
     ·rw[if_neg (by rw[decide_eq_false (fun h=>c4 (u1.1 h))];simp),if_pos (by omega),u2 (by omega)]
      exact ih _ _ _ (by omega) (by omega) la (by omega) (by omega)
    ·rw[if_neg (fun h=>c3 ((Yb5 b).1 h)),SB (by decide) (by omega)]
     rw[if_neg (by rw[decide_eq_false (show¬((b*b/9223372036854775808:Nat):Int)=0 by omega)];simp),if_pos (by omega)]
     exact ih _ _ _ (by omega) (by omega) la (by omega) (by omega)
   ·have hz2:1<=b*b/170141183460469231731687303715884105728:=(Wv (by decide)).2 (by omega)
    have hc:¬YV (b*b) 9223372036854775808<2*9223372036854775808:=by
     have h1:=I7 (b*b) 9223372036854775808
     have h2:2*9223372036854775808<=b*b/9223372036854775808:=(Wv (by decide)).2 (by omega)
     omega
    have hk:(!decide (((0:Nat):Int)=((b*b/170141183460469231731687303715884105728:Nat):Int)))=true:=by
     rw[decide_eq_false (by omega)];rfl
    rw[if_neg hc,hk]
    simp only[Bool.true_or,if_true,ite_self]
    exact stop
  ·have e1:a*a/170141183460469231731687303715884105728=1:=by
    have h1:1<=a*a/170141183460469231731687303715884105728:=(Wv (by decide)).2 (by omega)
    have h2:a*a/170141183460469231731687303715884105728<2:=Nat.div_lt_of_lt_mul (by omega)
    omega
   have e2:b*b/170141183460469231731687303715884105728=1:=by
    have h1:1<=b*b/170141183460469231731687303715884105728:=(Wv (by decide)).2 (by omega)
    have h2:b*b/170141183460469231731687303715884105728<2:=Nat.div_lt_of_lt_mul (by omega)
    omega
   have c1':¬a*a/9223372036854775808<2*9223372036854775808:=by
    have h2:2*9223372036854775808<=a*a/9223372036854775808:=(Wv (by decide)).2 (by omega)
    omega
   have ea:a*a/9223372036854775808/2=a*a/18446744073709551616:=by rw[K8]
   have hal:9223372036854775808<=a*a/18446744073709551616:=(Wv (by decide)).2 (by omega)
   have hbl:9223372036854775808<=b*b/18446744073709551616:=(Wv (by decide)).2 (by omega)
   have hq:a*a/18446744073709551616<=b*b/18446744073709551616:=Nat.div_le_div_right hab2
   have hbu:b*b/18446744073709551616<18446744073709551616:=Nat.div_lt_of_lt_mul hbb
   rw[if_neg c1',e1,e2,if_neg (by decide),hS1,ea,YfZ (by decide),show 9223372036854775808*2=18446744073709551616 from rfl,ML,ML,Lu]
   obtain⟨u1,u2⟩:=Ycw hbu
   by_cases c3:b*b%18446744073709551616≠0
   ·rw[if_pos (by omega),SC (by decide) c3]
    by_cases c4:b*b/18446744073709551616+1=18446744073709551616
    ·rw[if_pos (by rw[decide_eq_true (u1.2 c4)];simp),if_pos (by rw[decide_eq_true (show 18446744073709551616<=b*b/18446744073709551616+1 by omega)];rfl)]
     exact stop
    ·rw[if_neg (by rw[decide_eq_false (fun h=>c4 (u1.1 h))];simp),if_neg (by rw[decide_eq_false (show¬18446744073709551616<=b*b/18446744073709551616+1 by omega)];simp),u2 (by omega)]
     exact ih _ _ _ (by omega) (by omega) hal (by omega) (by omega)
   ·rw[if_neg (by omega),SB (by decide) (by omega)]
    rw[if_neg (by rw[decide_eq_false (show¬((b*b/18446744073709551616:Nat):Int)=0 by omega)];simp),if_neg (by rw[decide_eq_false (show¬18446744073709551616<=b*b/18446744073709551616 by omega)];simp)]
    exact ih _ _ _ (by omega) (by omega) hal (by omega) (by omega)
def lgK(n:Nat):Nat:=Y6 n-1
theorem MS{n:Nat}(h:1<=n):2^lgK n<=n/\n<2^(lgK n+1):=by
 have h0:Y6 n≠0:=fun e=>by have:=bitsN_eq0.1 e;omega
 unfold lgK
 constructor
 ·refine XF fun hh=>?_
  have:=bitsN_le.2 hh
  omega
 ·rw[show Y6 n-1+1=Y6 n by omega];exact F3 n
theorem WX{n m:Nat}(hm:0<m)(h:n<2^m):lgK n<m:=by
 have:=bitsN_le.2 h
 unfold lgK;omega
theorem IH{n:Nat}(h1:1<=n)(h2:n<4611686018427387904):Qa (n:Int)=true->n=2^lgK n:=by
 intro h
 unfold Qa at h
 have h:=of_decide_eq_true h
 have e:IntKind.i64.wrap ((n:Int)-1)=((n-1:Nat):Int):=by rw[Yg _ (by omega)];omega
 rw[e]at h
 have h3:IntKind.i64.wrap ((BitVec.ofInt 64 (n:Int)&&&BitVec.ofInt 64 ((n-1:Nat):Int)).toNat:Int)=0:=h
 rw[BitVec.toNat_and,M3 (by omega),M3 (by omega)]at h3
 have hle:n&&&(n-1)<=n:=Nat.and_le_left
 rw[Yg _ (by omega)]at h3
 have h4:n&&&(n-1)=0:=by omega
 obtain⟨b1,b2⟩:=MS h1
 refine Nat.le_antisymm (XF fun hh=>?_) b1
 have t1:n.testBit (lgK n)=true:=by
  rw[Nat.testBit_eq_decide_div_mod_eq]
  have:n/2^lgK n=1:=by
   have g1:1<=n/2^lgK n:=(Wv (YB (by decide))).2 (by omega)
   have g2:n/2^lgK n<2:=Nat.div_lt_of_lt_mul (by rw[<-YH];exact b2)
   omega
  rw[this];rfl
 have t2:(n-1).testBit (lgK n)=true:=by
  rw[Nat.testBit_eq_decide_div_mod_eq]
  have:(n-1)/2^lgK n=1:=by
   have g1:1<=(n-1)/2^lgK n:=(Wv (YB (by decide))).2 (by omega)
   have g2:(n-1)/2^lgK n<2:=Nat.div_lt_of_lt_mul (by rw[<-YH];omega)
   omega
  rw[this];rfl
 have t3:(n&&&(n-1)).testBit (lgK n)=true:=by rw[Nat.testBit_and,t1,t2];rfl
 rw[h4,Nat.zero_testBit]at t3
 cases t3
def qN(n:Nat):Nat×Nat:=if Qa (n:Int)=true then(lgK n*2^28,lgK n*2^28)else gl 9223372036854775808 true 28 (n*2^(63-lgK n)) (n*2^(63-lgK n)) (lgK n)
def lN(n p:Nat):Nat×Nat:=if Qa (n:Int)=true then(lgK n*2^p,lgK n*2^p)else gl (2^(2*p+64)) false p (n*2^(2*p+64-lgK n)) (n*2^(2*p+64-lgK n)) (lgK n)
theorem Gx{n D:Nat}(h1:1<=n)(hD:lgK n<=D):2^D<=n*2^(D-lgK n)/\n*2^(D-lgK n)<2*2^D/\2^lgK n*(n*2^(D-lgK n))=n*2^D:=by
 obtain⟨b1,b2⟩:=MS h1
 have e:2^D=2^lgK n*2^(D-lgK n):=by rw[<-Yo];congr 1;omega
 refine⟨?_,?_,?_⟩
 ·rw[e];exact Yp _ b1
 ·rw[e,<-YA,<-Nat.pow_succ']
  exact ZB b2 (YB (by decide))
 ·rw[e,Jd]
theorem Ylw{n:Nat}(h1:1<=n)(h2:n<4611686018427387904):XN (n:Int)=Ma (qN n):=by
 have hk:lgK n<62:=WX (by decide) h2
 unfold XN qN
 rw[Yj]
 by_cases c:Qa (n:Int)=true
 ·rw[if_pos c,if_pos c]
  have e:shW ((Y6 n-1:Nat):Int) 28=((lgK n*2^28:Nat):Int):=AT (by decide) (by show lgK n*268435456<_;omega)
  have e:IntKind.u64.wrap (((Y6 n-1:Nat):Int)*2^min (Xs 28) 64)=((lgK n*2^28:Nat):Int):=e
  rw[e];rfl
 ·rw[if_neg c,if_neg c]
  obtain⟨m1,m2,m3⟩:=Gx (D:=63) h1 (by omega)
  have e:shW (n:Int) (63-(Y6 n-1))=((n*2^(63-lgK n):Nat):Int):=AT (by omega) (Qt m2 (by decide))
  rw[e]
  exact Yly 28 (lgK n) _ _ (by decide) (by rw[show(2:Nat)^(34-28)=64 from rfl];omega) m1 (Yt _) m2
theorem Yi3{e k:Nat}(h:e<=32*k):2^e<=4294967296^k:=by
 rw[GL]
 exact Kp (by decide) h
theorem YfW{x e k:Nat}(h:x<2^e)(he:e<=32*k):nl x<=k:=nl_le.2 (Qt h (Yi3 he))
theorem Hb{x e:Nat}(h:x<2^e)(he:e<=32*512):JL x=x:=by
 unfold JL
 rw[if_pos]
 exact YfW (k:=512) h he
theorem YbU(a d:Nat)(hd:0<d):shF a (-(d:Int))=a/2^d:=by
 unfold shF
 rw[if_pos (by omega),show(- -(d:Int)).toNat=d by omega]
theorem YbV(a d:Nat):shF a (d:Int)=a*2^d:=by
 unfold shF
 rw[if_neg (by omega),Yj]
theorem Ff{a d e:Nat}(h:a*2^d<2^e)(he:e<=32*512):Kf a (d:Int) false=a*2^d:=by
 unfold Kf
 rw[Bool.false_and,if_neg (by decide),YbV,Hb h he]
theorem OA{a d e:Nat}(hd:0<d)(h:a<2^e)(he:e<=32*512):Kf a (-(d:Int)) false=a/2^d:=by
 unfold Kf
 rw[Bool.false_and,if_neg (by decide),YbU _ _ hd,Hb (JC (XD _ _) h) he]
theorem Oz{a d e:Nat}(hd:0<d)(h:a<2^e)(he:e+1<=32*512):Kf a (-(d:Int)) true=YV a (2^d):=by
 have h1:a/2^d<2^e:=JC (XD _ _) h
 have h2:a/2^d*2^d<2^e:=JC (XE _ _) h
 unfold Kf YV
 rw[Bool.true_and,YbU _ _ hd,Hb h1 (by omega),Jx,YbV,Hb h2 (by omega)]
 by_cases c:a/2^d*2^d<a
 ·rw[if_pos (decide_eq_true c),if_pos c]
  exact Hb (e:=e+1) (by rw[YH];omega) he
 ·rw[if_neg (by rw[decide_eq_false c];decide),if_neg c]
theorem G4{a b e:Nat}(h:a+b<2^e)(he:e<=32*512):Xu a b=a+b:=Hb h he
theorem Fh{a b e:Nat}(h:a*b<2^e)(he:e<=32*512):Xj a b=a*b:=Hb h he
theorem Yjs{D:Nat}(hD0:64<=D)(hD:D<=4200):∀(f a b S q:Nat),a<=b->b<=2*2^D->S<2^(q-f)->f<=q->q<=4200->
 Xi (2*2^D) (D:Int) f a b S=gl (2^D) false f a b S:=by
 intro f
 induction f with
 |zero=>
  intro a b S q _ _ hS _ hq
  rw[Xi,gl,G4 (e:=q+1) (by
   have:=Nat.one_le_two_pow (n:=q)
   rw[YH];rw[Nat.sub_zero]at hS;omega) (by omega)]
 |succ f ih=>
  intro a b S q hab hb hS hfq hq
  have hbb:b*b<=2^(2*D+2):=by
   have:=YX hb hb
   rw[show 2*D+2=D+1+(D+1)by omega,Yo,YH,Yl (2^D)]
   exact this
  have haa:a*a<=b*b:=YX hab hab
  have l1:∀x,x<=2^(2*D+2)->x<2^(2*D+3):=fun x hx=>by
   have:(2:Nat)^(2*D+3)=2*2^(2*D+2):=by rw[Nat.pow_succ',]
   have:=Nat.one_le_two_pow (n:=2*D+2)
   omega
  have ea:Xj a a=a*a:=Fh (l1 _ (by omega)) (by omega)
  have eb:Xj b b=b*b:=Fh (l1 _ (by omega)) (by omega)
  have fa:Kf (a*a) (-(D:Int)) false=a*a/2^D:=OA (by omega) (l1 _ (by omega)) (by omega)
  have fb:Kf (b*b) (-(D:Int)) true=YV (b*b) (2^D):=Oz (by omega) (l1 _ (by omega)) (by omega)
  have hA:a*a/2^D<=YV (b*b) (2^D):=HY haa
  have hB:YV (b*b) (2^D)<=4*2^D:=ZK (by
   rw[show 2*D+2=2+D+D by omega,Yo,Yo]at hbb
   exact hbb)
  have hB2:YV (b*b) (2^D)<2^(D+3):=by
   have:(2:Nat)^(D+3)=8*2^D:=by rw[Yo,Yl]
   have:=Nat.one_le_two_pow (n:=D)
   omega
  have hq2:q-f=q-(f+1)+1:=by omega
  have hS2:2*S+1<2^(q-f):=by rw[hq2,YH];omega
  have hqq:(2:Nat)^(q-f)<=2^q:=Kp (by decide) (by omega)
  have es1:Kf S 1 false=2*S:=by
   have:=Ff (a:=S) (d:=1) (e:=q) (by rw[QO];omega) (by omega)
   rw[QO,Yl]at this
   exact this
  have es2:∀b,b<=1->Xu (2*S) b=2*S+b:=fun b hb=>G4 (e:=q) (by omega) (by omega)
  have hSf:(S+1)*2^(f+1)<=2^q:=by
   have:(2:Nat)^q=2^(q-(f+1))*2^(f+1):=by rw[<-Yo];congr 1;omega
   rw[this]
   exact Yp _ hS
  have hSf0:S*2^(f+1)<=(S+1)*2^(f+1):=Yp _ (by omega)
  have lq:∀x,x<=2^q->x<2^(q+1):=fun x hx=>by
   have:=Nat.one_le_two_pow (n:=q)
   rw[YH];omega
  have st1:Kf S ((f+1:Nat):Int) false=S*2^(f+1):=Ff (lq _ (by omega)) (by omega)
  have st2:Kf (Xu S 1) ((f+1:Nat):Int) false=(S+1)*2^(f+1):=by
   rw[G4 (e:=q+1) (lq _ (by
    have:(2:Nat)^(q-(f+1))<=2^q:=Kp (by decide) (by omega)
    omega)) (by omega)]
   exact Ff (lq _ (by omega)) (by omega)
  rw[Xi,gl,ea,eb,fa,fb,es1,st1,st2]
  by_cases c1:a*a/2^D<2*2^D
  ·rw[if_pos c1,if_pos c1]
   by_cases c2:YV (b*b) (2^D)<2*2^D
   ·rw[if_pos c2,if_pos c2,es2 0 (by omega),KO]
    exact ih _ _ _ q hA (by omega) (by omega) (by omega) hq
   ·rw[if_neg c2,if_neg c2]
  ·have g1:Kf (a*a/2^D) (-1) false=a*a/2^D/2:=by
    have:=OA (a:=a*a/2^D) (d:=1) (by decide) (JC hA hB2) (by omega)
    rw[QO]at this
    exact this
   have g2:Kf (YV (b*b) (2^D)) (-1) true=YV (YV (b*b) (2^D)) 2:=by
    have:=Oz (a:=YV (b*b) (2^D)) (d:=1) (by decide) hB2 (by omega)
    rw[QO]at this
    exact this
   rw[if_neg c1,if_neg c1,Bool.false_and,if_neg (by decide),g1,g2,es2 1 (by omega)]
   exact ih _ _ _ q (HY hA) (ZK (by omega)) (by omega) (by omega) hq
theorem Yjq{n p:Nat}(h1:1<=n)(h2:n<4611686018427387904)(hp:p<=2048):JV (n:Int) p=lN n p:=by
 have hk:lgK n<62:=WX (by decide) h2
 have hk2:lgK n<2^6:=by rw[show(2:Nat)^6=64 from rfl];omega
 unfold JV lN
 rw[Yj]
 by_cases c:Qa (n:Int)=true
 ·rw[if_pos c,if_pos c]
  have e:Kf (lgK n) (p:Int) false=lgK n*2^p:=Ff (e:=6+p) (by rw[Yo];exact ZB hk2 (YB (by decide))) (by omega)
  show(Kf (lgK n) (p:Int) false,Kf (lgK n) (p:Int) false)=_
  rw[e]
 ·rw[if_neg c,if_neg c]
  obtain⟨D,hD⟩:∃D,D=2*p+64:=⟨_,rfl⟩
  rw[<-hD]
  obtain⟨m1,m2,m3⟩:=Gx (D:=D) h1 (by omega)
  have hD1:2*2^D<2^(D+2):=by
   have:(2:Nat)^(D+2)=4*2^D:=by rw[Yo,Yl]
   have:=Nat.one_le_two_pow (n:=D)
   omega
  have ea:Kf n ((D:Int)-((Y6 n-1:Nat):Int)) false=n*2^(D-lgK n):=by
   rw[show((D:Int)-((Y6 n-1:Nat):Int))=((D-lgK n:Nat):Int)by unfold lgK at hk⊢;omega]
   exact Ff (e:=D+2) (by omega) (by omega)
  have e2:Kf 2 (D:Int) false=2*2^D:=Ff (e:=D+2) hD1 (by omega)
  show Xi (Kf 2 (D:Int) false) (D:Int) p (Kf n ((D:Int)-((Y6 n-1:Nat):Int)) false) (Kf n ((D:Int)-((Y6 n-1:Nat):Int)) false) (lgK n)=_
  rw[ea,e2]
  exact Yjs (by omega) (by omega) p _ _ _ (p+6) (Yt _) (JZ m2) (by rw[show p+6-p=6 by omega];exact hk2) (by omega) (by omega)
theorem Yaq{n:Nat}(h1:1<=n)(h2:n<4611686018427387904)(c:Qa (n:Int)=true)(p:Nat):2^(lgK n*2^p)<=n^(2^p)/\n^(2^p)<=2^(lgK n*2^p):=by
 have e0:=IH h1 h2 c
 have e:n^(2^p)=2^(lgK n*2^p):=by
  rw[Ym,<-e0]
 rw[e];exact⟨Yt _,Yt _⟩
theorem YaX{n:Nat}(h1:1<=n)(h2:n<4611686018427387904):2^(qN n).1<=n^(2^28)/\n^(2^28)<=2^(qN n).2:=by
 unfold qN
 by_cases c:Qa (n:Int)=true
 ·rw[if_pos c]
  exact Yaq h1 h2 c 28
 ·rw[if_neg c]
  have hk:lgK n<62:=WX (by decide) h2
  obtain⟨m1,m2,m3⟩:=Gx (D:=63) h1 (by omega)
  exact Bz _ true (by decide) 28 _ _ _ n (Yx m3) (Yx m3.symm) m1 (JZ m2)
theorem MR{n p:Nat}(h1:1<=n)(h2:n<4611686018427387904):2^(lN n p).1<=n^(2^p)/\n^(2^p)<=2^(lN n p).2:=by
 unfold lN
 by_cases c:Qa (n:Int)=true
 ·rw[if_pos c]
  exact Yaq h1 h2 c p
 ·rw[if_neg c]
  have hk:lgK n<62:=WX (by decide) h2
  obtain⟨m1,m2,m3⟩:=Gx (D:=2*p+64) h1 (by omega)
  exact Bz _ false (YB (by decide)) p _ _ _ n (Yx m3) (Yx m3.symm) m1 (JZ m2)
theorem I1{n p:Nat}(h1:1<=n)(h2:n<4611686018427387904)(hp:28<=p):(qN n).1*2^(p-28)<=(lN n p).1/\(lN n p).2<=(qN n).2*2^(p-28):=by
 unfold lN qN
 by_cases c:Qa (n:Int)=true
 ·rw[if_pos c,if_pos c]
  have e:lgK n*2^28*2^(p-28)=lgK n*2^p:=by
   rw[YA,<-Yo];congr 2;omega
  simp only
  rw[e];exact⟨Yt _,Yt _⟩
 ·rw[if_neg c,if_neg c]
  have hk:lgK n<62:=WX (by decide) h2
  have eM:(2:Nat)^(2*p+64)=9223372036854775808*2^(2*p+1):=by
   rw[show(9223372036854775808:Nat)=2^63 from rfl,<-Yo];congr 1;omega
  have eA:n*2^(2*p+64-lgK n)=2^(2*p+1)*(n*2^(63-lgK n)):=by
   rw[show 2*p+64-lgK n=2*p+1+(63-lgK n)by omega,Yo,Jd]
  have:=EU 9223372036854775808 (2^(2*p+1)) true (by decide) (YB (by decide)) (p-28) 28 (n*2^(63-lgK n)) (n*2^(63-lgK n)) (lgK n) _ _ (Yx eA.symm) (Yt _) (Yx eA)
  rw[<-eM,show 28+(p-28)=p by omega]at this
  exact this
end Go.Proofs.YtlhmikjnholpnaaGreatDoor
namespace Go.Proofs.YtlhmikjnholpnaaGreatDoor.Q
open Go Go.Vx
set_option maxRecDepth 100000
set_option maxHeartbeats 4000000
theorem Yob(a s:Nat):sqN a s false=a*a/32768^s:=by
 unfold sqN;rw[if_neg (fun h=>by cases h.1)]
theorem Yoa(a s:Nat):sqN a s true=YV (a*a) (32768^s):=by
 unfold sqN YV
 have h1:=KP (a*a) (32768^s)
 rw[Yl]at h1
 generalize a*a/32768^s*32768^s=p at*
 rcases Jc (a*a%32768^s)with h0|h0
 ·rw[if_neg (fun h=>h.2 h0),if_neg (by omega)]
 ·rw[if_pos ⟨rfl,by omega⟩,if_pos (by omega)]
theorem YhA(a:Nat):(a+1)/2=YV a 2:=by
 unfold YV;split <;> omega
def lgR(n many:Nat):Nat×Nat:=if n=2^lgK n then(lgK n*2^many,lgK n*2^many)
 else gl (2^(2*many+60)) false many (n*2^(2*many+60-lgK n)) (n*2^(2*many+60-lgK n)) (lgK n)
def v92:VF:=⟨95,[.tmp 4,.tmp 5],(ZR [u1 4 .mov [.cn .nil],u1 5 .mov [.cn .nil]] (ZR [Zi 6 0] (.seq (.block 0 (.loop (.seq (ZR [Zm 13 0,Zm 14 6,Zp 15 14 1,u1 16 (.conv .u64) [.tm 15],u1 17 .shr [.tm 13,.tm 16],Zq 18 .gtr 17 0] (ZC 18 .skip (.exit 0))) (.block 1 (.region [Zm 19 6,Zp 20 19 1,Zm 6 20]))))) (ZR [Zm 21 6,Zc 22 93 21,Zm 7 22] (.seq (ZR [Zm 23 0,Zm 24 6,u1 25 (.conv .u64) [.tm 24],u1 26 .shl [.cn (.int .i64 1),.tm 25],Zr 27 .eql 23 26] (ZC 27 (ZR [Zm 28 7,Zm 29 1,Zd 30 96 28 29,Zm 31 7,Zm 32 1,Zd 33 96 31 32,Zm 4 30,Zm 5 33] .ret) .skip)) (ZR [Zm 34 1,u1 35 (.ari .mul) [.cn (.int .i64 2),.tm 34],Zp 36 35 60,Zm 8 36] (ZR [Zm 37 0,Zc 38 93 37,Zm 39 8,Zm 40 6,Zo 41 .sub 39 40,Zd 42 96 38 41,Zm 9 42] (ZR [Zm 43 9,Zm 10 43] (ZR [u1 44 (.call 93) [.cn (.int .i64 1)],Zm 45 8,Zp 46 45 1,Zd 47 96 44 46,Zm 11 47] (.seq (ZR [Zi 12 0] (.block 2 (.loop (.seq (ZR [Zm 48 12,Zm 49 1,Zr 50 .lss 48 49] (ZC 50 .skip (.exit 2))) (.seq (.block 3 (ZR [Zm 53 9,Zm 54 8,u1 55 (.call 132) [.tm 53,.tm 54,.cn (.bool false)],Zm 9 55] (ZR [Zm 56 10,Zm 57 8,u1 58 (.call 132) [.tm 56,.tm 57,.cn (.bool true)],Zm 10 58] (ZR [Zm 59 9,Zm 60 11,Zd 61 95 59 60,Zq 62 .geq 61 0] (ZC 62 (ZR [Zm 63 9,u1 64 (.call 133) [.tm 63,.cn (.bool false)],Zm 9 64] (ZR [Zm 65 10,u1 66 (.call 133) [.tm 65,.cn (.bool true)],Zm 10 66] (.region [Zm 67 7,Zm 68 7,Zd 69 86 67 68,u1 70 (.call 93) [.cn (.int .i64 1)],Zd 71 86 69 70,Zm 7 71]))) (ZR [Zm 72 10,Zm 73 11,Zd 74 95 72 73,Zq 75 .lss 74 0] (ZC 75 (.region [Zm 76 7,Zm 77 7,Zd 78 86 76 77,Zm 7 78]) (ZR [Zm 79 7,Zm 80 1,Zm 81 12,Zo 82 .sub 80 81,Zd 83 96 79 82,Zm 84 7,u1 85 (.call 93) [.cn (.int .i64 1)],Zd 86 86 84 85,Zm 87 1,Zm 88 12,Zo 89 .sub 87 88,Zd 90 96 86 89,Zm 4 83,Zm 5 90] .ret)))))))) (.region [Zm 51 12,Zp 52 51 1,Zm 12 52])))))) (ZR [Zm 91 7,Zm 92 7,u1 93 (.call 93) [.cn (.int .i64 1)],Zd 94 86 92 93,Zm 4 91,Zm 5 94] .ret)))))))))))⟩
theorem YqM:Yn Yb Tryz.f92=some v92:=by kernel_rfl
def logC:Ctr:={ alias:=false,of:=fun l=>match l with
 | [.int .i64 n,.int .i64 q]=> .pre ((1<=n/\n<=1000000000001)/\0<=q/\q<=3840/\q%15=0) (.all Bool fun z=> .all Bool fun z'=> .fin (.tup [Yv z (lgR n.toNat q.toNat).1,Yv z' (lgR n.toNat q.toNat).2]) [])
 |_=>noC}
def Q3:Env:=mkE [(93,limbsC),(95,cmpC),(86,addC),(96,shiftC),(132,squareC),(133,halveC)] []
theorem YdS:YD Yb Q3:=eo (by kernel_rfl) ⟨⟨Aw,_,Tryz.func93,rfl,rfl⟩,⟨YaZ,_,Tryz.func95,rfl,rfl⟩,⟨Nt,_,Tryz.func86,rfl,rfl⟩,⟨Ya1,_,Tryz.func96,rfl,rfl⟩,⟨YlH,_,Tryz.func132,rfl,rfl⟩,⟨YlD,_,Tryz.func133,rfl,rfl⟩,trivial⟩ trivial
theorem ord_ge{a b:Nat}:0<=JM a b↔b<=a:=by
 unfold JM;split
 ·omega
 ·split <;> omega
theorem ord_lt{a b:Nat}:JM a b<0↔a<b:=by
 unfold JM;split
 ·omega
 ·split <;> omega
theorem pw15{e m:Nat}(h:e<15*m):2^e<32768^m:=by
 rw[show(32768:Nat)=2^15 by decide,<-Ym]
 exact Nat.pow_lt_pow_right (by decide) h
theorem Ua{x e m:Nat}(h:x<2^e)(he:e<15*m):nl x<=m:=nl_le.2 (Nat.lt_trans h (pw15 he))
theorem nsz{x q:Nat}(hq:q<=3840)(h:x<=16*2^(2*q+60)):nl x<=1000:=by
 have e:16*2^(2*q+60)=2^(2*q+64):=by rw[show 2*q+64=4+(2*q+60)by omega,Yo 2 4]
 rw[e]at h
 have h2:2^(2*q+64)<2^(2*q+65):=Nat.pow_lt_pow_right (by decide) (by omega)
 exact Ua (JC h h2) (by omega)
theorem Ycc{A M:Nat}(hM:0<M)(h:A<=2*M):A*A/M<=4*M/\YV (A*A) M<=4*M:=by
 have:A*A<=4*M*M:=Yh (YX h h) (by grind)
 exact⟨Nat.div_le_of_le_mul (by rw[Yl M];exact this),ZK this⟩
theorem YfY{x M:Nat}(h:x<=4*M):YV x 2<=2*M:=ZK (by omega)
theorem YlE:logC.ok Yb 92:=by
 refine Yy Tryz.func92 YqM YdS 400 logC fun args k h=>?_
 simp only[logC]at h
 split at h
 ·rename_i n q
  obtain⟨⟨⟨hn1,hn2⟩,h0,h1,hq⟩,h⟩:=h
  obtain⟨n,rfl⟩:=Un (show 0<=n by omega)
  obtain⟨q,rfl⟩:=Un h0
  rw[Yj,Yj]at h
  refine⟨[.int .i64 n,.int .i64 q],by simp [leL,le],?_⟩
  (try dsimp only[v92,go_sem,reduceIte,Ya])
  (try simp only[Yd,Ya,Ye,reduceCtorEq,Yc])
  obtain⟨b1,b2⟩:=MS (n:=n) (by omega)
  have hk40:lgK n<40:=by
   rcases YY (lgK n) 40 with h'|h'
   ·exact h'
   ·have:=Yh (Kp (by decide) h':2^40<=2^lgK n) b1
    omega
  refine Loop.keep [0,0] Nat (fun i=>[(6,.int .i64 i)]) (fun _=>[]) [] (fun i=>i<=lgK n) (fun i=>lgK n-i) ?_ ?_
  ·refine⟨0,JJ _,?_⟩
   (try dsimp only[go_sem,reduceIte,Ya])
   simp only[Yf]
   rfl
  ·rintro i hi
   (try dsimp only[Yj,go_sem,reduceIte,Ya])
   (try simp only[Yd,Ya,Ye,reduceCtorEq,Yc])
   have w1:IntKind.i64.wrap ((i:Int)+1)=((i+1:Nat):Int):=by rw[Yg _ (by omega)];omega
   have w2:IntKind.u64.wrap ((i+1:Nat):Int)=((i+1:Nat):Int):=Wp _ (by omega)
   have w3:(n:Int).fdiv (2^min (i+1) 64)=((n/2^(i+1):Nat):Int):=NH (by omega)
   simp only[w1,w2,Yj,w3]
   refine⟨by omega,fun hlt=>?_,fun hge=>?_⟩
   ·have hlt:i<lgK n:=by
     rcases YY i (lgK n)with h'|h'
     ·exact h'
     ·obtain rfl:i=lgK n:=by omega
      rw[QN b2]at hlt;exact absurd hlt (by decide)
    refine⟨i+1,by omega,by omega,?_⟩
    simp only[Yf]
   ·have hik:i=lgK n:=by
     rcases YY i (lgK n)with h'|h'
     ·have h2:2^(i+1)<=n:=Yh (Kp (by decide) h') b1
      have:=Nat.div_pos h2 (YB (by decide))
      generalize n/2^(i+1)=c at*
      omega
     ·omega
    (try dsimp only[Q3,Yk,limbsC,shiftC,Yv,Yj,go_sem,reduceIte,Ya])
    (try simp only[Yd,Ya,Ye,reduceCtorEq,Yc])
    have v1:IntKind.u64.wrap (i:Int)=(i:Int):=Wp _ (by omega)
    have v2:IntKind.i64.wrap (1*2^min i 64)=((2^i:Nat):Int):=by
     have e4:min i 64=i:=by omega
     have e5:(1:Int)*2^i=((2^i:Nat):Int):=by simp
     have e6:2^i<=n:=by rw[hik];exact b1
     rw[e4,e5]
     generalize 2^i=P at e6⊢
     exact Yg _ (by omega)
    have v3:IntKind.i64.wrap (IntKind.i64.wrap (2*(q:Int))+60)=((2*q+60:Nat):Int):=by
     rw[Yg (2*(q:Int)) (by omega),Yg _ (by omega)];omega
    have v4:IntKind.i64.wrap (((2*q+60:Nat):Int)-(i:Int))=((2*q+60-i:Nat):Int):=by
     rw[Yg _ (by omega)];omega
    have v5:IntKind.i64.wrap (((2*q+60:Nat):Int)+1)=((2*q+61:Nat):Int):=by
     rw[Yg _ (by omega)];omega
    have n1:nl i<=1:=nl_le.2 (by omega)
    have n2:nl n<=3:=nl_le.2 (by omega)
    simp only[v1,Yj,v2,v3,v4,v5]
    refine⟨⟨by omega,by omega⟩,by omega,fun he=>⟨i,⟨YO (by omega),by omega,by omega,by omega⟩,i,⟨YO (by omega),by omega,by omega,by omega⟩,?_⟩,fun hne=>⟨⟨by omega,by omega⟩,n,⟨YO (by omega),by omega,by omega,by omega⟩,⟨by decide,by decide⟩,1,⟨YO (by decide),by decide,by omega,by omega⟩,?_⟩⟩
    ·have hp:n=2^lgK n:=by rw[<-hik];exact_mod_cast he
     have e:lgR n q=(i*2^q,i*2^q):=by unfold lgR;rw[if_pos hp,hik]
     rw[e]at h
     exact Kv (show k _ []from h false false) (JG _ ⟨trivial,trivial,trivial⟩) (fun _=>by simp [Yv,Y3,Y5])
    ·have hnp:n≠2^lgK n:=fun hh=>hne (by rw[hik];exact_mod_cast hh)
     have hlg:lgR n q=gl (2^(2*q+60)) false q (n*2^(2*q+60-i)) (n*2^(2*q+60-i)) i:=by
      unfold lgR;rw[if_neg hnp,hik]
     obtain⟨m1,m2,_⟩:=Gx (n:=n) (D:=2*q+60) (by omega) (by omega)
     rw[<-hik]at m1 m2
     have hs:(32768:Nat)^((2*q+60)/15)=2^(2*q+60):=by
      rw[show(32768:Nat)=2^15 by decide,<-Ym];congr 1;omega
     refine Loop.keep [0,0,6,2] (Nat×Nat×Nat×Nat×Bool×Bool×Bool) (fun x=>[(7,.vs true x.2.2.2.2.1 (nl x.2.2.2.1) 1 (fun k=>[.int .i64 (dig x.2.2.2.1 k)])),(9,.vs true x.2.2.2.2.2.1 (nl x.2.1) 1 (fun k=>[.int .i64 (dig x.2.1 k)])),(10,.vs true x.2.2.2.2.2.2 (nl x.2.2.1) 1 (fun k=>[.int .i64 (dig x.2.2.1 k)])),(12,.int .i64 x.1)]) (fun _=>[]) [] (fun x=>x.1<=q/\lgR n q=gl (2^(2*q+60)) false (q-x.1) x.2.1 x.2.2.1 x.2.2.2.1/\x.2.1<=2*2^(2*q+60)/\x.2.2.1<=2*2^(2*q+60)/\x.2.2.2.1<2^(x.1+40)) (fun x=>q-x.1) ?_ ?_
     ·refine⟨(0,n*2^(2*q+60-i),n*2^(2*q+60-i),i,decide (nl i=0),false,false),⟨JJ _,hlg,JZ m2,JZ m2,by dsimp only;omega⟩,?_⟩
      (try dsimp only[go_sem,reduceIte,Ya])
      simp only[Yf]
      rfl
     ·rintro⟨j,A,B,S,z1,z2,z3⟩ ⟨hj,hl,hA,hB,hS⟩
      dsimp only at hj hl hA hB hS
      (try dsimp only[Q3,Yk,limbsC,shiftC,squareC,halveC,addC,cmpC,Yv,Yj,go_sem,reduceIte,Ya])
      (try simp only[Yd,Ya,Ye,reduceCtorEq,Yc])
      have h2M:1*2^(2*q+61)=2*2^(2*q+60):=by rw[Y2,show 2*q+61=1+(2*q+60)by omega,Yo 2 1]
      have hq1:q<=3840:=by omega
      have hM:0<2^(2*q+60):=YB (by decide)
      have fz:∀x,x<=16*2^(2*q+60)->nl x<=1000:=fun x hx=>nsz hq1 hx
      have hSz:∀x,x<2^(j+42)->nl x<=1000:=fun x hx=>by
       exact Ua hx (by omega)
      have hS2:2^(j+42)=4*2^(j+40):=by rw[show j+42=2+(j+40)by omega,Yo 2 2]
      have hS1:2^(j+1+40)=2*2^(j+40):=by rw[show j+1+40=1+(j+40)by omega,Yo 2 1]
      obtain⟨a4,_⟩:=Ycc hM hA
      obtain⟨_,b4⟩:=Ycc hM hB
      have eA:sqN A ((2*q+60)/15) false=A*A/2^(2*q+60):=by rw[Yob,hs]
      have eB:sqN B ((2*q+60)/15) true=YV (B*B) (2^(2*q+60)):=by rw[Yoa,hs]
      refine⟨fun hlt=>⟨A,⟨YO (Yh (fz A (by omega)) (by decide)),Yh (fz A (by omega)) (by decide),by omega,by omega⟩,fun y1=>⟨B,⟨YO (Yh (fz B (by omega)) (by decide)),Yh (fz B (by omega)) (by decide),by omega,by omega⟩,fun y2=>?_⟩⟩,fun hge=>?_⟩
      ·rw[eA,eB,h2M]
       obtain⟨g,hg⟩:∃g,q-j=g+1:=⟨q-j-1,by omega⟩
       have eq1:q-(j+1)=g:=by omega
       have ej:IntKind.i64.wrap ((j:Int)+1)=((j+1:Nat):Int):=by rw[Yg _ (by omega)];omega
       have eqj:IntKind.i64.wrap ((q:Int)-(j:Int))=((q-j:Nat):Int):=by rw[Yg _ (by omega)];omega
       rw[hg,gl]at hl
       rw[ej,eqj]
       simp only[Yj]
       rw[hg]
       clear eA eB h2M
       generalize A*A/2^(2*q+60)=X at*
       generalize YV (B*B) (2^(2*q+60))=Y at*
       generalize 2^(2*q+60)=M at*
       have fX:=fz X (by omega)
       have fY:=fz Y (by omega)
       have f2:=fz (2*M) (by omega)
       have f1:nl 1<=1:=by decide
       have fS:=hSz S (by omega)
       have fSS:=hSz (S+S) (by omega)
       refine⟨X,2*M,⟨YO (by omega),YO (by omega),rfl,rfl⟩,fun hc=>?_,fun hc=>?_⟩
       ·have hc:=ord_ge.1 hc
        rw[if_neg (by omega),if_neg (by simp),Nat.two_mul]at hl
        refine⟨X,⟨YO (by omega),by omega⟩,Y,⟨YO (by omega),by omega⟩,S,S,⟨YO (by omega),YO (by omega),by omega⟩,⟨by decide,by decide⟩,S+S,1,⟨YO (by omega),YO (by decide),by omega,by decide⟩,(j+1,X/2,YV Y 2,S+S+1,false,false,false),⟨by dsimp only;omega,by dsimp only;rw[eq1];exact hl,by dsimp only;omega,YfY b4,by dsimp only;omega⟩,by dsimp only;omega,?_⟩
        simp only[if_true,if_false,KO,YhA]
        simp only[Yf]
       ·have hc:¬2*M<=X:=fun hh=>hc (ord_ge.2 hh)
        rw[if_pos (by omega)]at hl
        refine⟨Y,2*M,⟨YO (by omega),YO (by omega),rfl,rfl⟩,fun hd=>?_,fun hd=>?_⟩
        ·have hd:=ord_lt.1 hd
         rw[if_pos hd,Nat.two_mul]at hl
         refine⟨S,S,⟨YO (by omega),YO (by omega),by omega⟩,(j+1,X,Y,S+S,false,y1,y2),⟨by dsimp only;omega,by dsimp only;rw[eq1];exact hl,by dsimp only;omega,by dsimp only;omega,by dsimp only;omega⟩,by dsimp only;omega,?_⟩
         simp only[Yf]
        ·rw[if_neg fun hh=>hd (ord_lt.2 hh)]at hl
         have fS1:=hSz (S+1) (by omega)
         refine⟨S,⟨YO (by omega),by omega,by omega,by omega⟩,⟨by decide,by decide⟩,S,1,⟨YO (by omega),YO (by decide),by omega,by decide⟩,S+1,⟨YO (by omega),by omega,by omega,by omega⟩,?_⟩
         rw[hl]at h
         exact Kv (show k _ []from h false false) (JG _ ⟨trivial,trivial,trivial⟩) (fun _=>by simp [Yv,Y3,Y5])
      ·have fS:=hSz S (by omega)
       have e0:q-j=0:=by omega
       rw[e0,gl]at hl
       refine⟨⟨by decide,by decide⟩,S,1,⟨YO (by omega),YO (by decide),by omega,by decide⟩,?_⟩
       rw[hl]at h
       exact Kv (show k _ []from h z1 false) (JG _ ⟨trivial,trivial,trivial⟩) (fun _=>by simp [Yv,Y3,Y5])
 ·exact h.1.elim
end Go.Proofs.YtlhmikjnholpnaaGreatDoor.Q
namespace Go.Proofs.YtlhmikjnholpnaaGreatDoor
open Go Go.Vx
def upS(g:Nat->Nat):List (Int×Int)->Nat
 | []=>0
 |x::l=>(if x.2<0 then 0 else g x.1.toNat*x.2.toNat)+upS g l
def dnS(g:Nat->Nat):List (Int×Int)->Nat
 | []=>0
 |x::l=>(if x.2<0 then g x.1.toNat*(-x.2).toNat else 0)+dnS g l
def upP:List (Int×Int)->Nat
 | []=>1
 |x::l=>(if x.2<0 then 1 else x.1.toNat^x.2.toNat)*upP l
def dnP:List (Int×Int)->Nat
 | []=>1
 |x::l=>(if x.2<0 then x.1.toNat^(-x.2).toNat else 1)*dnP l
def okU(x:Int×Int):Prop:=1<=x.1/\x.1<=1000000000001/\ -3000000000000000<=x.2/\x.2<=3000000000000000
theorem O8{x:Int×Int}(h:okU x):okT x:=⟨h.1,h.2.1,by have:=h.2.2.1;omega,by have:=h.2.2.2;omega⟩
theorem W8{x:Int×Int}(h:okU x):1<=x.1.toNat/\x.1.toNat<4611686018427387904/\x.1=(x.1.toNat:Int):=by
 obtain⟨h1,h2,h3,h4⟩:=h
 omega
theorem Yar{K g h n e:Nat}(H:2^g<=n^K/\n^K<=2^h):2^(g*e)<=(n^e)^K/\(n^e)^K<=2^(h*e):=by
 rw[Ym,Ym,<-Ym n,Yl e K,Ym]
 exact⟨YG H.1 _,YG H.2 _⟩
theorem VG{K:Nat}{g h:Nat->Nat}(H:∀n,1<=n->n<4611686018427387904->2^g n<=n^K/\n^K<=2^h n):∀(l:List (Int×Int)),(∀x,x∈l->okU x)->
 (2^upS g l<=upP l^K/\upP l^K<=2^upS h l)/\2^dnS g l<=dnP l^K/\dnP l^K<=2^dnS h l
 | [],_=>by simp [upS,upP,dnS,dnP]
 |x::l,hl=>by
  obtain⟨⟨a1,a2⟩,b1,b2⟩:=VG H l fun y hy=>hl y (KX _ hy)
  obtain⟨n1,n2,_⟩:=W8 (hl x (KR ..))
  have hx:=H _ n1 n2
  rw[upS,upS,upP,dnS,dnS,dnP,Yq,Yq,Yo,Yo,Yo,Yo]
  by_cases c:x.2<0
  ·simp only[if_pos c,Jk,Nat.one_pow,Y2]
   obtain⟨p1,p2⟩:=Yar (e:=(-x.2).toNat) hx
   exact⟨⟨a1,a2⟩,YX p1 b1,YX p2 b2⟩
  ·simp only[if_neg c,Jk,Nat.one_pow,Y2]
   obtain⟨p1,p2⟩:=Yar (e:=x.2.toNat) hx
   exact⟨⟨YX p1 a1,YX p2 a2⟩,b1,b2⟩
theorem N3{g:Nat->Nat}{B:Nat}(H:∀n,1<=n->n<4611686018427387904->g n<=B):∀(l:List (Int×Int)),(∀x,x∈l->okU x)->upS g l<=l.length*(B*3000000000000000)/\dnS g l<=l.length*(B*3000000000000000)
 | [],_=>by simp [upS,dnS]
 |x::l,hl=>by
  obtain⟨a1,a2⟩:=N3 H l fun y hy=>hl y (KX _ hy)
  have hx:=hl x (KR ..)
  obtain⟨n1,n2,_⟩:=W8 hx
  obtain⟨_,_,x3,x4⟩:=hx
  have h1:=YX (H _ n1 n2) (show x.2.toNat<=3000000000000000 by omega)
  have h2:=YX (H _ n1 n2) (show(-x.2).toNat<=3000000000000000 by omega)
  rw[upS,dnS,XS,YM,Y2]
  constructor
  ·split <;> omega
  ·split <;> omega
theorem YaW{n:Nat}(h1:1<=n)(h2:n<4611686018427387904):(qN n).1<=(qN n).2/\(qN n).2<=17179869184:=by
 have hs:=YaX h1 h2
 have hk:lgK n<62:=WX (by decide) h2
 refine⟨(Nat.pow_le_pow_iff_right (by decide)).1 (Yh hs.1 hs.2),?_⟩
 unfold qN
 split
 ·show lgK n*268435456<=_;omega
 ·have:=(Gj 9223372036854775808 true 28 (n*2^(63-lgK n)) (n*2^(63-lgK n)) (lgK n)).2
  rw[show(2:Nat)^28=268435456 from rfl]at this
  omega
theorem Lc{n p:Nat}(h1:1<=n)(h2:n<4611686018427387904):(lN n p).1<=(lN n p).2/\(lN n p).2<=64*2^p:=by
 have hs:=MR (p:=p) h1 h2
 have hk:lgK n<62:=WX (by decide) h2
 refine⟨(Nat.pow_le_pow_iff_right (by decide)).1 (Yh hs.1 hs.2),?_⟩
 unfold lN
 split
 ·exact Yp _ (by omega)
 ·exact Yh (Gj _ false p _ _ (lgK n)).2 (Yp _ (by omega))
theorem G1{g h:Nat->Nat}(H:∀n,1<=n->n<4611686018427387904->g n<=h n):∀(l:List (Int×Int)),(∀x,x∈l->okU x)->upS g l<=upS h l/\dnS g l<=dnS h l
 | [],_=>by simp [upS,dnS]
 |x::l,hl=>by
  obtain⟨a1,a2⟩:=G1 H l fun y hy=>hl y (KX _ hy)
  obtain⟨n1,n2,_⟩:=W8 (hl x (KR ..))
  have h1:=Yp x.2.toNat (H _ n1 n2)
  have h2:=Yp (-x.2).toNat (H _ n1 n2)
  rw[upS,dnS,upS,dnS]
  constructor
  ·split <;> omega
  ·split <;> omega
def Ji(a:Int×Int):Int:=a.1*18446744073709551616+a.2
theorem Yb9{M t:Int}(hM:0<M):t/M*M+t%M=t:=Int.ediv_mul_add_emod ..
theorem Ae{a:Int×Int}{x y:Int}(ha:okL a)(h0:0<=x*y)(h:Ji a+x*y<340282366920938463463374607431768211456):Ji (X2 a x y)=Ji a+x*y:=by
 obtain⟨⟨a0,a1⟩,b0,b1⟩:=ha
 unfold Ji at h⊢
 unfold X2
 generalize x*y=t at*
 have e1:=Yb9 (M:=18446744073709551616) (t:=t) (by decide)
 have e2:=Yb9 (M:=18446744073709551616) (t:=a.2+t%18446744073709551616) (by decide)
 have r1:=Int.emod_nonneg t (show(18446744073709551616:Int)≠0 by decide)
 have r2:=Int.emod_lt_of_pos t (show(0:Int)<18446744073709551616 by decide)
 have r3:=Int.emod_nonneg (a.2+t%18446744073709551616) (show(18446744073709551616:Int)≠0 by decide)
 have r4:=Int.emod_lt_of_pos (a.2+t%18446744073709551616) (show(0:Int)<18446744073709551616 by decide)
 have q1:0<=t/18446744073709551616:=Int.ediv_nonneg h0 (by decide)
 have q2:0<=(a.2+t%18446744073709551616)/18446744073709551616:=Int.ediv_nonneg (by omega) (by decide)
 generalize t%18446744073709551616=lo at*
 generalize t/18446744073709551616=hi at*
 generalize(a.2+lo)%18446744073709551616=r at*
 generalize(a.2+lo)/18446744073709551616=c at*
 rw[Wp (a.1+hi) (by omega),Wp (a.1+hi+c) (by omega)]
 omega
theorem Yaf{a b:Int×Int}(ha:okL a)(hb:okL b):Ub a b=decide (Ji b<Ji a):=by
 obtain⟨⟨a0,a1⟩,a2,a3⟩:=ha
 obtain⟨⟨b0,b1⟩,b2,b3⟩:=hb
 unfold Ub Ji
 by_cases c:b.1<a.1
 ·rw[decide_eq_true c,Bool.true_or,decide_eq_true (by omega)]
 ·rw[decide_eq_false c,Bool.false_or]
  by_cases d:a.1=b.1
  ·rw[decide_eq_true d,Bool.true_and,d]
   by_cases e:b.2<a.2
   ·rw[decide_eq_true e,decide_eq_true (by omega)]
   ·rw[decide_eq_false e,decide_eq_false (by omega)]
  ·rw[decide_eq_false d,Bool.false_and,decide_eq_false (by omega)]
theorem Ip:∀(l:List (Int×Int))(s:Gss),s.ok->(∀x,x∈l->okU x)->
 Ji s.u0+(upS (fun n=>(qN n).1) l:Nat)<340282366920938463463374607431768211456->Ji s.u1+(upS (fun n=>(qN n).2) l:Nat)<340282366920938463463374607431768211456->
 Ji s.d0+(dnS (fun n=>(qN n).1) l:Nat)<340282366920938463463374607431768211456->Ji s.d1+(dnS (fun n=>(qN n).2) l:Nat)<340282366920938463463374607431768211456->
 (l.foldl J9 s).ok/\Ji (l.foldl J9 s).u0=Ji s.u0+(upS (fun n=>(qN n).1) l:Nat)/\Ji (l.foldl J9 s).u1=Ji s.u1+(upS (fun n=>(qN n).2) l:Nat)/\
   Ji (l.foldl J9 s).d0=Ji s.d0+(dnS (fun n=>(qN n).1) l:Nat)/\Ji (l.foldl J9 s).d1=Ji s.d1+(dnS (fun n=>(qN n).2) l:Nat)
 | [],s,hs,_,_,_,_,_=>by simpa [upS,dnS]using hs
 |x::l,s,hs,hl,h1,h2,h3,h4=>by
  have hx:=hl x (KR ..)
  obtain⟨n1,n2,n3⟩:=W8 hx
  have hq:XN x.1=Ma (qN x.1.toNat):=by
   conv=>lhs;rw[n3]
   exact Ylw n1 n2
  obtain⟨k1,k2,k3,k4⟩:=hs
  have ih:=Ip l (J9 s x) (Io s x ⟨k1,k2,k3,k4⟩) fun y hy=>hl y (KX _ hy)
  rw[upS,VH]at h1 h2
  rw[dnS,VH]at h3 h4
  rw[List.foldl_cons,upS,upS,dnS,dnS,VH,VH,VH,VH]
  by_cases c:x.2<0
  ·rw[if_pos c]at h1 h2 h3 h4
   simp only[if_pos c]
   have c0:¬0<=x.2:=by omega
   have hm:∀z:Nat,(z:Int)*(-x.2)=((z*(-x.2).toNat:Nat):Int):=fun z=>by rw[Qr];congr 1;omega
   have hz:∀z:Nat,0<=(z:Int)*(-x.2):=fun z=>ZZ (by omega) (by omega)
   have e:J9 s x= { s with d0:=X2 s.d0 ((qN x.1.toNat).1:Nat) (-x.2),d1:=X2 s.d1 ((qN x.1.toNat).2:Nat) (-x.2)}:=by rw[J9,if_neg c0,hq];rfl
   have p0:=Ae (x:=((qN x.1.toNat).1:Nat)) (y:= -x.2) k3 (hz _) (by rw[hm];omega)
   have p1:=Ae (x:=((qN x.1.toNat).2:Nat)) (y:= -x.2) k4 (hz _) (by rw[hm];omega)
   rw[hm]at p0 p1
   rw[e]at ih⊢
   simp only at ih h1 h2 h3 h4
   rw[p0,p1]at ih
   obtain⟨i0,i1,i2,i3,i4⟩:=ih (by omega) (by omega) (by omega) (by omega)
   exact⟨i0,by omega,by omega,by omega,by omega⟩
  ·rw[if_neg c]at h1 h2 h3 h4
   simp only[if_neg c]
   have c0:0<=x.2:=by omega
   have hm:∀z:Nat,(z:Int)*x.2=((z*x.2.toNat:Nat):Int):=fun z=>by rw[Qr];congr 1;omega
   have hz:∀z:Nat,0<=(z:Int)*x.2:=fun z=>ZZ (by omega) (by omega)
   have e:J9 s x= { s with u0:=X2 s.u0 ((qN x.1.toNat).1:Nat) x.2,u1:=X2 s.u1 ((qN x.1.toNat).2:Nat) x.2}:=by rw[J9,if_pos c0,hq];rfl
   have p0:=Ae (x:=((qN x.1.toNat).1:Nat)) (y:=x.2) k1 (hz _) (by rw[hm];omega)
   have p1:=Ae (x:=((qN x.1.toNat).2:Nat)) (y:=x.2) k2 (hz _) (by rw[hm];omega)
   rw[hm]at p0 p1
   rw[e]at ih⊢
   simp only at ih h1 h2 h3 h4
   rw[p0,p1]at ih
   obtain⟨i0,i1,i2,i3,i4⟩:=ih (by omega) (by omega) (by omega) (by omega)
   exact⟨i0,by omega,by omega,by omega,by omega⟩
theorem Iq{l:List (Int×Int)}(hl:∀x,x∈l->okU x)(hn:l.length<=100):Hh l=
 if dnS (fun n=>(qN n).2) l<upS (fun n=>(qN n).1) l then(1,true)else if upS (fun n=>(qN n).2) l<dnS (fun n=>(qN n).1) l then(-1,true)else(0,false):=by
 obtain⟨a1,a2⟩:=N3 (g:=fun n=>(qN n).2) (fun n h1 h2=>(YaW h1 h2).2) l hl
 obtain⟨b1,b2⟩:=G1 (g:=fun n=>(qN n).1) (h:=fun n=>(qN n).2) (fun n h1 h2=>(YaW h1 h2).1) l hl
 have hb:l.length*(17179869184*3000000000000000)<=100*(17179869184*3000000000000000):=Yp _ hn
 have z:Ji (0,0)=0:=rfl
 have h0:gss0.ok:=by simp [Gss.ok,gss0,okL]
 obtain⟨⟨k1,k2,k3,k4⟩,v1,v2,v3,v4⟩:=Ip l gss0 h0 hl (by show Ji (0,0)+_<_;omega) (by show Ji (0,0)+_<_;omega) (by show Ji (0,0)+_<_;omega) (by show Ji (0,0)+_<_;omega)
 have v1:Ji (l.foldl J9 gss0).u0=(upS (fun n=>(qN n).1) l:Nat):=by rw[v1];show Ji (0,0)+_=_;omega
 have v2:Ji (l.foldl J9 gss0).u1=(upS (fun n=>(qN n).2) l:Nat):=by rw[v2];show Ji (0,0)+_=_;omega
 have v3:Ji (l.foldl J9 gss0).d0=(dnS (fun n=>(qN n).1) l:Nat):=by rw[v3];show Ji (0,0)+_=_;omega
 have v4:Ji (l.foldl J9 gss0).d1=(dnS (fun n=>(qN n).2) l:Nat):=by rw[v4];show Ji (0,0)+_=_;omega
 unfold Hh
 simp only
 rw[Yaf k1 k4,Yaf k3 k2,v1,v2,v3,v4]
 simp only[Int.ofNat_lt,decide_eq_true_eq]
theorem Ycj{p:Nat}(hp:p<=2048):∀(l:List (Int×Int))(s:Bnd)(e:Nat),(∀x,x∈l->okU x)->e<=32*512->
 s.ul+upS (fun n=>(lN n p).1) l<2^e->s.uh+upS (fun n=>(lN n p).2) l<2^e->s.dl+dnS (fun n=>(lN n p).1) l<2^e->s.dh+dnS (fun n=>(lN n p).2) l<2^e->
 l.foldl (XP p) s=⟨s.ul+upS (fun n=>(lN n p).1) l,s.uh+upS (fun n=>(lN n p).2) l,s.dl+dnS (fun n=>(lN n p).1) l,s.dh+dnS (fun n=>(lN n p).2) l⟩
 | [],s,e,_,_,_,_,_,_=>by simp [upS,dnS]
 |x::l,s,e,hl,he,h1,h2,h3,h4=>by
  have hx:=hl x (KR ..)
  obtain⟨n1,n2,n3⟩:=W8 hx
  have hq:JV x.1 p=lN x.1.toNat p:=by
   conv=>lhs;rw[n3]
   exact Yjq n1 n2 hp
  have ih:=Ycj hp l (XP p s x) e (fun y hy=>hl y (KX _ hy)) he
  rw[upS]at h1 h2
  rw[dnS]at h3 h4
  rw[List.foldl_cons,upS,upS,dnS,dnS]
  by_cases c:x.2<0
  ·rw[if_pos c]at h1 h2 h3 h4
   simp only[if_pos c]
   have e:XP p s x= { s with dl:=s.dl+(lN x.1.toNat p).1*(-x.2).toNat,dh:=s.dh+(lN x.1.toNat p).2*(-x.2).toNat}:=by
    rw[XP,if_pos c,hq]
    rw[Fh (e:=e) (by omega) he,Fh (e:=e) (by omega) he,G4 (e:=e) (by omega) he,G4 (e:=e) (by omega) he]
   rw[e]at ih⊢
   simp only at ih
   rw[ih (by omega) (by omega) (by omega) (by omega)]
   simp only[Bnd.mk.injEq]
   omega
  ·rw[if_neg c]at h1 h2 h3 h4
   simp only[if_neg c]
   have e:XP p s x= { s with ul:=s.ul+(lN x.1.toNat p).1*x.2.toNat,uh:=s.uh+(lN x.1.toNat p).2*x.2.toNat}:=by
    rw[XP,if_neg c,hq]
    rw[Fh (e:=e) (by omega) he,Fh (e:=e) (by omega) he,G4 (e:=e) (by omega) he,G4 (e:=e) (by omega) he]
   rw[e]at ih⊢
   simp only at ih
   rw[ih (by omega) (by omega) (by omega) (by omega)]
   simp only[Bnd.mk.injEq]
   omega
theorem Yci{l:List (Int×Int)}{p:Nat}(hp:p<=2048)(hl:∀x,x∈l->okU x)(hn:l.length<=100):QV l p=⟨upS (fun n=>(lN n p).1) l,upS (fun n=>(lN n p).2) l,dnS (fun n=>(lN n p).1) l,dnS (fun n=>(lN n p).2) l⟩:=by
 obtain⟨a1,a2⟩:=N3 (g:=fun n=>(lN n p).2) (B:=64*2^p) (fun n h1 h2=>(Lc h1 h2).2) l hl
 obtain⟨b1,b2⟩:=G1 (g:=fun n=>(lN n p).1) (h:=fun n=>(lN n p).2) (fun n h1 h2=>(Lc h1 h2).1) l hl
 have hb:l.length*(64*2^p*3000000000000000)<=100*(64*2^p*3000000000000000):=Yp _ hn
 have hp2:100*(64*2^p*3000000000000000)<2^(p+65):=by
  have:(2:Nat)^(p+65)=36893488147419103232*2^p:=by rw[Yo,Yl]
  have:=Nat.one_le_two_pow (n:=p)
  omega
 unfold QV
 rw[Ycj hp l ⟨0,0,0,0⟩ (p+65) hl (by omega) (by simp only;omega) (by simp only;omega) (by simp only;omega) (by simp only;omega)]
 simp only[KJ]
set_option maxRecDepth 100000
set_option maxHeartbeats 4000000
def JS(x:Nat):List SV:=[.int .i64 x]
def ZP(out:List Nat)(n:Nat):Nat:=WD (fun i=>decide (1<YI (out.getD i 0) n)) out.length 0
def Xd:Nat->List Nat->List Nat->List Nat
 |0,_,out=>out
 |f+1,wait,out=>
  if wait.length=0 then out
  else if wait.getD (wait.length-1) 0=1 then Xd f (wait.take (wait.length-1)) out
  else if ZP out (wait.getD (wait.length-1) 0)<out.length then
   Xd f (wait.take (wait.length-1)++[YI (out.getD (ZP out (wait.getD (wait.length-1) 0)) 0) (wait.getD (wait.length-1) 0),out.getD (ZP out (wait.getD (wait.length-1) 0)) 0/YI (out.getD (ZP out (wait.getD (wait.length-1) 0)) 0) (wait.getD (wait.length-1) 0),wait.getD (wait.length-1) 0/YI (out.getD (ZP out (wait.getD (wait.length-1) 0)) 0) (wait.getD (wait.length-1) 0)])
    (out.take (ZP out (wait.getD (wait.length-1) 0))++out.drop (ZP out (wait.getD (wait.length-1) 0)+1))
  else Xd f (wait.take (wait.length-1)) (out++[wait.getD (wait.length-1) 0])
def XY(out:List Nat)(x:Int×Int):List Nat:=Xd 3000 [x.1.toNat] out
def Uw(l:List (Int×Int)):List Nat:=l.foldl XY []
def YL:List Nat->Nat
 | []=>1
 |x::l=>x*YL l
theorem Uc:∀(a b:List Nat),YL (a++b)=YL a*YL b
 | [],b=>by simp [YL]
 |x::a,b=>by rw[Ws,YL,YL,Uc a b,YA]
theorem Aj:∀{l:List Nat},(∀x,x∈l->1<=x)->1<=YL l
 | [],_=>by decide
 |x::l,h=>by
  have h1:=Aj (l:=l) fun y hy=>h y (KX _ hy)
  have h2:=h x (KR ..)
  rw[YL]
  exact Y1 h2 h1
theorem AY{w:List Nat}(h:w.length≠0):w=w.take (w.length-1)++[w.getD (w.length-1) 0]:=by
 have:=Hy (l:=w) (i:=w.length-1) (by omega)
 rw[show w.length-1+1=w.length by omega,Xt]at this
 exact this
theorem Yca{w:List Nat}{i:Nat}(h:i<w.length):w=w.take i++w.getD i 0::w.drop (i+1):=by
 have h1:=List.take_append_drop i w
 have h2:w.drop i=w.getD i 0::w.drop (i+1):=by
  rw[List.drop_eq_getElem_cons h,Kh,VL h];rfl
 rw[h2]at h1
 exact h1.symm
structure DrOk (B f:Nat) (wait out:List Nat):Prop where
 wp:∀x,x∈wait->1<=x/\x<=1099511627776
 op:∀x,x∈out->2<=x/\x<=1099511627776
 pb:Y6 (YL out*YL wait)<=B
 mu:3*Y6 (YL out*YL wait)+wait.length<=f
theorem DrOk.pop{B f:Nat}{wait out:List Nat}(h:DrOk B f wait out)(hw:wait.length≠0)(h1:wait.getD (wait.length-1) 0=1):∃g,f=g+1/\DrOk B g (wait.take (wait.length-1)) out:=by
 have hm:=h.mu
 have hpb:=h.pb
 refine⟨f-1,by omega,?_⟩
 have e:=AY hw
 have e2:YL wait=YL (wait.take (wait.length-1)):=by
  conv=>lhs;rw[e]
  rw[Uc,h1];simp [YL]
 refine⟨fun x hx=>h.wp x (List.mem_of_mem_take hx),h.op,by rw[<-e2];exact hpb,?_⟩
 rw[<-e2,Qs]
 omega
theorem DrOk.push{B f:Nat}{wait out:List Nat}(h:DrOk B f wait out)(hw:wait.length≠0)(h1:wait.getD (wait.length-1) 0≠1):∃g,f=g+1/\DrOk B g (wait.take (wait.length-1)) (out++[wait.getD (wait.length-1) 0]):=by
 have hm:=h.mu
 have hn:=h.wp _ (KZ (l:=wait) (i:=wait.length-1) (by omega))
 have hn':1<=wait.getD (wait.length-1) 0/\wait.getD (wait.length-1) 0<=1099511627776:=hn
 have hpb:=h.pb
 have e:=AY hw
 have e2:YL out*YL wait=YL (out++[wait.getD (wait.length-1) 0])*YL (wait.take (wait.length-1)):=by
  conv=>lhs;rw[e]
  rw[Uc,Uc]
  simp only[YL,Y0]
  rw[Yl (YL (wait.take _)),YA]
 refine⟨f-1,by omega,⟨fun x hx=>h.wp x (List.mem_of_mem_take hx),fun x hx=>?_,by rw[<-e2];exact hpb,?_⟩⟩
 ·rcases Ky.1 hx with hx|hx
  ·exact h.op x hx
  ·rw[Jj]at hx
   subst hx
   omega
 rw[<-e2,Qs]
 omega
theorem Sv{a b:Nat}(h:a<=b):Y6 a<=Y6 b:=bitsN_le.2 (JC h (F3 b))
theorem DrOk.hit{B f:Nat}{wait out:List Nat}(h:DrOk B f wait out)(hw:wait.length≠0){i:Nat}(hi:i<out.length)(hg:1<YI (out.getD i 0) (wait.getD (wait.length-1) 0)):
 ∃g,f=g+1/\DrOk B g (wait.take (wait.length-1)++[YI (out.getD i 0) (wait.getD (wait.length-1) 0),out.getD i 0/YI (out.getD i 0) (wait.getD (wait.length-1) 0),wait.getD (wait.length-1) 0/YI (out.getD i 0) (wait.getD (wait.length-1) 0)]) (out.take i++out.drop (i+1)):=by
 have hm:=h.mu
 have hn:1<=wait.getD (wait.length-1) 0/\wait.getD (wait.length-1) 0<=1099511627776:=h.wp _ (KZ (l:=wait) (i:=wait.length-1) (by omega))
 have hb:2<=out.getD i 0/\out.getD i 0<=1099511627776:=h.op _ (KZ (l:=out) (i:=i) hi)
 have e:=AY hw
 have e':=Yca hi
 generalize wait.getD (wait.length-1) 0=n at*
 generalize out.getD i 0=b at*
 have d1:=WI b n
 have d2:=Nat.gcd_dvd_right b n
 generalize YI b n=g at*
 obtain⟨b1,rfl⟩:=d1
 obtain⟨n1,rfl⟩:=d2
 rw[Nat.mul_div_cancel_left _ (by omega),Nat.mul_div_cancel_left _ (by omega)]
 have hb1:1<=b1:=Nat.pos_of_ne_zero fun hh=>by rw[hh,ZD]at hb;omega
 have hn1:1<=n1:=Nat.pos_of_ne_zero fun hh=>by rw[hh,ZD]at hn;omega
 have gb:g<=g*b1:=Nat.le_mul_of_pos_right _ hb1
 have bb:b1<=g*b1:=Nat.le_mul_of_pos_left _ (by omega)
 have nb:n1<=g*n1:=Nat.le_mul_of_pos_left _ (by omega)
 have hpt:1<=YL (out.take i++out.drop (i+1))*YL (wait.take (wait.length-1)):=by
  refine Y1 (Aj fun x hx=>?_) (Aj fun x hx=>(h.wp x (List.mem_of_mem_take hx)).1)
  rcases Ky.1 hx with hx|hx
  ·have:=(h.op x (List.mem_of_mem_take hx)).1;omega
  ·have:=(h.op x (List.mem_of_mem_drop hx)).1;omega
 have eP:YL out*YL wait=g*(YL (out.take i++out.drop (i+1))*YL (wait.take (wait.length-1)++[g,b1,n1])):=by
  conv=>lhs;rw[e,e']
  simp only[Uc,YL,Y0]
  generalize YL (out.take i)=A
  generalize YL (out.drop (i+1))=B
  generalize YL (wait.take (wait.length-1))=C
  simp only[YA,Jd,Yl]
 have hp1:1<=YL (out.take i++out.drop (i+1))*YL (wait.take (wait.length-1)++[g,b1,n1]):=by
  rw[Uc (wait.take _),<-YA]
  refine Y1 hpt ?_
  simp only[YL,Y0]
  exact Y1 (by omega) (Y1 hb1 hn1)
 have hP:Y6 (YL (out.take i++out.drop (i+1))*YL (wait.take (wait.length-1)++[g,b1,n1]))+1<=Y6 (YL out*YL wait):=by
  generalize hQ:YL (out.take i++out.drop (i+1))*YL (wait.take (wait.length-1)++[g,b1,n1])=Q at*
  rw[eP]
  have h2:2*Q<=g*Q:=Yp _ (by omega)
  have h3:=Su (a:=g*Q) (by omega)
  have h4:Y6 Q<=Y6 (g*Q/2):=Sv (by omega)
  omega
 have hpb:=h.pb
 refine⟨f-1,by omega,⟨fun x hx=>?_,fun x hx=>?_,by omega,?_⟩⟩
 ·rcases Ky.1 hx with hx|hx
  ·exact h.wp x (List.mem_of_mem_take hx)
  ·simp only[Kz,Z3,or_false]at hx
   rcases hx with rfl|rfl|rfl <;> omega
 ·rcases Ky.1 hx with hx|hx
  ·exact h.op x (List.mem_of_mem_take hx)
  ·exact h.op x (List.mem_of_mem_drop hx)
 ·rw[JO,Qs]
  simp only[XS,Z1]
  omega
theorem Sw(a b:Nat):Y6 (a*b)<=Y6 a+Y6 b:=by
 rw[bitsN_le,Yo]
 exact Nat.mul_lt_mul_of_lt_of_le (F3 a) (JZ (F3 b)) (Jh _)
theorem DrOk.start{i N:Nat}{out:List Nat}(hN0:1<=N)(hN1:N<=1000000000001)(ho:∀x,x∈out->2<=x/\x<=1099511627776)(hb:Y6 (YL out)<=40*i+1)(hi:i<20):DrOk (40*(i+1)+1) 3000 [N] out:=by
 have h1:Y6 N<=40:=bitsN_le.2 (by omega)
 have h2:Y6 (YL out*YL [N])<=40*(i+1)+1:=by
  have:=Sw (YL out) (YL [N])
  have e:YL [N]=N:=by simp [YL]
  rw[e]at this⊢
  omega
 refine⟨fun x hx=>?_,ho,h2,?_⟩
 ·rw[Jj]at hx
  subst hx
  omega
 ·simp only[XS,Z1]
  omega
def v90:VF:=⟨73,[.tmp 2],(ZR [u1 2 .mov [.cn .nil]] (ZR [u1 3 .mov [.cn .nil]] (.seq (ZR [Zm 11 0,Zl 12 11,Zi 13 0] (.block 0 (.loop (ZR [Zr 14 .lss 13 12] (.seq (ZC 14 .skip (.exit 0)) (.seq (.block 1 (ZR [Zx 15 2 11 13,Zt 16 2 15,u1 5 (.alloc Z2) [],Zs 2 5 16] (.scope (ZR [Za 17 0 5,Zf 18 1 17,u1 19 (.buildSlice 1 1 [(.int .i64 0)] [(0,1)]) [.tm 18],Zm 6 19] (.seq .skip (.block 2 (.loop (.seq (ZR [Zm 20 6,Zl 21 20,Zq 22 .gtr 21 0] (ZC 22 .skip (.exit 2))) (.block 3 (ZR [Zm 23 6,Zm 24 6,Zl 25 24,u1 26 (.ari .sub) [.tm 25,.cn (.int .i64 1)],Zx 27 1 23 26,Zf 28 1 27,Zm 7 28] (ZR [Zm 29 6,Zm 30 6,Zl 31 30,u1 32 (.ari .sub) [.tm 31,.cn (.int .i64 1)],u1 33 (.slice 1 false true) [.tm 29,.tm 32],Zm 6 33] (.seq (ZR [Zm 34 7,Zq 35 .eql 34 1] (ZC 35 (.exit 3) .skip)) (.seq (ZR [Zm 36 3,Zl 37 36,Zi 38 0] (.block 4 (.loop (ZR [Zr 39 .lss 38 37] (.seq (ZC 39 .skip (.exit 4)) (.seq (.block 5 (ZR [Zm 40 38,Zx 41 1 36 38,Zf 42 1 41,Zm 8 40,Zm 9 42] (ZR [Zm 43 9,Zm 44 7,Zd 45 130 43 44,Zm 10 45] (ZR [Zm 46 10,Zq 47 .gtr 46 1] (ZC 47 (.seq (.draw [] [Zu 48 3,Zu 49 8,w1 50 (.slice 1 false true) [.tm 48,.tm 49],Zu 51 3,Zu 52 8,w1 53 (.ari .add) [.tm 52,.cn (.int .i64 1)],w1 54 (.slice 1 true false) [.tm 51,.tm 53],w1 55 (.append 1 8 [(.int .i64 0)]) [.tm 50,.tm 54],Zu 3 55]) (.seq (.draw [] [Zu 56 6,Zu 57 10,Zu 58 9,Zu 59 10,w1 60 .quo [.tm 58,.tm 59],Zu 61 7,Zu 62 10,w1 63 .quo [.tm 61,.tm 62],w1 64 (.buildSlice 1 3 [(.int .i64 0)] [(0,1),(1,1),(2,1)]) [.tm 57,.tm 60,.tm 63],w1 65 (.append 1 8 [(.int .i64 0)]) [.tm 56,.tm 64],Zu 6 65]) (.exit 3))) .skip))))) (.region [Zp 66 38 1,Zm 38 66]))))))) (.region [Zm 67 3,Zm 68 7,u1 69 (.buildSlice 1 1 [(.int .i64 0)] [(0,1)]) [.tm 68],u1 70 (.append 1 8 [(.int .i64 0)]) [.tm 67,.tm 69],Zm 3 70])))))))))))))) (.region [Zp 71 13 1,Zm 13 71]))))))) (ZR [Zm 72 3,Zm 2 72] .ret))))⟩
theorem YqK:Yn Yb Tryz.f90=some v90:=by kernel_rfl
def baseC:Ctr:={ alias:=false,of:=fun l=>match l with
 | [.vs _ _ n sz get]=> .ex (List (Int×Int)) fun l=> .pre (lsP 2 Yw n sz get l/\(∀x,x∈l->okT x)/\n<=20) (.all Bool fun y=> .fin (.vs true y (Uw l).length 1 (fun k=>JS ((Uw l).getD k 0))) [])
 |_=>noC}
def RA8:Env:=mkE [(130,gcdC)] []
theorem Yd7:YD Yb RA8:=eo (by kernel_rfl) ⟨⟨gcd_c,_,Tryz.func130,rfl,rfl⟩,trivial⟩ trivial
structure DSt where
 f:Nat
 W:List Nat
 n:Nat
 out:List Nat
 yw:Bool
 yo:Bool
theorem Ygu{f:Nat}:∀{wait out:List Nat},(Xd f wait out).length<=out.length+f:=by
 induction f with
 |zero=>intro wait out;rw[Xd];omega
 |succ f ih=>
  intro wait out
  rw[Xd]
  split
  ·omega
  ·split
   ·have:= @ih (wait.take (wait.length-1)) out;omega
   ·split
    ·rename_i hh
     refine Yh ih ?_
     rw[JO,Qs,List.length_drop]
     omega
    ·refine Yh ih ?_
     rw[JO]
     simp only[XS,Z1]
     omega
theorem Yfp:baseC.ok Yb 90:=by
 refine Yy Tryz.func90 YqK Yd7 800 baseC fun args k h=>?_
 simp only[baseC]at h
 split at h
 ·rename_i tt z n sz get
  obtain⟨l,⟨⟨rfl,rfl,hg⟩,hl,hn⟩,h⟩:=h
  refine⟨[.vs tt z l.length 2 (fun k=>Yw (l.getD k default))],⟨⟨id,rfl,rfl,rfl,hg⟩,trivial⟩,?_⟩
  dsimp only[v90,Yw,go_sem,reduceIte,Ya]
  simp only[Yd,Ya,Ye,reduceCtorEq,Yc]
  refine Loop.keep [0,10,0] (Nat×List Nat×Bool) (fun s=>[(3,.own 0 0 s.2.1.length 1),(13,.int .i64 s.1)]) (fun s=>[(0,.own s.2.2 1 s.2.1.length (fun k=>JS (s.2.1.getD k 0)))]) [.gone] (fun s=>s.1<=l.length/\s.2.1=(l.take s.1).foldl XY []/\(∀x,x∈s.2.1->2<=x/\x<=1099511627776)/\Y6 (YL s.2.1)<=40*s.1+1/\s.2.1.length<=3000*s.1/\(s.2.2=true->s.2.1.length=0)) (fun s=>l.length-s.1) ?_ ?_
  ·refine⟨(0,[],true),⟨by simp only;omega,rfl,⟨fun x hx=>absurd hx (by simp),by decide,Yt _,fun _=>rfl⟩⟩,?_⟩
   dsimp only[Z1,go_sem,reduceIte,Ya]
   simp only[Yf]
   simp
  ·rintro⟨i,out,yo⟩ ⟨hi,hG,hok,hbp,hlen,hyo⟩
   dsimp only at hi hG hok hbp hlen hyo
   dsimp only[Yw,Yj,go_sem,reduceIte,Ya]
   simp only[Yd,Ya,Ye,reduceCtorEq,Yc]
   refine⟨fun hlt=>?_,fun hge=>?_⟩
   ·have hx:=hl _ (KZ (by omega:i<l.length))
    have hstep:(l.take (i+1)).foldl XY []=XY out (l.getD i default):=by
     rw[Vm (by omega),<-hG]
    generalize l.getD i default=x at hx hstep⊢
    obtain⟨q0,q1,q2,q3⟩:=hx
    obtain⟨N,hN⟩:∃N:Nat,x.1=(N:Int):=⟨x.1.toNat,by omega⟩
    have hR:XY out x=Xd 3000 [N] out:=by rw[XY,hN,Yj]
    obtain⟨R,hRR⟩:∃R,R=XY out x:=⟨_,rfl⟩
    rw[<-hRR]at hR hstep
    rw[hN]
    have hmu:DrOk (40*(i+1)+1) 3000 [N] out:=DrOk.start (by omega) (by omega) hok hbp (by omega)
    refine⟨⟨by omega,by omega⟩,by decide,?_⟩
    refine Loop.keep [0,10,0,0] DSt (fun s=>[(3,.own 0 0 s.out.length 1),(6,.own 2 0 s.n 1)]) (fun s=>[(0,.own s.yo 1 s.out.length (fun k=>JS (s.out.getD k 0))),(2,.own s.yw 1 s.W.length (fun k=>JS (s.W.getD k 0)))]) [] (fun s=>s.n<=s.W.length/\DrOk (40*(i+1)+1) s.f (s.W.take s.n) s.out/\R=Xd s.f (s.W.take s.n) s.out/\s.out.length+s.f<=3000*(i+1)/\(s.yo=true->s.out.length=0)) (fun s=>s.f) ?_ ?_
    ·refine⟨⟨3000,[N],1,out,false,yo⟩,⟨Yt _,hmu,hR,by simp only;omega,hyo⟩,?_⟩
     dsimp only[Z1,XS,go_sem,reduceIte,Ya]
     simp only[Yf]
     refine⟨by decide,fun k hk=>⟨⟨rfl,rfl⟩,trivial⟩,fun k hk=>?_⟩
     obtain rfl:k=0:=by omega
     exact⟨⟨rfl,rfl⟩,trivial⟩
    ·rintro⟨f,W,n,out,yw,yo⟩ ⟨hnW,hmu,hR,hlen,hyo⟩
     dsimp only at hnW hmu hR hlen hyo
     dsimp only[RA8,Yk,gcdC,JS,Yj,go_sem,reduceIte,Ya]
     simp only[Yd,Ya,Ye,reduceCtorEq,Yc]
     have hwl:(W.take n).length=n:=by rw[Qs];omega
     refine⟨fun hpos=>?_,fun hz=>?_⟩
     ·have hwn:(W.take n).length≠0:=by omega
      have hgl:(W.take n).getD ((W.take n).length-1) 0=W.getD (n-1) 0:=by
       rw[hwl,Kh,Kh,XR,if_pos (by omega)]
      have htl:(W.take n).take ((W.take n).length-1)=W.take (n-1):=by
       rw[hwl,List.take_take];congr 1;omega
      obtain⟨g,rfl⟩:∃g,f=g+1:=⟨f-1,by have:=hmu.mu;omega⟩
      have hnf:n<=70000:=by have:=hmu.mu;omega
      rw[Y9 (by omega) (by omega),Yj]
      rw[Xd,if_neg hwn,hgl,htl]at hR
      obtain⟨v,hv⟩:∃v,v=W.getD (n-1) 0:=⟨_,rfl⟩
      have hvr:1<=v/\v<=1099511627776:=by
       have:=hmu.wp _ (KZ (l:=W.take n) (i:=(W.take n).length-1) (by omega))
       rw[show(W.take n).getD ((W.take n).length-1) default=W.getD (n-1) 0 from hgl,<-hv]at this
       exact this
      refine⟨⟨by omega,by omega⟩,by omega,⟨by omega,by omega⟩,fun h1=>?_,fun h1=>?_⟩
      ·have h1':W.getD (n-1) 0=1:=by omega
       obtain⟨g',hg',hd⟩:=hmu.pop hwn (by rw[hgl];exact h1')
       obtain rfl:g=g':=by omega
       rw[if_pos h1']at hR
       rw[htl]at hd
       refine⟨⟨g,W,n-1,out,yw,yo⟩,⟨by simp only;omega,hd,hR,by simp only;omega,hyo⟩,by simp only;omega,?_⟩
       simp only[Yf]
       exact⟨by decide,by decide⟩
      ·have h1':W.getD (n-1) 0≠1:=by omega
       rw[if_neg h1']at hR
       rw[<-hv]at hR h1'⊢
       refine Loop.keep [0,2,2,0,3,0,0,22,0] Nat (fun t=>[(38,.int .i64 t)]) (fun t=>[]) [] (fun t=>t<=out.length/\∀j,j<t->¬1<YI (out.getD j 0) v) (fun t=>out.length-t) ?_ ?_
       ·refine⟨0,⟨by omega,fun j hj=>by omega⟩,?_⟩
        dsimp only[go_sem,reduceIte,Ya]
        simp only[Yf]
        exact⟨by decide,by decide,by decide,rfl⟩
       ·rintro t ⟨ht,hno⟩
        dsimp only[RA8,Yk,gcdC,JS,Yj,go_sem,reduceIte,Ya]
        simp only[Yd,Ya,Ye,reduceCtorEq,Yc]
        refine⟨fun hlt2=>?_,fun hge2=>?_⟩
        ·have hb:2<=out.getD t 0/\out.getD t 0<=1099511627776:=hmu.op _ (KZ (l:=out) (i:=t) (by omega))
         have w1:IntKind.i64.wrap ((t:Int)+1)=((t+1:Nat):Int):=by rw[Yg _ (by omega)];simp
         rw[w1,Yj]
         refine⟨⟨by omega,by omega⟩,by omega,out.getD t 0,v,⟨rfl,rfl,by omega,by omega⟩,fun hgt=>?_,fun hng=>?_⟩
         ·have hgt':1<YI (out.getD t 0) v:=by omega
          have hh:ZP out v=t:=I9 (fun j hj=>decide_eq_false (hno j hj)) (by omega) (fun _=>decide_eq_true hgt')
          obtain⟨g',hg',hd⟩:=hmu.hit hwn (i:=t) (by omega) (by rw[hgl,<-hv];exact hgt')
          obtain rfl:g=g':=by omega
          rw[hh,if_pos (by omega)]at hR
          rw[hgl,htl,<-hv]at hd
          obtain⟨b,hbd⟩:∃b,b=out.getD t 0:=⟨_,rfl⟩
          rw[<-hbd]at hR hd hb hgt hgt'⊢
          obtain⟨G,hG'⟩:∃G,G=YI b v:=⟨_,rfl⟩
          rw[<-hG']at hR hd hgt hgt'⊢
          have e1:IntKind.i64.wrap ((b:Int).tdiv (G:Int))=((b/G:Nat):Int):=by
           have:(b:Int).tdiv (G:Int)=((b/G:Nat):Int):=Wq rfl rfl
           have h2:b/G<=b:=XD _ _
           rw[this]
           generalize b/G=q at h2⊢
           exact Yg _ (by omega)
          have e2:IntKind.i64.wrap ((v:Int).tdiv (G:Int))=((v/G:Nat):Int):=by
           have:(v:Int).tdiv (G:Int)=((v/G:Nat):Int):=Wq rfl rfl
           have h2:v/G<=v:=XD _ _
           rw[this]
           generalize v/G=q at h2⊢
           exact Yg _ (by omega)
          rw[e1,e2]
          have hsub:VE out.length (t+1)=out.length-(t+1):=by unfold VE;rfl
          rw[hsub]
          have hWt:(W.take (n-1)++[G,b/G,v/G]).length=n-1+3:=by rw[JO,Qs];simp only[XS,Z1];omega
          have hol:(out.take t++out.drop (t+1)).length=t+(out.length-(t+1)):=by rw[JO,Qs,List.length_drop];omega
          refine⟨⟨by omega,by omega⟩,⟨by omega,by omega⟩,by unfold Y8;omega,by omega,by omega,by decide,⟨by unfold Y8;omega,fun k hk=>?_⟩,⟨g,W.take (n-1)++[G,b/G,v/G],n-1+3,out.take t++out.drop (t+1),yw&&decide False,yo&&decide (out.length-(t+1)=0)⟩,⟨?_,?_,?_,?_,?_⟩,by simp only;omega,?_⟩
          ·match k,hk with
           |0,_=>exact⟨rfl,trivial,trivial⟩
           |1,_=>exact⟨rfl,trivial,trivial⟩
           |2,_=>exact⟨rfl,trivial,trivial⟩
          ·simp only;omega
          ·simp only;rw[<-hWt,Xt];exact hd
          ·simp only;rw[<-hWt,Xt];exact hR
          ·simp only;omega
          ·simp only
           intro hy
           rw[YS]at hy
           have:=hyo hy.1
           omega
          ·simp only[hol,hWt]
           simp only[Yf]
           refine⟨by decide,fun k hk=>?_,fun k hk=>?_⟩
           ·rw[HI]
            by_cases hkt:k<t
            ·rw[if_pos hkt,Kh (l:=_++_),QY (by rw[Qs];omega),XR,if_pos hkt,<-Kh]
             exact⟨⟨rfl,rfl⟩,trivial⟩
            ·rw[if_neg hkt,Kh (l:=_++_),Z0 (by rw[Qs];omega),Qs,Wu,<-Kh,show t+1+(k-min t out.length)=t+1+(k-t)by omega]
             exact⟨⟨rfl,rfl⟩,trivial⟩
           ·by_cases hkt:k<n-1
            ·rw[if_pos hkt,Kh (l:=_++_),QY (by rw[Qs];omega),XR,if_pos hkt,<-Kh]
             exact⟨⟨rfl,rfl⟩,trivial⟩
            ·rw[if_neg hkt,Kh (l:=_++_),Z0 (by rw[Qs];omega),Qs,show k-min (n-1) W.length=k-(n-1)by omega]
             obtain⟨q,hq⟩:∃q,q=k-(n-1):=⟨_,rfl⟩
             rw[<-hq]
             have hq3:q<3:=by omega
             match q,hq3 with
             |0,_=>exact⟨⟨rfl,rfl⟩,trivial⟩
             |1,_=>exact⟨⟨rfl,rfl⟩,trivial⟩
             |2,_=>exact⟨⟨rfl,rfl⟩,trivial⟩
         ·refine⟨t+1,⟨by omega,fun j hj=>?_⟩,by omega,?_⟩
          ·rcases YY j t with h'|h'
           ·exact hno j h'
           ·obtain rfl:j=t:=by omega
            exact fun hh=>hng (by omega)
          ·simp only[Yf]
           exact⟨by decide,by decide,by decide⟩
        ·obtain rfl:t=out.length:=by omega
         have hh:ZP out v=out.length:=I9 (fun j hj=>decide_eq_false (hno j hj)) (Yt _) (fun hlt=>absurd hlt (ZA _))
         obtain⟨g',hg',hd⟩:=hmu.push hwn (by rw[hgl,<-hv];exact h1')
         obtain rfl:g=g':=by omega
         rw[hh,if_neg (ZA _)]at hR
         rw[hgl,htl,<-hv]at hd
         have hol:(out++[v]).length=out.length+1:=by rw[JO];rfl
         refine⟨by decide,⟨by unfold Y8;omega,fun k hk=>?_⟩,⟨g,W,n-1,out++[v],yw,yo&&decide False⟩,⟨by simp only;omega,hd,hR,by simp only;omega,?_⟩,by simp only;omega,?_⟩
         ·obtain rfl:k=0:=by omega
          exact⟨rfl,trivial,trivial⟩
         ·simp
         ·simp only[hol]
          simp only[Yf]
          refine⟨by decide,fun k hk=>?_⟩
          by_cases hkt:k<out.length
          ·rw[if_pos hkt,Kh (l:=_++_),QY hkt,<-Kh]
           exact⟨⟨rfl,rfl⟩,trivial⟩
          ·obtain rfl:k=out.length:=by omega
           rw[if_neg hkt,Kh (l:=_++_),Z0 (Yt _),Nat.sub_self]
           exact⟨⟨rfl,rfl⟩,trivial⟩
     ·obtain rfl:n=0:=by omega
      rw[List.take_zero]at hR hmu
      have hRo:R=out:=by
       rw[hR]
       cases f with
       |zero=>rfl
       |succ f=>rw[Xd,if_pos Z1]
      have hpb:=hmu.pb
      rw[show YL out*YL []=YL out from Y0 _]at hpb
      refine⟨(i+1,out,yo),⟨by simp only;omega,by rw[hstep,hRo],hmu.op,hpb,by simp only;omega,hyo⟩,by simp only;omega,?_⟩
      rw[Yg ((i:Int)+1) (by omega)]
      simp only[Yf]
      exact⟨by decide,by simp⟩
   ·obtain rfl:i=l.length:=by omega
    rw[Xt]at hG
    have hG:Uw l=out:=hG.symm
    rw[hG]at h
    refine Kv (show k (.vs true yo out.length 1 (fun k=>JS (out.getD k 0))) []from h yo) ?_ (fun _=>by simp [Y3,JS,Y5])
    have e:JT [HO.own yo 1 out.length fun k=>JS (out.getD k 0)] (SV.own 0 0 out.length 1)= .vs true yo out.length 1 (fun k=>JS (out.getD k 0)):=by
     simp [JT,JX,Jw,viewN,Ys,CA,JS]
    rw[e]
    exact JG _ trivial
 ·exact h.1.elim
def v54:VF:=⟨39,[.tmp 2],(ZR [u1 2 .mov [.cn (.bool false)]] (.seq (ZR [Zm 9 0,Zc 10 90 9,Zl 11 10,Zi 12 0] (.block 0 (.loop (ZR [Zr 13 .lss 12 11] (.seq (ZC 13 .skip (.exit 0)) (.seq (.block 1 (ZR [Zx 14 1 10 12,Zf 15 1 14,Zm 4 15] (ZR [Zi 5 0] (.seq (ZR [Zm 16 0,Zl 17 16,Zi 18 0] (.block 2 (.loop (ZR [Zr 19 .lss 18 17] (.seq (ZC 19 .skip (.exit 2)) (.seq (.block 3 (ZR [Zx 20 2 16 18,Zt 21 2 20,u1 7 (.alloc Z2) [],Zs 2 7 21] (ZR [Za 22 0 7,Zf 23 1 22,Zm 8 23] (.block 4 (.loop (.seq (ZR [Zm 24 8,Zm 25 4,u1 26 .rem [.tm 24,.tm 25],Zq 27 .eql 26 0] (ZC 27 .skip (.exit 4))) (.seq (.block 5 (.region [Zm 31 5,Za 32 1 7,Zf 33 1 32,Zo 34 .add 31 33,Zm 5 34])) (.region [Zm 28 8,Zm 29 4,u1 30 .quo [.tm 28,.tm 29],Zm 8 30])))))))) (.region [Zp 35 18 1,Zm 18 35]))))))) (ZR [Zm 36 5,Zq 37 .neq 36 0] (ZC 37 (ZR [u1 2 .mov [.cn (.bool false)]] .ret) .skip)))))) (.region [Zp 38 12 1,Zm 12 38]))))))) (ZR [u1 2 .mov [.cn (.bool true)]] .ret)))⟩
theorem Yp7:Yn Yb Tryz.f54=some v54:=by kernel_rfl
def Xc:Nat->Int->Int->Int->Int->Int
 |0,_,_,_,s=>s
 |f+1,b,n,num,s=>if n.tmod b=0 then Xc f b (IntKind.i64.wrap (n.tdiv b)) num (IntKind.i64.wrap (s+num))else s
def X8(l:List (Int×Int))(b:Nat):Int:=l.foldl (fun s x=>Xc 64 b x.1 x.2 s) 0
def WG(l:List (Int×Int)):Bool:=(Uw l).all fun b=>decide (X8 l b=0)
theorem Mp{B:Nat}:∀{f:Nat}{wait out:List Nat},DrOk B f wait out->(∀x,x∈Xd f wait out->2<=x/\x<=1099511627776)/\Y6 (YL (Xd f wait out))<=B
 |0,wait,out,h=>by
  rw[Xd]
  have hw:wait=[]:=List.length_eq_zero_iff.1 (by have:=h.mu;omega)
  have:=h.pb
  rw[hw,show YL out*YL []=YL out from Y0 _]at this
  exact⟨h.op,this⟩
 |f+1,wait,out,h=>by
  rw[Xd]
  by_cases hw:wait.length=0
  ·rw[if_pos hw]
   have hw:wait=[]:=List.length_eq_zero_iff.1 hw
   have:=h.pb
   rw[hw,show YL out*YL []=YL out from Y0 _]at this
   exact⟨h.op,this⟩
  ·rw[if_neg hw]
   by_cases h1:wait.getD (wait.length-1) 0=1
   ·rw[if_pos h1]
    obtain⟨g,hg,hd⟩:=h.pop hw h1
    obtain rfl:f=g:=by omega
    exact Mp hd
   ·rw[if_neg h1]
    by_cases h2:ZP out (wait.getD (wait.length-1) 0)<out.length
    ·rw[if_pos h2]
     have hs:=(BP (f:=fun i=>decide (1<YI (out.getD i 0) (wait.getD (wait.length-1) 0))) out.length 0).2.2.2 (by simpa [ZP]using h2)
     obtain⟨g,hg,hd⟩:=h.hit hw h2 (of_decide_eq_true hs)
     obtain rfl:f=g:=by omega
     exact Mp hd
    ·rw[if_neg h2]
     obtain⟨g,hg,hd⟩:=h.push hw h1
     obtain rfl:f=g:=by omega
     exact Mp hd
theorem CV{l:List (Int×Int)}(hl:∀x,x∈l->okT x)(hn:l.length<=20):∀x,x∈Uw l->2<=x/\x<=1099511627776:=by
 have key:∀i,i<=l.length->(∀x,x∈(l.take i).foldl XY []->2<=x/\x<=1099511627776)/\Y6 (YL ((l.take i).foldl XY []))<=40*i+1:=fun i=>by
  induction i with
  |zero=>exact fun _=>⟨fun x hx=>absurd hx (by simp),by simp [YL];decide⟩
  |succ i ih=>
   intro hi
   obtain⟨h1,h2⟩:=ih (by omega)
   have hx:=hl _ (KZ (by omega:i<l.length))
   rw[Vm (by omega)]
   obtain⟨q0,q1,q2,q3⟩:=hx
   exact Mp (DrOk.start (by omega) (by omega) h1 h2 (by omega))
 have:=(key l.length (Yt _)).1
 rwa [Xt]at this
theorem Yfo(l:List (Int×Int)):(Uw l).length<=3000*l.length:=by
 have key:∀(l:List (Int×Int))(out:List Nat),(l.foldl XY out).length<=out.length+3000*l.length:=fun l=>by
  induction l with
  |nil=>intro out;simp
  |cons x l ih=>
   intro out
   have h1:=ih (XY out x)
   have h2:(XY out x).length<=out.length+3000:=Ygu
   rw[List.foldl_cons,XS]
   omega
 have h:=key l []
 rw[Z1,KJ]at h
 exact h
def oneC:Ctr:={ alias:=false,of:=fun l=>match l with
 | [.vs _ _ n sz get]=> .ex (List (Int×Int)) fun l=> .pre (lsP 2 Yw n sz get l/\(∀x,x∈l->okT x)/\n<=20) (.fin (.bool (WG l)) [])
 |_=> .pre False (.fin (.bool false) [])}
def RA9:Env:=mkE [(90,baseC)] []
theorem Yd8:YD Yb RA9:=eo (by kernel_rfl) ⟨⟨Yfp,_,Tryz.func90,rfl,rfl⟩,trivial⟩ trivial
theorem LW:oneC.ok Yb 54:=by
 refine Yy Tryz.func54 Yp7 Yd8 500 oneC fun args k h=>?_
 simp only[oneC]at h
 split at h
 ·rename_i tt z n sz get
  obtain⟨l,⟨⟨rfl,rfl,hg⟩,hl,hn⟩,h⟩:=h
  refine⟨[.vs tt z l.length 2 (fun k=>Yw (l.getD k default))],⟨⟨id,rfl,rfl,rfl,hg⟩,trivial⟩,?_⟩
  dsimp only[v54,RA9,Yk,baseC,Yw,go_sem,reduceIte,Ya]
  simp only[Yd,Ya,Ye,reduceCtorEq,Yc]
  refine⟨l,⟨⟨rfl,rfl,fun k hk=>YW _⟩,hl,hn⟩,fun y=>?_⟩
  have hbr:=CV hl hn
  have hbl:=Yfo l
  obtain⟨B,hB⟩:∃B,B=Uw l:=⟨_,rfl⟩
  rw[<-hB]at hbr hbl⊢
  have hone:WG l=B.all fun b=>decide (X8 l b=0):=by rw[hB];rfl
  refine Loop.keep [0,9,0] Nat (fun i=>[(12,.int .i64 i)]) (fun _=>[]) [] (fun i=>i<=B.length/\((B.take i).all fun b=>decide (X8 l b=0))=true) (fun i=>B.length-i) ?_ ?_
  ·refine⟨0,⟨by omega,rfl⟩,?_⟩
   dsimp only[go_sem,reduceIte,Ya]
   simp only[Yf]
   rfl
  ·rintro i ⟨hi,hall⟩
   dsimp only[RA9,Yk,baseC,JS,Yw,Yj,go_sem,reduceIte,Ya]
   simp only[Yd,Ya,Ye,reduceCtorEq,Yc]
   refine⟨fun hlt=>⟨⟨by omega,by omega⟩,?_⟩,fun hge=>?_⟩
   ·have hb:2<=B.getD i 0/\B.getD i 0<=1099511627776:=hbr _ (KZ (l:=B) (i:=i) (by omega))
    have hsucc:((B.take (i+1)).all fun b=>decide (X8 l b=0))=decide (X8 l (B.getD i 0)=0):=by
     rw[Ycm (by omega),hall,Bool.true_and];rfl
    have hmemb:B.getD i 0∈B:=KZ (l:=B) (i:=i) (by omega)
    obtain⟨b,hbe⟩:∃b,b=B.getD i 0:=⟨_,rfl⟩
    rw[<-hbe]at hb hsucc hmemb⊢
    refine Loop.keep [0,3,5,0,0,3,0] (Nat×Int) (fun s=>[(5,.int .i64 s.2),(18,.int .i64 s.1)]) (fun _=>[]) [] (fun s=>s.1<=l.length/\s.2=(l.take s.1).foldl (fun s x=>Xc 64 b x.1 x.2 s) 0) (fun s=>l.length-s.1) ?_ ?_
    ·refine⟨(0,0),⟨by simp only;omega,rfl⟩,?_⟩
     dsimp only[go_sem,reduceIte,Ya]
     simp only[Yf]
     rfl
    ·rintro⟨t,S⟩ ⟨ht,hS⟩
     dsimp only at ht hS
     dsimp only[Yw,Yj,go_sem,reduceIte,Ya]
     simp only[Yd,Ya,Ye,reduceCtorEq,Yc]
     refine⟨fun hlt2=>⟨⟨by omega,by omega⟩,?_⟩,fun hge2=>?_⟩
     ·have hx:=hl _ (KZ (by omega:t<l.length))
      have hst:(l.take (t+1)).foldl (fun s x=>Xc 64 b x.1 x.2 s) 0=Xc 64 b (l.getD t default).1 (l.getD t default).2 S:=by
       rw[Vm (by omega),<-hS]
      generalize l.getD t default=x at hx hst⊢
      obtain⟨q0,q1,q2,q3⟩:=hx
      obtain⟨R,hR⟩:∃R,R=Xc 64 b x.1 x.2 S:=⟨_,rfl⟩
      rw[<-hR]at hst
      refine Loop.keep [0,3,2,2,0,0,3,0,0] (Nat×Int×Int) (fun s=>[(5,.int .i64 s.2.2),(8,.int .i64 s.2.1)]) (fun _=>[]) [] (fun s=>R=Xc s.1 b s.2.1 x.2 s.2.2/\1<=s.2.1/\s.2.1<2^s.1/\s.2.1<=1000000000001) (fun s=>s.1) ?_ ?_
      ·refine⟨(64,x.1,S),⟨hR,q0,by simp only;omega,q1⟩,?_⟩
       dsimp only[go_sem,reduceIte,Ya]
       simp only[Yf]
       decide
      ·rintro⟨f,n,S'⟩ ⟨hf,n0,n1,n2⟩
       dsimp only at hf n0 n1 n2
       dsimp only[go_sem,reduceIte,Ya]
       simp only[Yd,Ya,Ye,reduceCtorEq,Yc]
       obtain⟨m,rfl⟩:=Un (by omega:0<=n)
       obtain⟨g,rfl⟩:∃g,f=g+1:=by
        cases f with
        |zero=>simp at n1;omega
        |succ g=>exact⟨g,rfl⟩
       rw[Xc]at hf
       refine⟨by omega,fun hc=>⟨by omega,?_⟩,fun hc=>?_⟩
       ·rw[if_pos hc]at hf
        have e1:(m:Int).tmod (b:Int)=((m%b:Nat):Int):=VI rfl rfl
        have e2:(m:Int).tdiv (b:Int)=((m/b:Nat):Int):=Wq rfl rfl
        rw[e1]at hc
        have hdm:=KP m b
        rw[show m%b=0 by omega,KO]at hdm
        have hq1:1<=m/b:=Nat.pos_of_ne_zero fun hh=>by rw[hh,ZD]at hdm;omega
        have hq2:2*(m/b)<=m:=by
         have:2*(m/b)<=b*(m/b):=Yp _ hb.1
         omega
        rw[e2]at hf⊢
        generalize m/b=q at hq1 hq2 hf⊢
        have eq:IntKind.i64.wrap (q:Int)=(q:Int):=Yg _ (by omega)
        rw[eq]at hf⊢
        have n1':m<2^g*2:=by rw[<-YH];exact_mod_cast n1
        refine⟨(g,q,IntKind.i64.wrap (S'+x.2)),⟨hf,by simp only;omega,?_,by simp only;omega⟩,by simp only;omega,?_⟩
        ·show(q:Int)<2^g
         have:q<2^g:=by omega
         exact_mod_cast this
        ·simp only[Yf]
         decide
       ·rw[if_neg hc]at hf
        refine⟨(t+1,S'),⟨by simp only;omega,by rw[hst,hf]⟩,by simp only;omega,?_⟩
        rw[Yg ((t:Int)+1) (by omega)]
        simp only[Yf]
        simp
     ·obtain rfl:t=l.length:=by omega
      rw[Xt]at hS
      have hS:S=X8 l b:=hS
      refine⟨fun hc=>?_,fun hc=>⟨i+1,⟨by omega,?_⟩,by omega,?_⟩⟩
      ·have:WG l=false:=by
        rw[hone,List.all_eq_false]
        exact⟨b,hmemb,by rw[<-hS];simpa using hc⟩
       rw[this]at h
       exact QF h
      ·rw[hsucc,<-hS];exact decide_eq_true hc
      ·rw[Yg ((i:Int)+1) (by omega)]
       simp only[Yf]
       simp
   ·obtain rfl:i=B.length:=by omega
    rw[Xt]at hall
    rw[hone,hall]at h
    exact QF h
 ·exact h.1.elim
inductive Spn (L:List Nat):Nat->Prop
 |one:Spn L 1
 |mul {x y:Nat}:x∈L->Spn L y->Spn L (x*y)
theorem Spn.mem{L:List Nat}{x:Nat}(h:x∈L):Spn L x:=by
 have:=Spn.mul h Spn.one
 rwa [Y0]at this
theorem Spn.mul2{L:List Nat}{x y:Nat}(hx:Spn L x)(hy:Spn L y):Spn L (x*y):=by
 induction hx with
 |one=>rwa [Y2]
 |mul h _ ih=>rw[YA];exact .mul h ih
theorem Spn.sub{L L':List Nat}(h:∀x,x∈L->Spn L' x){y:Nat}(hy:Spn L y):Spn L' y:=by
 induction hy with
 |one=>exact .one
 |mul hx _ ih=>exact(h _ hx).mul2 ih
def Cop(r:List Nat):Prop:=r.Pairwise fun a b=>YI a b=1
theorem DC{B:Nat}:∀{f:Nat}{wait out:List Nat},DrOk B f wait out->Cop out->Cop (Xd f wait out)/\∀y,Spn (out++wait) y->Spn (Xd f wait out) y
 |0,wait,out,h,hc=>by
  have hw:wait=[]:=List.length_eq_zero_iff.1 (by have:=h.mu;omega)
  rw[Xd,hw,Wr]
  exact⟨hc,fun _ h=>h⟩
 |f+1,wait,out,h,hc=>by
  rw[Xd]
  by_cases hw:wait.length=0
  ·rw[if_pos hw]
   have hw:wait=[]:=List.length_eq_zero_iff.1 hw
   rw[hw,Wr]
   exact⟨hc,fun _ h=>h⟩
  ·rw[if_neg hw]
   have e:=AY hw
   by_cases h1:wait.getD (wait.length-1) 0=1
   ·rw[if_pos h1]
    obtain⟨g,hg,hd⟩:=h.pop hw h1
    obtain rfl:f=g:=by omega
    obtain⟨k1,k2⟩:=DC hd hc
    refine⟨k1,fun y hy=>k2 y (hy.sub fun x hx=>?_)⟩
    rw[e,Ky,Ky,Jj]at hx
    rcases hx with hx|hx|hx
    ·exact .mem (List.mem_append_left _ hx)
    ·exact .mem (List.mem_append_right _ hx)
    ·rw[hx,h1];exact .one
   ·rw[if_neg h1]
    have hsp:=BP (f:=fun i=>decide (1<YI (out.getD i 0) (wait.getD (wait.length-1) 0))) out.length 0
    have hn:1<=wait.getD (wait.length-1) 0:=(h.wp _ (KZ (l:=wait) (i:=wait.length-1) (by omega))).1
    by_cases h2:ZP out (wait.getD (wait.length-1) 0)<out.length
    ·rw[if_pos h2]
     have hs:=hsp.2.2.2 (by simpa [ZP]using h2)
     obtain⟨g,hg,hd⟩:=h.hit hw h2 (of_decide_eq_true hs)
     obtain rfl:f=g:=by omega
     have e':=Yca h2
     generalize ZP out (wait.getD (wait.length-1) 0)=i at*
     have hsub:List.Sublist (out.take i++out.drop (i+1)) out:=by
      conv=>rhs;rw[e']
      exact(List.sublist_cons_self _ _).append_left _
     obtain⟨k1,k2⟩:=DC hd (List.Pairwise.sublist hsub hc)
     refine⟨k1,fun y hy=>k2 y (hy.sub fun x hx=>?_)⟩
     generalize hL:out.take i++out.drop (i+1)++(wait.take (wait.length-1)++[YI (out.getD i 0) (wait.getD (wait.length-1) 0),out.getD i 0/YI (out.getD i 0) (wait.getD (wait.length-1) 0),wait.getD (wait.length-1) 0/YI (out.getD i 0) (wait.getD (wait.length-1) 0)])=L
     have mL:∀z,z∈out.take i\/z∈out.drop (i+1)\/z∈wait.take (wait.length-1)\/z=YI (out.getD i 0) (wait.getD (wait.length-1) 0)\/z=out.getD i 0/YI (out.getD i 0) (wait.getD (wait.length-1) 0)\/z=wait.getD (wait.length-1) 0/YI (out.getD i 0) (wait.getD (wait.length-1) 0)->Spn L z:=fun z hz=>by
      refine .mem ?_
      rw[<-hL]
      simp only[Ky,Kz,Z3,or_false]
      rcases hz with hz|hz|hz|hz|hz|hz
      ·exact .inl (.inl hz)
      ·exact .inl (.inr hz)
      ·exact .inr (.inl hz)
      ·exact .inr (.inr (.inl hz))
      ·exact .inr (.inr (.inr (.inl hz)))
      ·exact .inr (.inr (.inr (.inr hz)))
     rcases Ky.1 hx with hx|hx
     ·rw[e']at hx
      rcases Ky.1 hx with hx|hx
      ·exact mL _ (.inl hx)
      ·rcases Kz.1 hx with hx|hx
       ·rw[hx]
        have:=(mL _ (.inr (.inr (.inr (.inl rfl))))).mul2 (mL _ (.inr (.inr (.inr (.inr (.inl rfl))))))
        rwa [Nat.mul_div_cancel' (WI _ _)]at this
       ·exact mL _ (.inr (.inl hx))
     ·rw[e]at hx
      rcases Ky.1 hx with hx|hx
      ·exact mL _ (.inr (.inr (.inl hx)))
      ·rw[Jj]at hx
       rw[hx]
       have:=(mL _ (.inr (.inr (.inr (.inl rfl))))).mul2 (mL _ (.inr (.inr (.inr (.inr (.inr rfl))))))
       rwa [Nat.mul_div_cancel' (Nat.gcd_dvd_right _ _)]at this
    ·rw[if_neg h2]
     obtain⟨g,hg,hd⟩:=h.push hw h1
     obtain rfl:f=g:=by omega
     have hcop:Cop (out++[wait.getD (wait.length-1) 0]):=by
      refine List.pairwise_append.2 ⟨hc,List.pairwise_singleton _ _,fun a ha b hb=>?_⟩
      rw[Jj]at hb
      rw[hb]
      obtain⟨j,hj,hja⟩:=Ov ha
      have:=hsp.2.2.1 j (by omega) (by show j<ZP out _;omega)
      have:=of_decide_eq_false this
      rw[show out.getD j 0=a from hja]at this
      have:=Nat.gcd_pos_of_pos_right a hn
      omega
     obtain⟨k1,k2⟩:=DC hd hcop
     refine⟨k1,fun y hy=>k2 y (hy.sub fun x hx=>?_)⟩
     rw[e,Ky,Ky,Jj]at hx
     refine .mem ?_
     rw[Ky,Ky,Jj]
     rcases hx with hx|hx|hx
     ·exact .inl (.inl hx)
     ·exact .inr hx
     ·exact .inl (.inr hx)
theorem Sk{l:List (Int×Int)}(hl:∀x,x∈l->okT x)(hn:l.length<=20):Cop (Uw l)/\∀x,x∈l->Spn (Uw l) x.1.toNat:=by
 have key:∀i,i<=l.length->((∀x,x∈(l.take i).foldl XY []->2<=x/\x<=1099511627776)/\Y6 (YL ((l.take i).foldl XY []))<=40*i+1)/\Cop ((l.take i).foldl XY [])/\∀x,x∈l.take i->Spn ((l.take i).foldl XY []) x.1.toNat:=fun i=>by
  induction i with
  |zero=>exact fun _=>⟨⟨fun x hx=>absurd hx (by simp),by simp [YL];decide⟩,List.Pairwise.nil,fun x hx=>absurd hx (by simp)⟩
  |succ i ih=>
   intro hi
   obtain⟨⟨h1,h2⟩,h3,h4⟩:=ih (by omega)
   have hx:=hl _ (KZ (by omega:i<l.length))
   rw[Vm (by omega),Hy (by omega)]
   obtain⟨q0,q1,q2,q3⟩:=hx
   have hd:=DrOk.start (N:=(l.getD i default).1.toNat) (by omega) (by omega) h1 h2 (by omega)
   obtain⟨d1,d2⟩:=DC hd h3
   refine⟨Mp hd,d1,fun y hy=>?_⟩
   rcases Ky.1 hy with hy|hy
   ·exact d2 _ ((h4 y hy).sub fun z hz=> .mem (List.mem_append_left _ hz))
   ·rw[Jj]at hy
    rw[hy]
    exact d2 _ (.mem (List.mem_append_right _ (Jj.2 rfl)))
 have:=(key l.length (Yt _)).2
 rwa [Xt]at this
def vl:Nat->Nat->Nat->Nat
 |0,_,_=>0
 |f+1,b,x=>if x%b=0 then vl f b (x/b)+1 else 0
theorem Rk{b:Nat}(hb:2<=b):∀(f x:Nat),1<=x->x<2^f->∀e,b^e∣x↔e<=vl f b x
 |0,x,h1,h2,_=>by simp at h2;omega
 |f+1,x,h1,h2,e=>by
  rw[vl]
  by_cases c:x%b=0
  ·rw[if_pos c]
   obtain⟨y,rfl⟩:=Nat.dvd_of_mod_eq_zero c
   have hy:1<=y:=Nat.pos_of_ne_zero fun h=>by rw[h,ZD]at h1;omega
   rw[Nat.mul_div_cancel_left _ (by omega)]
   have hy2:y<2^f:=by
    have:2*y<=b*y:=Yp _ hb
    rw[YH]at h2;omega
   cases e with
   |zero=>simp
   |succ e=>
    rw[YH,Yl,Nat.mul_dvd_mul_iff_left (by omega),Rk hb f y hy hy2]
    omega
  ·rw[if_neg c]
   cases e with
   |zero=>simp
   |succ e=>
    refine⟨fun h=>absurd (Nat.mod_eq_zero_of_dvd (JY ⟨b^e,by rw[YH,Yl]⟩ h)) c,fun h=>by omega⟩
theorem YqZ{r:List Nat}(hc:Cop r)(h2:∀x,x∈r->2<=x){b c y:Nat}(hb:b∈r)(hcm:c∈r)(hy:1<=y)(hyl:c*y<2^64):vl 64 b (c*y)=vl 64 b y+if b=c then 1 else 0:=by
 have hb2:=h2 _ hb
 have hc2:=h2 _ hcm
 have hcy:1<=c*y:=Y1 (by omega) hy
 have hy2:y<2^64:=JC (Nat.le_mul_of_pos_left _ (by omega)) hyl
 have s1:=Rk hb2 64 (c*y) hcy hyl
 have s2:=Rk hb2 64 y hy hy2
 have ext:∀A B:Nat,(∀e,e<=A↔e<=B)->A=B:=fun A B h=>Nat.le_antisymm ((h A).1 (Yt _)) ((h B).2 (Yt _))
 refine ext _ _ fun e=>?_
 rw[<-s1 e]
 by_cases ebc:b=c
 ·rw[if_pos ebc,<-ebc]
  cases e with
  |zero=>simp
  |succ e=>
   rw[YH,Yl,Nat.mul_dvd_mul_iff_left (by omega),s2 e]
   omega
 ·rw[if_neg ebc,KO,<-s2 e]
  have hg:YI b c=1:=by
   obtain⟨i,hi,rfl⟩:=List.mem_iff_getElem.1 hb
   obtain⟨j,hj,rfl⟩:=List.mem_iff_getElem.1 hcm
   rcases Ww i j with h|h|h
   ·exact List.pairwise_iff_getElem.1 hc i j hi hj h
   ·subst h;exact absurd rfl ebc
   ·rw[Nat.gcd_comm];exact List.pairwise_iff_getElem.1 hc j i hj hi h
  exact⟨fun h=>Nat.Coprime.dvd_of_dvd_mul_left (Nat.Coprime.pow_left e hg) h,fun h=>JY h (Nat.dvd_mul_left _ _)⟩
def PV(e:Nat->Nat):List Nat->Nat
 | []=>1
 |b::r=>b^e b*PV e r
theorem VQ{e e':Nat->Nat}:∀{r:List Nat},(∀b,b∈r->e b=e' b)->PV e r=PV e' r
 | [],_=>rfl
 |b::r,h=>by rw[PV,PV,h b (KR ..),VQ fun x hx=>h x (KX _ hx)]
theorem FZ:∀(r:List Nat),PV (fun _=>0) r=1
 | []=>rfl
 |b::r=>by rw[PV,FZ r];rfl
theorem NY(e e':Nat->Nat):∀(r:List Nat),PV (fun b=>e b+e' b) r=PV e r*PV e' r
 | []=>rfl
 |b::r=>by rw[PV,PV,PV,NY e e' r,Yo,Nat.mul_mul_mul_comm]
theorem Cs(e:Nat->Nat)(k:Nat):∀(r:List Nat),PV (fun b=>e b*k) r=PV e r^k
 | []=>by simp [PV]
 |b::r=>by rw[PV,PV,Cs e k r,Ym,Yq]
theorem RA{c:Nat}:∀{r:List Nat},Cop r->(∀x,x∈r->2<=x)->c∈r->PV (fun b=>if b=c then 1 else 0) r=c
 |b::r,hc,h2,hm=>by
  obtain⟨g1,g2⟩:=List.pairwise_cons.1 hc
  have hb2:=h2 b (KR ..)
  rw[PV]
  by_cases e:b=c
  ·subst e
   rw[if_pos rfl,QO]
   have:PV (fun x=>if x=b then 1 else 0) r=PV (fun _=>0) r:=VQ fun x hx=>by
    refine if_neg fun hh=>?_
    have:=g1 x hx
    rw[hh,Nat.gcd_self]at this
    omega
   rw[this,FZ,Y0]
  ·rw[if_neg e,Jk,Y2]
   refine RA g2 (fun x hx=>h2 x (KX _ hx)) ?_
   rcases Kz.1 hm with h|h
   ·exact absurd h.symm e
   ·exact h
theorem YdP{r:List Nat}(hc:Cop r)(h2:∀x,x∈r->2<=x){y:Nat}(hy:Spn r y):1<=y/\(y<2^64->PV (fun b=>vl 64 b y) r=y):=by
 induction hy with
 |one=>
  refine⟨Yt _,fun _=>?_⟩
  rw[VQ (e':=fun _=>0) fun b hb=>?_,FZ]
  have hb2:=h2 b hb
  rw[vl,if_neg (by rw[QB (by omega)];decide)]
 | @mul x y hx _ ih=>
   obtain⟨i1,i2⟩:=ih
   have hx2:=h2 x hx
   refine⟨Y1 (by omega) i1,fun hlt=>?_⟩
   rw[VQ fun b hb=>YqZ hc h2 hb hx i1 hlt,NY,RA hc h2 hx,i2 (JC (Nat.le_mul_of_pos_left _ (by omega)) hlt),Yl]
theorem Ygm{b:Nat}(hb:2<=b)(hbl:b<=1099511627776){num:Int}(hn: -3000000000000000<=num/\num<=3000000000000000):∀(f x:Nat)(s:Int),x<4611686018427387904->f<=64-> -4500000000000000000+f*3000000000000000<=s->s<=4500000000000000000-f*3000000000000000->
 Xc f (b:Int) (x:Int) num s=s+num*(vl f b x:Nat):=
 by
 intro f
 induction f with
 |zero=>intro x s _ _ _ _;simp [Xc,vl]
 |succ f ih=>
  intro x s hx hf h1 h2
  rw[Xc,vl]
  have e1:(x:Int).tmod (b:Int)=((x%b:Nat):Int):=rfl
  have e2:(x:Int).tdiv (b:Int)=((x/b:Nat):Int):=rfl
  rw[e1,e2]
  by_cases c:x%b=0
  ·have hq:x/b<=x:=XD _ _
   rw[if_pos (by omega),if_pos c]
   generalize x/b=q at*
   rw[Yg _ (by omega),Yg (s+num) (by omega),ih q (s+num) (by omega) (by omega) (by omega) (by omega),VH,Int.mul_add]
   simp only[Int.natCast_one,Int.mul_one]
   omega
  ·rw[if_neg (by omega),if_neg c];simp
theorem PP{b:Nat}(hb:2<=b)(hbl:b<=1099511627776):∀(l:List (Int×Int))(s:Int),(∀x,x∈l->okU x)->l.length<=100-> -4500000000000000000+(l.length+1)*192000000000000000<=s->s<=4500000000000000000-(l.length+1)*192000000000000000->
 l.foldl (fun s x=>Xc 64 b x.1 x.2 s) s=s+(upS (vl 64 b) l:Nat)-(dnS (vl 64 b) l:Nat):=
 by
 intro l
 induction l with
 |nil=>intro s _ _ _ _;simp [upS,dnS]
 |cons x l ihl=>
  intro s hl hn h1 h2
  have hx:=hl x (KR ..)
  obtain⟨n1,n2,n3⟩:=W8 hx
  obtain⟨_,_,x3,x4⟩:=hx
  rw[XS]at hn h1 h2
  have hv:vl 64 b x.1.toNat<=64:=by
   have key:∀f y,vl f b y<=f:=fun f=>by
    induction f with
    |zero=>intro y;exact Yt _
    |succ f ih=>
     intro y
     rw[vl]
     split
     ·have:=ih (y/b);omega
     ·omega
   exact key 64 _
  have hd:Xc 64 (b:Int) x.1 x.2 s=s+x.2*(vl 64 b x.1.toNat:Nat):=by
   conv=>lhs;rw[n3]
   exact Ygm hb hbl ⟨x3,x4⟩ 64 _ s n2 (by decide) (by omega) (by omega)
  have hb1:x.2*(vl 64 b x.1.toNat:Nat)<=3000000000000000*64:=by
   refine Int.le_trans (XC x4 (by omega)) ?_
   exact Int.mul_le_mul_of_nonneg_left (by omega) (by decide)
  have hb2: -3000000000000000*64<=x.2*(vl 64 b x.1.toNat:Nat):=by
   refine Int.le_trans ?_ (XC x3 (by omega))
   omega
  rw[List.foldl_cons,hd,ihl _ (fun y hy=>hl y (KX _ hy)) (by omega) (by omega) (by omega),upS,dnS]
  by_cases c:x.2<0
  ·rw[if_pos c,if_pos c]
   have:x.2*(vl 64 b x.1.toNat:Nat)= -((vl 64 b x.1.toNat*(-x.2).toNat:Nat):Int):=by
    rw[Qr,show(((-x.2).toNat:Nat):Int)= -x.2 by omega,KN,Jx,KM]
   rw[this];omega
  ·rw[if_neg c,if_neg c]
   have:x.2*(vl 64 b x.1.toNat:Nat)=((vl 64 b x.1.toNat*x.2.toNat:Nat):Int):=by
    rw[Qr,show((x.2.toNat:Nat):Int)=x.2 by omega,KM]
   rw[this];omega
theorem NZ{r:List Nat}(hc:Cop r)(h2:∀x,x∈r->2<=x):∀(l:List (Int×Int)),(∀x,x∈l->okU x/\Spn r x.1.toNat)->
 upP l=PV (fun b=>upS (vl 64 b) l) r/\dnP l=PV (fun b=>dnS (vl 64 b) l) r
 | [],_=>by
   constructor
   ·exact(FZ r).symm
   ·exact(FZ r).symm
 |x::l,hl=>by
  obtain⟨i1,i2⟩:=NZ hc h2 l fun y hy=>hl y (KX _ hy)
  obtain⟨hx,hs⟩:=hl x (KR ..)
  obtain⟨n1,n2,n3⟩:=W8 hx
  have e:=(YdP hc h2 hs).2 (by omega)
  rw[upP,dnP,i1,i2]
  by_cases c:x.2<0
  ·rw[if_pos c,if_pos c]
   constructor
   ·rw[Y2]
    exact VQ fun b _=>by rw[upS,if_pos c,KJ]
   ·have:∀b,dnS (vl 64 b) (x::l)=vl 64 b x.1.toNat*(-x.2).toNat+dnS (vl 64 b) l:=fun b=>by rw[dnS,if_pos c]
    rw[VQ fun b _=>this b,NY,Cs,e]
  ·rw[if_neg c,if_neg c]
   constructor
   ·have:∀b,upS (vl 64 b) (x::l)=vl 64 b x.1.toNat*x.2.toNat+upS (vl 64 b) l:=fun b=>by rw[upS,if_neg c]
    rw[VQ fun b _=>this b,NY,Cs,e]
   ·rw[Y2]
    exact VQ fun b _=>by rw[dnS,if_neg c,KJ]
theorem LX{l:List (Int×Int)}(hl:∀x,x∈l->okU x)(hn:l.length<=20)(h:WG l=true):upP l=dnP l:=by
 have hT:∀x,x∈l->okT x:=fun x hx=>O8 (hl x hx)
 obtain⟨hc,hs⟩:=Sk hT hn
 have hr:=CV hT hn
 obtain⟨e1,e2⟩:=NZ hc (fun x hx=>(hr x hx).1) l fun x hx=>⟨hl x hx,hs x hx⟩
 rw[e1,e2]
 refine VQ fun b hb=>?_
 have hb2:=hr b hb
 have h0:=of_decide_eq_true (VJ.1 h b hb)
 unfold X8 at h0
 rw[PP hb2.1 hb2.2 l 0 hl (by omega) (by omega) (by omega)]at h0
 omega
def v52:VF:=⟨39,[.tmp 2],(ZR [Zi 2 0] (.seq (ZR [Zm 9 0,Zc 10 87 9,Zm 8 10,Ze 11 0 8,Ze 12 1 8,Zm 3 11,Zm 4 12] (ZR [Zm 13 4] (ZC 13 (ZR [Zm 14 3,Zm 2 14] .ret) .skip))) (.seq (ZR [Zm 15 0,Zc 16 54 15] (ZC 16 (ZR [Zi 2 0] .ret) .skip)) (.seq (ZR [Zi 5 64] (.block 0 (.loop (.seq (ZR [Zm 17 5,Zq 18 .leq 17 2048] (ZC 18 .skip (.exit 0))) (.seq (.block 1 (ZR [Zm 22 0,Zm 23 5,Zd 24 88 22 23,Zm 21 24,Ze 25 0 21,Ze 26 1 21,u1 6 (.alloc [.nil,.nil]) [],u1 7 (.alloc [.nil,.nil]) [],Zs 2 6 25,Zs 2 7 26] (.block 2 (ZR [Za 28 0 6,Zf 29 1 28,Za 30 1 7,Zf 31 1 30,Zd 32 89 29 31,Zm 27 32] (ZC 27 (ZR [Zi 2 1] .ret) (ZR [Za 34 0 7,Zf 35 1 34,Za 36 1 6,Zf 37 1 36,Zd 38 89 35 37,Zm 33 38] (ZC 33 (ZR [Zi 2 (-1)] .ret) .skip))))))) (.region [Zm 19 5,u1 20 (.ari .mul) [.tm 19,.cn (.int .i64 2)],Zm 5 20])))))) (ZR [Zi 2 0] .ret)))))⟩
theorem Yp6:Yn Yb Tryz.f52=some v52:=by kernel_rfl
def v49:VF:=⟨33,[.tmp 2],(ZR [Zi 2 0] (.seq (ZR [Zm 5 0,Zl 6 5,Zq 7 .gtr 6 16] (ZC 7 (ZR [Zi 2 3] .ret) .skip)) (.seq (ZR [Zm 8 0,Zl 9 8,Zi 10 0] (.block 0 (.loop (ZR [Zr 11 .lss 10 9] (.seq (ZC 11 .skip (.exit 0)) (.seq (.block 1 (ZR [Zx 12 2 8 10,Zt 13 2 12,u1 4 (.alloc Z2) [],Zs 2 4 13] (ZR [Za 14 0 4,Zf 15 1 14,Zq 16 .lss 15 1,Zm 17 16,Zj 18 17 false 0 4,Zh 19 17 false 1 18,u2 20 17 false (.cmp .gtr) [.tm 19,.cn (.int .i64 1000000000000)],u1 21 .or [.tm 17,.tm 20],Zm 22 21,Zj 23 22 false 1 4,Zh 24 22 false 1 23,u2 25 22 false (.cmp .lss) [.tm 24,.cn (.int .i64 (-1000000000))],u1 26 .or [.tm 22,.tm 25],Zm 27 26,Zj 28 27 false 1 4,Zh 29 27 false 1 28,u2 30 27 false (.cmp .gtr) [.tm 29,.cn (.int .i64 1000000000)],u1 31 .or [.tm 27,.tm 30]] (ZC 31 (ZR [Zi 2 2] .ret) .skip)))) (.region [Zp 32 10 1,Zm 10 32]))))))) (ZR [Zi 2 0] .ret))))⟩
theorem Yp3:Yn Yb Tryz.f49=some v49:=by kernel_rfl
def QU:Nat->List (Int×Int)->Nat->Int
 |0,_,_=>0
 |f+1,l,p=>if(QV l p).dh<(QV l p).ul then 1 else if(QV l p).uh<(QV l p).dl then -1 else QU f l (2*p)
def Qf(l:List (Int×Int)):Int:=if(Hh l).2=true then(Hh l).1 else if WG l=true then 0 else QU 6 l 64
def signC:Ctr:={ alias:=false,of:=fun l=>match l with
 | [.vs _ _ n sz get]=> .ex (List (Int×Int)) fun l=> .pre (lsP 2 Yw n sz get l/\(∀x,x∈l->okT x)/\n<=20) (.fin (.int .i64 (Qf l)) [])
 |_=> .pre False (.fin (.int .i64 0) [])}
def JB(x:Int×Int):Bool:=decide (x.1<1) || decide (1000000000000<x.1) || decide (x.2< -1000000000) || decide (1000000000<x.2)
def QG(l:List (Int×Int)):Int:=if 16<l.length then 3 else if l.any JB=true then 2 else 0
def chkTC:Ctr:={ alias:=false,of:=fun l=>match l with
 | [.vs _ _ n sz get]=> .ex (List (Int×Int)) fun l=> .pre (lsP 2 Yw n sz get l/\n<=9223372036854775807) (.fin (.int .i64 (QG l)) [])
 |_=>noC}
theorem Yos(l:List (Int×Int))(p:Nat):(QV l p).ok:=by
 have key:∀(l:List (Int×Int))(s:Bnd),s.ok->(l.foldl (XP p) s).ok:=fun l=>by
  induction l with
  |nil=>intro s h;exact h
  |cons x l ih=>intro s h;exact ih _ (PQ p s x h)
 exact key l _ (by simp [Bnd.ok,WF])
def RB0:Env:=mkE [(87,guessC),(54,oneC),(88,sumsC),(89,aboveC)] []
theorem Yd9:YD Yb RB0:=eo (by kernel_rfl) ⟨⟨Yhw,_,Tryz.func87,rfl,rfl⟩,⟨LW,_,Tryz.func54,rfl,rfl⟩,⟨Yot,_,Tryz.func88,rfl,rfl⟩,⟨Cz,_,Tryz.func89,rfl,rfl⟩,trivial⟩ trivial
theorem Yb0:signC.ok Yb 52:=by
 refine Yy Tryz.func52 Yp6 Yd9 500 signC fun args k h=>?_
 simp only[signC]at h
 split at h
 ·rename_i tt z n sz get
  obtain⟨l,⟨⟨rfl,rfl,hg⟩,hl,hn⟩,h⟩:=h
  refine⟨[.vs tt z l.length 2 (fun k=>Yw (l.getD k default))],⟨⟨id,rfl,rfl,rfl,hg⟩,trivial⟩,?_⟩
  dsimp only[v52,RB0,Yk,guessC,oneC,Yw,go_sem,reduceIte,Ya]
  simp only[Yd,Ya,Ye,reduceCtorEq,Yc]
  have hself:lsP 2 Yw l.length 2 (fun k=>[SV.int IntKind.i64 (l.getD k default).fst,SV.int IntKind.i64 (l.getD k default).snd]) l:=⟨rfl,rfl,fun k _=>YW _⟩
  refine⟨l,⟨hself,hl,by omega⟩,by decide,by decide,fun hc=>?_,fun hc=>⟨l,⟨hself,hl,hn⟩,fun hd=>?_,fun hd=>?_⟩⟩
  ·rw[Qf,if_pos hc]at h;exact Kb h
  ·rw[Qf,if_neg (by rw[hc];decide),if_pos hd]at h;exact Kb h
  ·rw[Qf,if_neg (by rw[hc];decide),if_neg (by rw[hd];decide)]at h
   obtain⟨R,hR⟩:∃R,R=QU 6 l 64:=⟨_,rfl⟩
   rw[<-hR]at h
   refine Loop.keep [0] (Nat×Nat) (fun s=>[(5,.int .i64 s.2)]) (fun _=>[]) [] (fun s=>R=QU s.1 l s.2/\s.2*2^s.1=4096/\64<=s.2) (fun s=>s.1) ?_ ?_
   ·refine⟨(6,64),⟨hR,by decide,by decide⟩,?_⟩
    dsimp only[go_sem,reduceIte,Ya]
    simp only[Yf]
    rfl
   ·rintro⟨f,p⟩ ⟨hf,hp,hp64⟩
    dsimp only at hf hp hp64
    dsimp only[RB0,Yk,sumsC,aboveC,Yv,go_sem,reduceIte,Ya]
    simp only[Yd,Ya,Ye,reduceCtorEq,Yc]
    obtain⟨k1,k2,k3,k4⟩:=Yos l p
    have hfd:p<=2048->∃g,f=g+1:=fun hpl=>by
     rcases Jc f with h0|h0
     ·rw[h0,Jk,Y0]at hp;omega
     ·exact⟨f-1,by omega⟩
    have hf0:¬p<=2048->f=0:=fun hpl=>by
     rcases Jc f with h0|h0
     ·exact h0
     ·obtain⟨g,rfl⟩:∃g,f=g+1:=⟨f-1,by omega⟩
      rw[YH]at hp
      have:1<=2^g:=Jh g
      have:p*2<=p*(2^g*2):=Yz _ (by omega)
      omega
    refine⟨fun hc=>⟨l,p,⟨hself,hl,by omega,rfl,by omega⟩,fun y1 y2 y3 y4=>⟨by decide,by decide,(QV l p).ul,(QV l p).dh,⟨Kd k1,Kd k4⟩,fun hd=>?_,fun hd=>⟨(QV l p).dl,(QV l p).uh,⟨Kd k3,Kd k2⟩,fun he=>?_,fun he=>?_⟩⟩⟩,fun hc=>?_⟩
    ·obtain⟨g,rfl⟩:=hfd (by omega)
     rw[QU,if_pos hd]at hf
     rw[hf]at h;exact Kb h
    ·obtain⟨g,rfl⟩:=hfd (by omega)
     rw[QU,if_neg hd,if_pos he]at hf
     rw[hf]at h;exact Kb h
    ·obtain⟨g,rfl⟩:=hfd (by omega)
     rw[QU,if_neg hd,if_neg he]at hf
     rw[YH]at hp
     have hp2:2*p*2^g=4096:=by rw[<-hp,Yl 2 p,YA,Yl 2]
     refine⟨(g,2*p),⟨hf,hp2,by simp only;omega⟩,by simp only;omega,?_⟩
     rw[show IntKind.i64.wrap ((p:Int)*2)=((2*p:Nat):Int)by rw[Yg _ (by omega)];omega]
     simp only[Yf]
    ·obtain rfl:=hf0 (by omega)
     rw[QU]at hf
     rw[hf]at h;exact Kb h
 ·exact h.1.elim
def RB1:Env:=mkE [] []
theorem Yea:YD Yb RB1:=eo (by kernel_rfl) trivial trivial
theorem SS:chkTC.ok Yb 49:=by
 refine Yy Tryz.func49 Yp3 Yea 500 chkTC fun args k h=>?_
 simp only[chkTC]at h
 split at h
 ·rename_i tt z n sz get
  obtain⟨l,⟨⟨rfl,rfl,hg⟩,hn⟩,h⟩:=h
  refine⟨[.vs tt z l.length 2 (fun k=>Yw (l.getD k default))],⟨⟨id,rfl,rfl,rfl,hg⟩,trivial⟩,?_⟩
  dsimp only[v49,Yw,go_sem,reduceIte,Ya]
  simp only[Yd,Ya,Ye,reduceCtorEq,Yc]
  refine⟨fun hc=>?_,fun hc=>?_⟩
  ·rw[QG,if_pos (by omega)]at h;exact Kb h
  ·rw[QG,if_neg (by omega)]at h
   refine Loop.keep [0,7,0] Nat (fun i=>[(10,.int .i64 i)]) (fun _=>[]) [] (fun i=>i<=l.length/\(l.take i).any JB=false) (fun i=>l.length-i) ?_ ?_
   ·refine⟨0,⟨by omega,rfl⟩,?_⟩
    dsimp only[go_sem,reduceIte,Ya]
    simp only[Yf]
    rfl
   ·rintro i ⟨hi,hall⟩
    dsimp only[Yw,Yj,go_sem,reduceIte,Ya]
    simp only[Yd,Ya,Ye,reduceCtorEq,Yc]
    refine⟨fun hlt=>⟨⟨by omega,by omega⟩,fun hc=>?_,fun hc=>⟨i+1,⟨by omega,?_⟩,by omega,?_⟩⟩,fun hge=>?_⟩
    ·have:l.any JB=true:=List.any_eq_true.2 ⟨_,KZ (by omega:i<l.length),hc⟩
     rw[if_pos this]at h
     exact Kb h
    ·rw[Ycn (by omega),hall,Bool.false_or];exact hc
    ·rw[Yg ((i:Int)+1) (by omega)]
     simp only[Yf]
     simp
    ·obtain rfl:i=l.length:=by omega
     rw[Xt]at hall
     rw[if_neg (by rw[hall];decide)]at h
     exact Kb h
 ·exact h.1.elim
def Und(l:List (Int×Int))(p:Nat):Prop:=upS (fun n=>(lN n p).1) l<=dnS (fun n=>(lN n p).2) l/\dnS (fun n=>(lN n p).1) l<=upS (fun n=>(lN n p).2) l
theorem YjB{a b K:Nat}(h:a^K<b^K):a<b:=by
 refine WJ fun hh=>?_
 have:=YG hh K
 omega
theorem Vp{a b x y K:Nat}(ha:a^K<=2^x)(hb:2^y<=b^K)(h:x<y):a<b:=by
 refine YjB (K:=K) ?_
 have:(2:Nat)^x<2^y:=(Nat.pow_lt_pow_iff_right (by decide)).2 h
 omega
theorem YnU{l:List (Int×Int)}(hl:∀x,x∈l->okU x)(hn:l.length<=20):∀(f p:Nat),1<=f->1<=p->p*2^f=4096->
 (QU f l p=1->dnP l<upP l)/\(QU f l p= -1->upP l<dnP l)/\(QU f l p=0->Und l 2048)/\(QU f l p=1\/QU f l p= -1\/QU f l p=0):=by
 intro f
 induction f with
 |zero=>intro p h;omega
 |succ f ih=>
  intro p _ hp1 hp
  have h1:=Jh f
  rw[YH]at hp
  have hp2:p<=2048:=by
   have:p*2<=p*(2^f*2):=Yz _ (by omega)
   omega
  have hs:=Yci (p:=p) hp2 hl (by omega)
  obtain⟨⟨a1,a2⟩,b1,b2⟩:=VG (K:=2^p) (g:=fun n=>(lN n p).1) (h:=fun n=>(lN n p).2) (fun n k1 k2=>MR k1 k2) l hl
  rw[QU,hs]
  dsimp only
  by_cases c1:dnS (fun n=>(lN n p).2) l<upS (fun n=>(lN n p).1) l
  ·rw[if_pos c1]
   exact⟨fun _=>Vp b2 a1 c1,fun h=>absurd h (by decide),fun h=>absurd h (by decide),KD rfl⟩
  ·rw[if_neg c1]
   by_cases c2:upS (fun n=>(lN n p).2) l<dnS (fun n=>(lN n p).1) l
   ·rw[if_pos c2]
    exact⟨fun h=>absurd h (by decide),fun _=>Vp a2 b1 c2,fun h=>absurd h (by decide),KK (KD rfl)⟩
   ·rw[if_neg c2]
    rcases Jc f with h0|h0
    ·subst h0
     have e:p=2048:=by rw[Jk]at hp;omega
     subst e
     exact⟨fun h=>absurd h (by rw[QU];decide),fun h=>absurd h (by rw[QU];decide),fun _=>⟨by omega,by omega⟩,KK (KK rfl)⟩
    ·exact ih (2*p) h0 (by omega) (by rw[<-hp,Yl 2 p,YA,Yl 2])
theorem Yb1{l:List (Int×Int)}(hl:∀x,x∈l->okU x)(hn:l.length<=20):
 (Qf l=1->dnP l<upP l)/\(Qf l= -1->upP l<dnP l)/\(Qf l=0->WG l=true\/Und l 2048)/\(Qf l=1\/Qf l= -1\/Qf l=0):=by
 have hg:=Iq hl (by omega)
 obtain⟨⟨a1,a2⟩,b1,b2⟩:=VG (K:=2^28) (g:=fun n=>(qN n).1) (h:=fun n=>(qN n).2) (fun n k1 k2=>YaX k1 k2) l hl
 unfold Qf
 by_cases c1:dnS (fun n=>(qN n).2) l<upS (fun n=>(qN n).1) l
 ·rw[if_pos c1]at hg
  rw[hg,if_pos rfl]
  exact⟨fun _=>Vp b2 a1 c1,fun h=>absurd h (by decide),fun h=>absurd h (by decide),KD rfl⟩
 ·rw[if_neg c1]at hg
  by_cases c2:upS (fun n=>(qN n).2) l<dnS (fun n=>(qN n).1) l
  ·rw[if_pos c2]at hg
   rw[hg,if_pos rfl]
   exact⟨fun h=>absurd h (by decide),fun _=>Vp a2 b1 c2,fun h=>absurd h (by decide),KK (KD rfl)⟩
  ·rw[if_neg c2]at hg
   rw[hg,if_neg (by decide)]
   by_cases c3:WG l=true
   ·rw[if_pos c3]
    exact⟨fun h=>absurd h (by decide),fun h=>absurd h (by decide),fun _=>KD c3,KK (KK rfl)⟩
   ·rw[if_neg c3]
    obtain⟨k1,k2,k3,k4⟩:=YnU hl hn 6 64 (by decide) (by decide) (by decide)
    exact⟨k1,k2,fun h=>KK (k3 h),k4⟩
theorem Cv{g h w:Nat->Nat}{c:Nat}:∀(l:List (Int×Int)),(∀x,x∈l->h x.1.toNat<=g x.1.toNat+w x.1.toNat*c)->upS h l<=upS g l+upS w l*c/\dnS h l<=dnS g l+dnS w l*c
 | [],_=>by simp [upS,dnS]
 |x::l,H=>by
  obtain⟨i1,i2⟩:=Cv l fun y hy=>H y (KX _ hy)
  have hx:=H x (KR ..)
  have key:∀e:Nat,h x.1.toNat*e<=g x.1.toNat*e+w x.1.toNat*e*c:=fun e=>by
   have h1:=Yp e hx
   rw[YM]at h1
   rw[YA (w x.1.toNat),Yl e c,<-YA]
   exact h1
  rw[upS,upS,upS,dnS,dnS,dnS,YM,YM]
  constructor
  ·split
   ·rw[JP];omega
   ·have:=key x.2.toNat;omega
  ·split
   ·have:=key (-x.2).toNat;omega
   ·rw[JP];omega
theorem P9{l:List (Int×Int)}{J:Nat}{w:Nat->Nat}(hJ:J<=2048)(hl:∀x,x∈l->okU x)(hw:∀x,x∈l->(lN x.1.toNat 2048).2<=(lN x.1.toNat 2048).1+w x.1.toNat*2^(2048-J))(h:Und l 2048):
 dnP l^(2^J)<=upP l^(2^J)*2^(upS w l+dnS w l):=by
 obtain⟨⟨a1,a2⟩,b1,b2⟩:=VG (K:=2^2048) (g:=fun n=>(lN n 2048).1) (h:=fun n=>(lN n 2048).2) (fun n k1 k2=>MR k1 k2) l hl
 obtain⟨s1,s2⟩:=Cv (g:=fun n=>(lN n 2048).1) (h:=fun n=>(lN n 2048).2) (w:=w) (c:=2^(2048-J)) l hw
 obtain⟨_,h2⟩:=h
 obtain⟨c,hc⟩:∃c,c=2^(2048-J):=⟨_,rfl⟩
 obtain⟨K,hK⟩:∃K,K=(2:Nat)^2048:=⟨_,rfl⟩
 have hc0:c≠0:=by rw[hc];have:=Jh (2048-J);omega
 have hKc:K=2^J*c:=by rw[hK,hc,<-Yo];congr 1;omega
 rw[<-hc]at s1 s2
 rw[<-hK]at a1 a2 b1 b2
 rw[<-ZF hc0,Yq,<-Ym,<-Ym,<-hKc,<-Ym,YM]
 refine Yh b2 ?_
 refine Yh (Kp (by decide) (show _<=upS (fun n=>(lN n 2048).1) l+(upS w l*c+dnS w l*c)by omega)) ?_
 rw[Yo]
 exact Yp _ a1
theorem Sm(Q:Nat):∀n,Q^n*(Q+n)<=Q*(Q+1)^n
 |0=>by simp
 |n+1=>by
  have ih:=Sm Q n
  have h1:Q^(n+1)*(Q+(n+1))=Q*(Q^n*(Q+n))+Q*Q^n:=by
   rw[YH,<-Zk,Ka,Y0,Yl (Q^n) Q,YA]
  have h2:Q*(Q+1)^(n+1)=Q*(Q*(Q+1)^n)+Q*(Q+1)^n:=by
   rw[YH,Ka,Y0,Ka,Yl ((Q+1)^n) Q]
  have h3:=Yz Q (YG (show Q<=Q+1 by omega) n)
  have h4:=Yz Q ih
  omega
theorem P6(Q:Nat)(hQ:0<Q):2*Q^Q<=(Q+1)^Q:=by
 have:=Sm Q Q
 refine Vg (c:=Q) ?_ hQ
 have e:Q*(2*Q^Q)=Q^Q*(Q+Q):=by rw[Ka,Nat.two_mul,Ka,Yl Q]
 omega
def Near(M W J N m:Nat):Prop:=2^m*M<=N^(2^J)*M+2^m*W/\N^(2^J)*M<=2^m*(M+W)
theorem Near.mono{M W W' J N m:Nat}(h:Near M W J N m)(hw:W<=W'):Near M W' J N m:=by
 obtain⟨h1,h2⟩:=h
 have k1:=Yz (2^m) hw
 have k2:=Yz (2^m) (show M+W<=M+W' by omega)
 exact⟨by omega,by omega⟩
theorem Near.sq{M W J N m:Nat}(hM:0<M)(hW:W<=M)(h:Near M W J N m):Near M (3*W) (J+1) N (2*m):=by
 obtain⟨h1,h2⟩:=h
 unfold Near
 have e0:N^2^(J+1)=N^2^J*N^2^J:=by rw[YH,Ym,Nat.pow_two]
 rw[e0,GG]
 generalize N^2^J=X at*
 generalize 2^m=P at*
 constructor
 ·refine Ki (c:=M) ?_ hM
  have k1:P*(M-W)<=X*M:=by rw[Nat.mul_sub];omega
  have k2:=YX k1 k1
  obtain⟨V,hV⟩:∃V,V=M-W:=⟨_,rfl⟩
  have hM2:M=V+W:=by omega
  rw[<-hV]at k2
  have e1:P*V*(P*V)=P*P*(V*V):=by simp only[YA,Jd]
  have e2:(X*M)*(X*M)=X*X*M*M:=by simp only[YA,Jd]
  have e3:P*P*M*M=P*P*(M*M):=by simp only[YA]
  have e4:(X*X*M+P*P*(3*W))*M=X*X*M*M+P*P*(3*W*M):=by rw[YM,YA (P*P)]
  have e5:M*M<=V*V+3*W*M:=by
   rw[hM2,YM,Ka,Ka,Ka]
   have:W*V=V*W:=Yl ..
   have h3:3*W*V=3*(W*V):=YA ..
   have h4:3*W*W=3*(W*W):=YA ..
   omega
  have e6:=Yz (P*P) e5
  rw[Ka]at e6
  omega
 ·refine Ki (c:=M) ?_ hM
  have k2:=YX h2 h2
  have e1:P*(M+W)*(P*(M+W))=P*P*((M+W)*(M+W)):=by simp only[YA,Jd]
  have e2:(X*M)*(X*M)=X*X*M*M:=by simp only[YA,Jd]
  have e3:P*P*(M+3*W)*M=P*P*((M+3*W)*M):=by simp only[YA]
  have e5:(M+W)*(M+W)<=(M+3*W)*M:=by
   rw[YM,Ka,Ka,YM]
   have h3:3*W*M=3*(W*M):=YA ..
   have h4:M*W=W*M:=Yl ..
   have h5:=Yz W hW
   omega
  have e6:=Yz (P*P) e5
  omega
theorem Yht(M:Nat)(hM:0<M):∀(J f A B S N w:Nat),J<=f->2^S*A<=N*M->N*M<=2^S*B->M<=A->A<=B->B<=2*M->B<=A+w->
 (gl M false f A B S).2<=(gl M false f A B S).1+2^(f-J)\/∃j m,j<=J/\Near M (4^j*(w+2)) j N m:=by
 intro J
 induction J with
 |zero=>
  intro f A B S N w _ _ _ _ _ _ _
  obtain⟨h1,h2⟩:=Gj M false f A B S
  rw[YM,Y2]at h2
  left
  rw[Nat.sub_zero]
  omega
 |succ J ih=>
  intro f A B S N w hf h1 h2 ha hab hb hw
  obtain⟨f,rfl⟩:∃g,f=g+1:=⟨f-1,by omega⟩
  have hA:A*A/M*M<=A*A:=XE _ _
  have hA':A*A<(A*A/M+1)*M:=by
   have:=KP (A*A) M
   have h3:=Kj (A*A) hM
   rw[YM,Y2,Yl (A*A/M)];omega
  have hB:B*B<=YV (B*B) M*M:=Ux _ _ hM
  have k1:=Ycd hM h1 hA
  have k2:=Ycb hM h2 hB
  have hA1:M<=A*A/M:=(Wv hM).2 (YX ha ha)
  have hAB:A*A/M<=YV (B*B) M:=HY (YX hab hab)
  have hB1:YV (B*B) M<=4*M:=ZK (by
   have:=YX hb hb
   have e:4*M*M=2*M*(2*M):=by rw[Nat.mul_mul_mul_comm,YA]
   omega)
  have hW:YV (B*B) M<=A*A/M+(4*w+2):=ZK (by
   obtain⟨v,rfl⟩:∃v,B=A+v:=⟨B-A,by omega⟩
   have e:(A+v)*(A+v)=A*A+v*(A+(A+v)):=by
    rw[Ka,YM A v A,Ka v A,Yl (A+v) v]
    omega
   have e2:v*(A+(A+v))<=w*(4*M):=YX (by omega) (by omega)
   have e3:(A*A/M+(4*w+2))*M=(A*A/M+1)*M+w*(4*M)+M:=by
    rw[YM,YM,YM]
    have:4*w*M=w*(4*M):=by rw[Yl 4 w,YA]
    omega
   omega)
  have lift:∀{j w':Nat},w'+2<=4*(w+2)->∀{m},j<=J->Near M (4^j*(w'+2)) j (N*N) m->∃j m,j<=J+1/\Near M (4^j*(w+2)) j N m:=fun {j w'} hw' {m} hj hn=>by
   refine⟨j+1,m,by omega,?_⟩
   have hm:4^j*(w'+2)<=4^(j+1)*(w+2):=by
    rw[YH,YA]
    exact Yz _ hw'
   have:=hn.mono hm
   unfold Near at this⊢
   rw[L9]
   exact this
  rw[gl,Nat.add_sub_add_right]
  split
  ·split
   ·have:=ih f (A*A/M) (YV (B*B) M) (2*S) (N*N) (4*w+2) (by omega) (by rw[GG];exact k1) (by rw[GG];exact k2) hA1 hAB (by omega) hW
    rcases this with h| ⟨j,m,hj,hn⟩
    ·exact KD h
    ·exact KK (lift (by omega) hj hn)
   ·right
    refine⟨1,2*S+1,by omega,?_⟩
    unfold Near
    rw[QO,Nat.pow_two,QO,YH,GG]
    have g1:2^S*2^S*(2*M)<=2^S*2^S*(A*A/M+(4*w+2)):=Yz _ (by omega)
    have g2:2^S*2^S*YV (B*B) M<=2^S*2^S*(2*M+(4*w+2)):=Yz _ (by omega)
    generalize 2^S*2^S=P at*
    rw[Ka]at g1 g2
    have e1:P*2*M=P*(2*M):=YA ..
    have e2:P*2*(4*(w+2))=P*(4*w+2)+P*(4*w+14):=by rw[YA,<-Ka];congr 1;omega
    have e3:P*2*(M+4*(w+2))=P*(2*M)+(P*(4*w+2)+P*(4*w+14)):=by rw[Ka,e1,e2]
    exact⟨by omega,by omega⟩
  ·rw[if_neg (by simp)]
   have c1:A*A/M/2*2<=A*A/M:=XE _ _
   have c2:YV (B*B) M<=YV (YV (B*B) M) 2*2:=Ux _ _ (by decide)
   have e3:∀x,2^(2*S+1)*x=2^S*2^S*(x*2):=fun x=>by rw[YH,GG,YA,Yl 2 x]
   have:=ih f (A*A/M/2) (YV (YV (B*B) M) 2) (2*S+1) (N*N) (2*w+2) (by omega) (by rw[e3];exact Yh (Yz _ c1) k1) (by rw[e3];exact Yh k2 (Yz _ c2)) (by omega) (HY hAB) (ZK (by omega)) (ZK (by omega))
   rcases this with h| ⟨j,m,hj,hn⟩
   ·exact KD h
   ·exact KK (lift (by omega) hj hn)
theorem Near.up{M N:Nat}(hM:0<M):∀(d j W m:Nat),4^d*W<=M->Near M W j N m->∃m',Near M (4^d*W) (j+d) N m'
 |0,j,W,m,_,h=>⟨m,by rw[Jk,Y2];exact h⟩
 |d+1,j,W,m,hW,h=>by
  have e:4^(d+1)*W=4*(4^d*W):=by rw[YH,Yl (4^d) 4,YA]
  rw[e]at hW
  obtain⟨m',h'⟩:=Near.up hM d j W m (by omega) h
  exact⟨2*m',by rw[e];exact(Near.sq hM (by omega) h').mono (by omega)⟩
def Qw(J n:Nat):Prop:=(lN n 2048).2<=(lN n 2048).1+2^(2048-J)
theorem Ykc{n J:Nat}(h1:1<=n)(h2:n<4611686018427387904)(hJ:J<=500):Qw J n\/(Qa (n:Int)=false/\∃m,Near (2^4160) (2^2160) J n m):=by
 unfold Qw lN
 by_cases c:Qa (n:Int)=true
 ·rw[if_pos c]
  left;exact Nat.le_add_right _ _
 ·rw[if_neg c]
  have hk:lgK n<62:=WX (by decide) h2
  obtain⟨m1,m2,m3⟩:=Gx (D:=2*2048+64) h1 (by omega)
  rw[show 2*2048+64=4160 from rfl]at*
  have hM:=Jh 4160
  have:=Yht (2^4160) hM J 2048 _ _ (lgK n) n 0 (by omega) (Yx m3) (Yx m3.symm) m1 (Yt _) (JZ m2) (by omega)
  rcases this with h| ⟨j,m,hj,hn⟩
  ·exact KD h
  ·right
   have e4:∀a,(4:Nat)^a=2^(2*a):=fun a=>by rw[show 4=2^2 from rfl,<-Ym]
   have hle:∀e,1001<=e->4^(J-j)*(4^j*(0+2))<=2^e:=fun e he=>by
    rw[<-YA,<-Yo,show J-j+j=J by omega,e4,show 0+2=2^1 from rfl,<-Yo]
    exact Kp (by decide) (by omega)
   obtain⟨m',h'⟩:=Near.up hM (J-j) j _ m (hle 4160 (by decide)) hn
   rw[show j+(J-j)=J by omega]at h'
   exact⟨by simpa using c,m',h'.mono (hle 2160 (by decide))⟩
def RtJ(R J x y m:Nat):Prop:=x^(2^J)<=2^m*R^(2^J)/\2^m*R^(2^J)<=y^(2^J)
theorem RtJ.next{R J x y m c d:Nat}(hR:0<R)(h:RtJ R J x y m)(hc:RtJ R J c d 1):RtJ R J (x*c/R) (y*d/R+1) (m+1):=by
 obtain⟨h1,h2⟩:=h
 obtain⟨c1,c2⟩:=hc
 rw[QO]at c1 c2
 unfold RtJ
 generalize 2^J=Q at*
 have hRQ:0<R^Q:=YB hR
 rw[YH]
 generalize 2^m=P at*
 constructor
 ·refine Ki (c:=R^Q) ?_ hRQ
  have k1:(x*c/R*R)^Q<=(x*c)^Q:=YG (XE _ _) _
  rw[Yq,Yq]at k1
  have k2:=YX h1 c1
  have e:P*R^Q*(2*R^Q)=P*2*R^Q*R^Q:=by simp only[YA,Jd]
  omega
 ·refine Ki (c:=R^Q) ?_ hRQ
  have k0:y*d<=(y*d/R+1)*R:=by
   have:=KP (y*d) R
   have h3:=Kj (y*d) hR
   rw[YM,Y2,Yl (y*d/R)];omega
  have k1:(y*d)^Q<=((y*d/R+1)*R)^Q:=YG k0 _
  rw[Yq,Yq]at k1
  have k2:=YX h2 c2
  have e:P*R^Q*(2*R^Q)=P*2*R^Q*R^Q:=by simp only[YA,Jd]
  omega
end Go.Proofs.YtlhmikjnholpnaaGreatDoor
namespace Go.Proofs.YtlhmikjnholpnaaGreatDoor.Q
open Go Go.Vx
def itL(out:List Nat)(i k g n:Nat):Nat:=if n=i\/n=k then out.getD n 0/g else out.getD n 0
def Kx(out:List Nat)(i k g:Nat):Nat->List Nat
 |0=>[]
 |n+1=>if 1<itL out i k g n then Kx out i k g n++[itL out i k g n]else Kx out i k g n
theorem OS(out:List Nat)(i k g:Nat):∀n,(Kx out i k g n).length<=n
 |0=>Yt _
 |n+1=>by
  have:=OS out i k g n
  rw[Kx]
  split
  ·rw[JO,List.length_singleton];omega
  ·omega
theorem nxt_mem{out:List Nat}{i k g x:Nat}:∀{n:Nat},x∈Kx out i k g n↔∃j,j<n/\x=itL out i k g j/\1<x
 |0=>by simp [Kx]
 |n+1=>by
  have ih:=nxt_mem (out:=out) (i:=i) (k:=k) (g:=g) (x:=x) (n:=n)
  rw[Kx]
  split
  ·rename_i h
   rw[Ky,Jj,ih]
   constructor
   ·rintro(⟨j,h1,h2⟩ |h1)
    ·exact⟨j,by omega,h2⟩
    ·exact⟨n,by omega,h1,by omega⟩
   ·rintro⟨j,h1,h2,h3⟩
    rcases YY j n with h'|h'
    ·exact KD ⟨j,h',h2,h3⟩
    ·obtain rfl:j=n:=by omega
     exact KK h2
  ·rename_i h
   rw[ih]
   constructor
   ·rintro⟨j,h1,h2⟩
    exact⟨j,by omega,h2⟩
   ·rintro⟨j,h1,h2,h3⟩
    rcases YY j n with h'|h'
    ·exact⟨j,h',h2,h3⟩
    ·obtain rfl:j=n:=by omega
     omega
theorem OU{out:List Nat}{i k g:Nat}(hik:k<i)(hi:i<out.length)(hg:0<g)(h1:g∣out.getD i 0)(h2:g∣out.getD k 0)(hp:∀x,x∈out->1<=x):∀n,n<=out.length->YL (Kx out i k g n)*((if i<n then g else 1)*(if k<n then g else 1))=YL (out.take n)
 |0,_=>by simp [Kx,YL]
 |n+1,hn=>by
  have ih:=OU hik hi hg h1 h2 hp n (by omega)
  have e:out.take (n+1)=out.take n++[out.getD n 0]:=Hy (by omega)
  have hx:1<=out.getD n 0:=hp _ (KZ (l:=out) (i:=n) (by omega))
  rw[e,Uc,<-ih]
  have e1:YL [out.getD n 0]=out.getD n 0:=by simp [YL]
  have e2:YL (Kx out i k g (n+1))=YL (Kx out i k g n)*itL out i k g n:=by
   rw[Kx]
   split
   ·rw[Uc];simp [YL]
   ·rename_i h
    have:itL out i k g n≠0:=by
     unfold itL
     split
     ·rename_i hh
      have hd:g∣out.getD n 0:=by rcases hh with rfl|rfl <;> assumption
      exact Nat.ne_of_gt (Nat.div_pos (Nat.le_of_dvd hx hd) hg)
     ·omega
    rw[show itL out i k g n=1 by omega,Y0]
  rw[e1,e2]
  by_cases c1:n=i
  ·subst c1
   rw[itL,if_pos (KD rfl),if_pos (Nat.lt_succ_self _),if_neg (ZA _),if_pos (by omega),if_pos (by omega)]
   obtain⟨c,hc⟩:=h1
   rw[hc,Nat.mul_div_cancel_left _ hg]
   simp only[YA,Jd,Yl,Y2]
  ·by_cases c2:n=k
   ·subst c2
    rw[itL,if_pos (KK rfl),if_neg (show¬i<n+1 by omega),if_neg (show¬i<n by omega),if_pos (Nat.lt_succ_self _),if_neg (ZA _)]
    obtain⟨c,hc⟩:=h2
    rw[hc,Nat.mul_div_cancel_left _ hg]
    simp only[YA,Jd,Yl,Y2]
   ·have a1:(i<n+1)=(i<n):=by rw[eq_iff_iff];omega
    have a2:(k<n+1)=(k<n):=by rw[eq_iff_iff];omega
    rw[itL,if_neg (by omega)]
    simp only[a1,a2]
    simp only[YA,Jd,Yl]
theorem Ycv:∀{out:List Nat},(∀x,x∈out->2<=x)->2^out.length<=YL out
 | [],_=>by simp [YL]
 |x::out,h=>by
  have:=Ycv (out:=out) fun y hy=>h y (KX _ hy)
  have hx:=h x (KR ..)
  rw[YL,XS,YH,Yl]
  exact YX hx this
structure BOk (l:List (Int×Int)) (out:List Nat):Prop where
 rng:∀x,x∈out->2<=x/\x<=1000000000001
 spn:∀x,x∈l->Spn out x.1.toNat
 prd:Y6 (YL out)<=801
theorem BOk.len{l:List (Int×Int)}{out:List Nat}(h:BOk l out):out.length<=800:=by
 have h1:=Ycv fun x hx=>(h.rng x hx).1
 refine XF fun hh=>?_
 have h2:=F3 (YL out)
 have h3:2^Y6 (YL out)<=2^out.length:=Kp (by decide) (by have:=h.prd;omega)
 omega
theorem BOk.pos{l:List (Int×Int)}{out:List Nat}(h:BOk l out):1<=YL out:=Aj fun x hx=>by have:=h.rng x hx;omega
theorem BOk.next{l:List (Int×Int)}{out:List Nat}{i k g:Nat}(h:BOk l out)(hik:k<i)(hi:i<out.length)(hg:g=YI (out.getD i 0) (out.getD k 0))(h1:1<g):
 BOk l (Kx out i k g out.length++[g])/\YL (Kx out i k g out.length++[g])*2<=YL out:=by
 have d1:g∣out.getD i 0:=hg▸WI _ _
 have d2:g∣out.getD k 0:=hg▸Nat.gcd_dvd_right _ _
 have ri:=h.rng _ (KZ (l:=out) (i:=i) hi)
 have rk:=h.rng _ (KZ (l:=out) (i:=k) (by omega))
 have ri:2<=out.getD i 0/\out.getD i 0<=1000000000001:=ri
 have rk:2<=out.getD k 0/\out.getD k 0<=1000000000001:=rk
 have hgl:g<=out.getD i 0:=Nat.le_of_dvd (by omega) d1
 have hpr:=OU hik hi (by omega) d1 d2 (fun x hx=>by have:=h.rng x hx;omega) out.length (Yt _)
 rw[Xt,if_pos hi,if_pos (by omega)]at hpr
 have hpe:YL (Kx out i k g out.length++[g])*g=YL out:=by
  rw[Uc,<-hpr];simp [YL,YA]
 have hle:YL (Kx out i k g out.length++[g])*2<=YL out:=by
  rw[<-hpe];exact Yz _ h1
 refine⟨⟨fun x hx=>?_,fun x hx=>(h.spn x hx).sub fun y hy=>?_,?_⟩,hle⟩
 ·rw[Ky,Jj,nxt_mem]at hx
  rcases hx with⟨j,hj,hxe,h2⟩ |rfl
  ·refine⟨h2,?_⟩
   have hr:=h.rng _ (KZ (l:=out) (i:=j) hj)
   have hr:2<=out.getD j 0/\out.getD j 0<=1000000000001:=hr
   rw[hxe];unfold itL
   split
   ·exact Yh (XD _ _) hr.2
   ·exact hr.2
  ·omega
 ·obtain⟨j,hj,hje⟩:=Ov hy
  have hje:out.getD j 0=y:=hje
  have mg:g∈Kx out i k g out.length++[g]:=List.mem_append_right _ (Jj.2 rfl)
  have part:Spn (Kx out i k g out.length++[g]) (itL out i k g j):=by
   rcases YY 1 (itL out i k g j)with h'|h'
   ·exact .mem (List.mem_append_left _ (nxt_mem.2 ⟨j,hj,rfl,h'⟩))
   ·have:itL out i k g j≠0:=by
     have hr:=h.rng _ hy
     unfold itL
     split
     ·rename_i hh
      have hd:g∣out.getD j 0:=by rcases hh with rfl|rfl <;> assumption
      exact Nat.ne_of_gt (Nat.div_pos (Nat.le_of_dvd (by omega) hd) (by omega))
     ·omega
    rw[show itL out i k g j=1 by omega];exact .one
  by_cases c:j=i\/j=k
  ·have hd:g∣out.getD j 0:=by rcases c with rfl|rfl <;> assumption
   rw[itL,if_pos c]at part
   rw[<-hje,<-Nat.mul_div_cancel' hd]
   exact .mul mg part
  ·rw[itL,if_neg c]at part
   rw[<-hje];exact part
 ·exact Yh (Sv (by omega)) h.prd
def stF(out:List Nat)(x:Int×Int):List Nat:=if 1<x.1 then out++[x.1.toNat]else out
theorem Yoe{l:List (Int×Int)}(hl:∀x,x∈l->okU x)(hn:l.length<=20):BOk l (l.foldl stF []):=by
 have key:∀i,i<=l.length->(∀x,x∈(l.take i).foldl stF []->2<=x/\x<=1000000000001)/\(∀x,x∈l.take i->Spn ((l.take i).foldl stF []) x.1.toNat)/\Y6 (YL ((l.take i).foldl stF []))<=40*i+1:=fun i=>by
  induction i with
  |zero=>exact fun _=>⟨fun x hx=>absurd hx (by simp),fun x hx=>absurd hx (by simp),by simp [YL];decide⟩
  |succ i ih=>
   intro hi
   obtain⟨h1,h2,h3⟩:=ih (by omega)
   obtain⟨q0,q1,q2,q3⟩:=hl _ (KZ (by omega:i<l.length))
   rw[Vm (by omega),Hy (by omega)]
   generalize(l.take i).foldl stF []=out at*
   generalize l.getD i default=y at*
   unfold stF
   by_cases c:1<y.1
   ·rw[if_pos c]
    refine⟨fun x hx=>?_,fun x hx=>?_,?_⟩
    ·rcases Ky.1 hx with hx|hx
     ·exact h1 x hx
     ·rw[Jj]at hx;omega
    ·rcases Ky.1 hx with hx|hx
     ·exact(h2 x hx).sub fun z hz=> .mem (List.mem_append_left _ hz)
     ·rw[Jj]at hx;rw[hx];exact .mem (List.mem_append_right _ (Jj.2 rfl))
    ·rw[Uc]
     have e:YL [y.1.toNat]=y.1.toNat:=by simp [YL]
     have:=Sw (YL out) (YL [y.1.toNat])
     have:Y6 (YL [y.1.toNat])<=40:=by rw[e];exact bitsN_le.2 (by omega)
     omega
   ·rw[if_neg c]
    refine⟨h1,fun x hx=>?_,by omega⟩
    rcases Ky.1 hx with hx|hx
    ·exact h2 x hx
    ·rw[Jj]at hx;rw[hx,show y.1.toNat=1 by omega];exact .one
 obtain⟨k1,k2,k3⟩:=key l.length (Yt _)
 rw[Xt]at k1 k2 k3
 exact⟨k1,k2,by omega⟩
theorem Yod(l:List (Int×Int)):∀i,((l.take i).foldl stF []).length<=i:=fun i=>by
 induction i with
 |zero=>simp
 |succ i ih=>
  rcases YY i l.length with h|h
  ·rw[Vm h]
   unfold stF at ih⊢
   split
   ·rw[JO,List.length_singleton];omega
   ·omega
  ·rw[List.take_of_length_le (by omega)]
   rw[List.take_of_length_le h]at ih
   omega
theorem Yf9{out:List Nat}(h:∀a,a<out.length->∀c,c<a->YI (out.getD a 0) (out.getD c 0)=1):Cop out:=by
 refine List.pairwise_iff_getElem.2 fun i j hi hj hij=>?_
 have:=h j hj i hij
 rw[Kh,Kh,VL hj,VL hi]at this
 rw[Nat.gcd_comm];exact this
theorem Eg{b:Nat}{e:Nat->Nat}:∀{r:List Nat},(∀x,x∈r->YI b x=1)->YI b (PV e r)=1
 | [],_=>by simp [PV]
 |x::r,h=>by
  rw[PV]
  exact Nat.Coprime.mul_right (Nat.Coprime.pow_right _ (h x (KR ..))) (Eg fun y hy=>h y (KX _ hy))
theorem FY{e:Nat->Nat}:∀{r:List Nat},(∀x,x∈r->2<=x)->1<=PV e r
 | [],_=>Yt _
 |x::r,h=>by
  have hx:=h x (KR ..)
  rw[PV]
  exact Y1 (YB (by omega)) (FY fun y hy=>h y (KX _ hy))
theorem Ng{b x y P Q:Nat}(hb:2<=b)(hP:YI b P=1)(h:b^x*P=b^y*Q):y<=x:=by
 refine XF fun hh=>?_
 obtain⟨d,rfl⟩:∃d,y=x+(d+1):=⟨y-x-1,by omega⟩
 rw[Yo,YA]at h
 have h2:=Nat.eq_of_mul_eq_mul_left (YB (by omega)) h
 have hd:b∣P:=by rw[h2,YH,Yl _ b,YA];exact Nat.dvd_mul_right _ _
 have:=Nat.gcd_eq_left hd
 omega
theorem FX{e e':Nat->Nat}:∀{r:List Nat},Cop r->(∀x,x∈r->2<=x)->PV e r=PV e' r->∀b,b∈r->e b=e' b
 | [],_,_,_,b,hb=>absurd hb (by simp)
 |c::r,hc,h2,h,b,hb=>by
  obtain⟨g1,g2⟩:=List.pairwise_cons.1 hc
  have hc2:=h2 c (KR ..)
  rw[PV,PV]at h
  have a1:=Ng hc2 (Eg (e:=e) g1) h
  have a2:=Ng hc2 (Eg (e:=e') g1) h.symm
  have he:e c=e' c:=by omega
  rcases Kz.1 hb with rfl|hb
  ·exact he
  ·rw[he]at h
   exact FX g2 (fun x hx=>h2 x (KX _ hx)) (Nat.eq_of_mul_eq_mul_left (YB (by omega)) h) b hb
theorem YkF{l:List (Int×Int)}{r:List Nat}(hl:∀x,x∈l->okU x)(hn:l.length<=20)(hr:BOk l r)(hc:Cop r):(r.all fun b=>decide (X8 l b=0))=decide (upP l=dnP l):=by
 obtain⟨e1,e2⟩:=NZ hc (fun x hx=>(hr.rng x hx).1) l fun x hx=>⟨hl x hx,hr.spn x hx⟩
 have hs:∀b,b∈r->(X8 l b=0↔upS (vl 64 b) l=dnS (vl 64 b) l):=fun b hb=>by
  have hb2:=hr.rng b hb
  unfold X8
  rw[PP hb2.1 (by omega) l 0 hl (by omega) (by omega) (by omega)]
  omega
 rw[Bool.eq_iff_iff,VJ,decide_eq_true_eq]
 constructor
 ·intro h
  rw[e1,e2]
  exact VQ fun b hb=>(hs b hb).1 (of_decide_eq_true (h b hb))
 ·intro h b hb
  rw[e1,e2]at h
  exact decide_eq_true ((hs b hb).2 (FX hc (fun x hx=>(hr.rng x hx).1) h b hb))
end Go.Proofs.YtlhmikjnholpnaaGreatDoor.Q
