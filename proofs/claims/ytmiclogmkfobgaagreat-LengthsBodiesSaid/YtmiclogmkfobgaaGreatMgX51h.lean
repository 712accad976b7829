/- Lengths, walked: Correction, the example. -/
import Derived.Test.YtmiclogmkfobgaaGreatMgX51f
import Derived.Test.YtmiclogmkfobgaaGreatMgX51g
import Derived.Test.YtmiclogmkfobgaaGreatMgX51e
import Derived.Test.YtmiclogmkfobgaaGreatMgX51c
open Bool renaming and_eq_true->YGi,eq_iff_iff->YHz,false_and->YHp,false_or->YHx,not_eq_true'->YGA,true_and->YHq
open Int renaming mul_le_mul_of_nonneg_right->YGE,mul_nonneg->YHv,natCast_mul->YG1,toNat->YHE,toNat_natCast->YGb
open Go.IntWalk renaming i64_in->YGd,u64_in->YGF
open List renaming length_cons->YHf,mem_append->YGT,mem_cons->YGK,mem_cons_of_mem->YGx,mem_cons_self->YGy,mem_singleton->YGU,take_length->YHe
open Nat renaming add->YHc,add_mul->YGG,add_zero->YHi,beq->YGS,ble->YHG,div->YHH,div_add_mod->YGP,div_div_eq_div_mul->YGv,div_eq_of_lt->YHo,div_le_self->YHm,eq_of_beq_eq_true->YGD,eq_zero_or_pos->YGI,gcd->YHa,le_div_iff_mul_le->YG9,le_of_ble_eq_true->YG2,le_of_eq->YGu,le_of_lt->YHn,le_of_mul_le_mul_right->YGq,le_of_not_lt->YHy,le_refl->YGr,le_trans->YGg,lt_of_le_of_lt->YGN,lt_of_lt_of_le->YGV,lt_or_ge->YGz,mod->YHB,mod_eq_of_lt->YG3,mod_lt->YGJ,mul_add->YGQ,mul_assoc->YGm,mul_comm->YGj,mul_le_mul->YGB,mul_le_mul_left->YGk,mul_le_mul_right->YGf,mul_left_comm->YG5,mul_one->YHj,mul_pos->YHd,mul_pow->YGw,not_lt_zero->YG7,one_mul->YGW,pow_add->YGo,pow_le_pow_left->YGp,pow_le_pow_right->YGs,pow_mul->YGn,pow_one->YHr,pow_pos->YGO,pow_succ->YGt,pow_zero->YHA,reduceAdd->YGa,reduceEqDiff->YF8,reduceLeDiff->YF9,zero_add->YHu,zero_le->YHk
open Go.Proofs.Tryz renaming prog->YGc
set_option linter.all false
namespace Go.Proofs.YtmiclogmkfobgaaGreat
open Go Go.Vx
set_option maxRecDepth 100000
set_option maxHeartbeats 8000000
def v29:VF:=⟨20,[.cell 2 true 2,.cell 3 true 2,.tmp 4],(ZR [u1 1 .box [.tm 0],Zn 2,Zn 3,Zi 4 0] (.seq (ZR [Zt 6 5 1,Zc 7 35 6,Zm 5 7] (ZR [Zm 8 5,Zq 9 .neq 8 0] (ZC 9 (ZR [u1 10 (.build [(.int .i64 0),(.int .i64 0)] []) [],u1 11 (.build [(.int .i64 0),(.int .i64 0)] []) [],Zm 12 5,Zs 2 2 10,Zs 2 3 11,Zm 4 12] .ret) .skip))) (ZR [Zt 14 5 1,Zc 15 56 14,Zm 13 15,Ze 16 0 13,Ze 17 1 13,Zs 2 2 16,Zs 2 3 17] (.seq (.draw [] [Zw 18 2 2,Zw 19 2 3,⟨Zs 2 2 18,[.tm 3]⟩,ZS 2 3 19,w1 4 .mov [.cn (.int .i64 0)]]) .ret))))⟩
theorem YE0:Yg YGc Tryz.f29=some v29:=by kernel_rfl
def v12:VF:=⟨73,[.tmp 0],(ZR [u1 0 .mov [.cn (.bool false)]] (ZR [u1 11 (.call 30) [],Zc 12 29 11,Zm 10 12,Ze 13 0 10,Ze 14 1 10,Ze 15 2 10,Zn 1,Zn 2,Zs 2 1 13,Zs 2 2 14,Zm 3 15] (ZR [u1 17 (.call 30) [],u1 18 (.call 32) [.cn (.int .i64 440000)],u1 19 (.call 31) [.tm 17,.tm 18,.cn (.int .i64 0)],Zm 16 19,Ze 20 0 16,Ze 21 1 16,Zn 4,Zs 2 4 20,Zm 5 21] (ZR [u1 23 (.call 30) [],u1 24 (.call 32) [.cn (.int .i64 289270)],u1 25 (.call 33) [.tm 23,.tm 24,.cn (.int .i64 0)],Zm 22 25,Ze 26 0 22,Ze 27 1 22,Zn 6,Zs 2 6 26,Zm 7 27] (ZR [u1 29 (.call 30) [],u1 30 (.call 32) [.cn (.int .i64 20000000)],u1 31 (.call 31) [.tm 29,.tm 30,.cn (.int .i64 0)],Zm 28 31,Ze 32 0 28,Ze 33 1 28,Zn 8,Zs 2 8 32,Zm 9 33] (.seq (.draw [] [Zu 34 3,w1 35 (.cmp .eql) [.tm 34,.cn (.int .i64 0)],Zu 36 35,⟨Zg 37 36 true 5,[]⟩,⟨u2 38 36 true (.cmp .eql) [.tm 37,.cn (.int .i64 0)],[]⟩,w1 39 .and [.tm 36,.tm 38],Zu 40 39,⟨Zg 41 40 true 7,[]⟩,⟨u2 42 40 true (.cmp .eql) [.tm 41,.cn (.int .i64 0)],[]⟩,w1 43 .and [.tm 40,.tm 42],Zu 44 43,⟨Zg 45 44 true 9,[]⟩,⟨u2 46 44 true (.cmp .eql) [.tm 45,.cn (.int .i64 7)],[]⟩,w1 47 .and [.tm 44,.tm 46],Zu 48 47,⟨u2 49 48 true (.load true 2) [.tm 1],[]⟩,⟨u2 50 48 true (.call 32) [.cn (.int .i64 71875)],[]⟩,⟨u2 51 48 true (.eqv false [true,true]) [.tm 49,.tm 50],[]⟩,w1 52 .and [.tm 48,.tm 51],Zu 53 52,⟨u2 54 53 true (.load true 2) [.tm 2],[]⟩,⟨u2 55 53 true (.build [(.int .i64 0),(.int .i64 0)] [(0,1),(1,1)]) [.cn (.int .i64 15332),.cn (.int .i64 15333)],[]⟩,⟨u2 56 53 true (.eqv false [true,true]) [.tm 54,.tm 55],[]⟩,w1 57 .and [.tm 53,.tm 56],Zu 58 57,⟨u2 59 58 true (.load true 2) [.tm 4],[]⟩,⟨u2 60 58 true (.build [(.int .i64 0),(.int .i64 0)] [(0,1),(1,1)]) [.cn (.int .i64 289269),.cn (.int .i64 289271)],[]⟩,⟨u2 61 58 true (.eqv false [true,true]) [.tm 59,.tm 60],[]⟩,w1 62 .and [.tm 58,.tm 61],Zu 63 62,⟨Zj 64 63 true 0 6,[]⟩,⟨Zh 65 63 true 1 64,[]⟩,⟨u2 66 63 true (.cmp .leq) [.tm 65,.cn (.int .i64 440000)],[]⟩,w1 67 .and [.tm 63,.tm 66],Zu 68 67,⟨Zj 69 68 true 1 6,[]⟩,⟨Zh 70 68 true 1 69,[]⟩,⟨u2 71 68 true (.cmp .geq) [.tm 70,.cn (.int .i64 440000)],[]⟩,w1 72 .and [.tm 68,.tm 71],Zu 0 72]) .ret))))))⟩
theorem YEN:Yg YGc Tryz.f12=some v12:=by kernel_rfl
def v30:VF:=⟨2,[.cell 0 true 5],(ZR [u1 0 (.alloc [(.int .i64 0),(.int .i64 0),(.int .i64 0),(.int .i64 0),(.int .i64 0)]) []] (ZR [u1 1 (.build [(.int .i64 0),(.int .i64 0),(.int .i64 0),(.int .i64 0),(.int .i64 0)] [(0,1),(1,1),(2,1),(3,1),(4,1)]) [.cn (.int .i64 1),.cn (.int .i64 50000),.cn (.int .i64 50000),.cn (.int .i64 40000),.cn (.int .i64 10000)],Zs 5 0 1] .ret))⟩
theorem YE1:Yg YGc Tryz.f30=some v30:=by kernel_rfl
def v32:VF:=⟨6,[.cell 2 true 2],(ZR [Zn 2] (ZR [Zm 3 0,Zm 4 0,u1 5 (.build [(.int .i64 0),(.int .i64 0)] [(0,1),(1,1)]) [.tm 3,.tm 4],Zs 2 2 5] .ret))⟩
theorem YE3:Yg YGc Tryz.f32=some v32:=by kernel_rfl
def crsC:Ctr:={ alias:=false,of:=fun l=>match l with
 | [.agg [.int .i64 a,.int .i64 b,.int .i64 c,.int .i64 d,.int .i64 e]]=>
   if chkB ⟨a,b,c,d,e⟩=0 then .fin (.tup [.agg (enc2 (Ydk ⟨a,b,c,d,e⟩)),.agg (enc2 (endF ⟨a,b,c,d,e⟩)),.int .i64 0]) []
   else .fin (.tup [.agg (enc2 (0,0)),.agg (enc2 (0,0)),.int .i64 (chkB ⟨a,b,c,d,e⟩)]) []
 |_=>noC}
theorem Yp0{k:SV->List HO->Prop}{al:Bool}{hp:List HO}{p q:Iv}{e:Int}(h:k (.tup [.agg (enc2 p),.agg (enc2 q),.int .i64 e]) []):YD al k (.tup [.agg [.int .i64 p.1,.int .i64 p.2],.agg [.int .i64 q.1,.int .i64 q.2],.int .i64 e]) hp:=
 YC (show k _ []from h) (Yv (.tup [.agg [.int .i64 p.1,.int .i64 p.2],.agg [.int .i64 q.1,.int .i64 q.2],.int .i64 e]) ⟨⟨trivial,trivial,trivial⟩,⟨trivial,trivial,trivial⟩,trivial,trivial⟩) (fun _=>by simp [enc2,Yl,Ym])
def L5:Env:={ ct:=fun n=>match n with|35=>some chkBC|56=>some corC|_=>none,fn:=fun _=>none,meth:=fun _ _=>none}
theorem YwB:L5.ct 35=some chkBC:=rfl
theorem YwC:L5.ct 56=some corC:=rfl
theorem L5_ok:Yq YGc L5:=by
 refine⟨fun f c h=>?_,fun f vf h=>?_,(fun _ _ _ h=>by cases h),by kernel_rfl,(fun _ h=>by cases h)⟩
 ·simp only[L5]at h
  split at h
  ·cases h;exact⟨Yqo,Tryz.f35,Tryz.func35,by kernel_rfl,by kernel_rfl⟩
  ·cases h;exact⟨YCm,Tryz.f56,Tryz.func56,by kernel_rfl,by kernel_rfl⟩
  ·cases h
 ·cases h
theorem crs_c:crsC.ok YGc 29:=by
 refine Yb Tryz.func29 YE0 L5_ok 200 crsC fun args k h=>?_
 simp only[crsC]at h
 split at h
 ·rename_i a b c d e
  refine⟨[.agg [.int .i64 a,.int .i64 b,.int .i64 c,.int .i64 d,.int .i64 e]],by simp [leL,le],?_⟩
  dsimp only[v29,YwB,YwC,chkBC,corC,enc2,go_sem,reduceIte]
  simp only[Yc,YGa,YF9,reduceCtorEq,YF8]
  refine⟨fun hc=>?_,fun hc=>⟨hc,by decide,by decide,?_⟩⟩
  ·rw[if_neg hc]at h;exact Yp0 (p:=(0,0)) (q:=(0,0)) h
  ·rw[if_pos hc]at h
   exact Yp0 h
 ·exact h.1.elim
def nivC:Ctr:={ alias:=false,of:=fun l=>match l with
 | [.int .i64 n]=> .fin (.agg [.int .i64 n,.int .i64 n]) []
 |_=> .pre False (.fin (.agg [.int .i64 0,.int .i64 0]) [])}
def L60:Env:={ ct:=fun _=>none,fn:=fun _=>none,meth:=fun _ _=>none}
theorem YBr:Yq YGc L60:=by
 refine⟨fun f c h=>?_,fun f vf h=>?_,(fun _ _ _ h=>by cases h),by kernel_rfl,(fun _ h=>by cases h)⟩
 ·cases h
 ·cases h
theorem niv_c:nivC.ok YGc 32:=by
 refine Yb Tryz.func32 YE3 YBr 100 nivC fun args k h=>?_
 simp only[nivC]at h
 split at h
 ·rename_i n
  refine⟨[.int .i64 n],by simp [leL,le],?_⟩
  dsimp only[v32,go_sem,reduceIte]
  simp only[Yc,YGa,YF9,reduceCtorEq,YF8]
  exact Yc7 h
 ·exact h.1.elim
def L6:Env:={ ct:=fun n=>match n with|32=>some nivC|29=>some crsC|31=>some lenC|33=>some pitC|_=>none,fn:=fun n=>match n with|30=>some v30|_=>none,meth:=fun _ _=>none}
theorem Yo1:L6.ct 32=some nivC:=rfl
theorem YoY:L6.ct 29=some crsC:=rfl
theorem Yo0:L6.ct 31=some lenC:=rfl
theorem Yo2:L6.ct 33=some pitC:=rfl
theorem YoZ:L6.ct 30=none:=rfl
theorem Yo3:L6.fn 30=some v30:=rfl
theorem L6_ok:Yq YGc L6:=by
 refine⟨fun f c h=>?_,fun f vf h=>?_,(fun _ _ _ h=>by cases h),by kernel_rfl,(fun _ h=>by cases h)⟩
 ·simp only[L6]at h
  split at h
  ·cases h;exact⟨niv_c,Tryz.f32,Tryz.func32,by kernel_rfl,by kernel_rfl⟩
  ·cases h;exact⟨crs_c,Tryz.f29,Tryz.func29,by kernel_rfl,by kernel_rfl⟩
  ·cases h;exact⟨len_c,Tryz.f31,Tryz.func31,by kernel_rfl,by kernel_rfl⟩
  ·cases h;exact⟨pit_c,Tryz.f33,Tryz.func33,by kernel_rfl,by kernel_rfl⟩
  ·cases h
 ·simp only[L6]at h
  split at h
  ·cases h;exact⟨Tryz.f30,Tryz.func30,YE1,Tryz.f30,Tryz.func30,by kernel_rfl,by kernel_rfl⟩
  ·cases h
theorem Yx8:chkB { kind:=1,bottom:=50000,top:=50000,mouth:=40000,cut:=10000}=0:=YCy
theorem YzU:trueC.ok YGc 12:=by
 refine Yb Tryz.func12 YEN L6_ok 400 trueC fun args k h=>?_
 simp only[trueC]at h
 split at h
 ·refine⟨[],by simp [leL,le],?_⟩
  dsimp only[v12,YoY,Yo0,Yo2,crsC,lenC,pitC,enc2,YoZ,Yo3,v30,Yo1,nivC,go_sem,reduceIte]
  simp only[Yc,YGa,YF9,reduceCtorEq,YF8]
  simp only[if_pos Yx8]
  (try dsimp only[v12,YoY,Yo0,Yo2,crsC,lenC,pitC,enc2,YoZ,Yo3,v30,Yo1,nivC,go_sem,reduceIte]);(try simp only[Yc,YGa,YF9,reduceCtorEq,YF8])
  refine⟨by decide,by decide,by decide,by decide,by decide,by decide,by decide,by decide,by decide,?_⟩
  obtain⟨c1,c2⟩:=YCz
  have l1:=YCA
  have l2:=Yx9
  obtain⟨p1,p2,p3⟩:=YCB
  unfold exB at c1 c2 l1 l2 p1 p2 p3
  rw[l2,p1,l1,c1,c2,decide_eq_true p2,decide_eq_true p3]
  exact YK h
 ·exact h.1.elim
def v63:VF:=⟨15,[.tmp 6],(ZR [u1 6 .mov [.cn (.bool false)]] (ZR [Zm 7 0,Zm 8 1,Zr 9 .geq 7 8,Zm 10 9,Zg 11 10 true 0,Zg 12 10 true 2,u2 13 10 true (.cmp .leq) [.tm 11,.tm 12],u1 14 .and [.tm 10,.tm 13],Zm 6 14] .ret))⟩
theorem YFu:Yg YGc Tryz.f63=some v63:=by kernel_rfl
def v36:VF:=⟨63,[.tmp 2],(ZR [u1 1 .box [.tm 0],Zi 2 0] (.seq (ZR [Za 3 0 1,Zf 4 1 3,Zq 5 .lss 4 1,Zm 6 5,Zj 7 6 false 0 1,Zh 8 6 false 1 7,u2 9 6 false (.cmp .gtr) [.tm 8,.cn (.int .i64 3)],u1 10 .or [.tm 6,.tm 9],Zm 11 10,Zj 12 11 false 1 1,Zh 13 11 false 1 12,u2 14 11 false (.call 63) [.tm 13,.cn (.int .i64 1000),.cn (.int .i64 500000)],u2 15 11 false .not [.tm 14],u1 16 .or [.tm 11,.tm 15],Zm 17 16,Zj 18 17 false 2 1,Zh 19 17 false 1 18,u2 20 17 false (.call 63) [.tm 19,.cn (.int .i64 1000),.cn (.int .i64 500000)],u2 21 17 false .not [.tm 20],u1 22 .or [.tm 17,.tm 21]] (ZC 22 (ZR [Zi 2 2] .ret) .skip)) (.seq (ZR [Za 23 0 1,Zf 24 1 23,Zq 25 .eql 24 3,Zm 26 25,Zj 27 26 true 2 1,Zh 28 26 true 1 27,Zj 29 26 true 1 1,Zh 30 26 true 1 29,u2 31 26 true (.cmp .geq) [.tm 28,.tm 30],u1 32 .and [.tm 26,.tm 31],Zm 33 32,Zj 34 33 false 0 1,Zh 35 33 false 1 34,u2 36 33 false (.cmp .neq) [.tm 35,.cn (.int .i64 3)],Zg 37 33 false 36,Zj 38 37 true 2 1,Zh 39 37 true 1 38,Zj 40 37 true 1 1,Zh 41 37 true 1 40,u2 42 37 true (.cmp .neq) [.tm 39,.tm 41],u2 43 33 false .and [.tm 37,.tm 42],u1 44 .or [.tm 33,.tm 43],Zm 45 44,Zj 46 45 false 3 1,Zh 47 45 false 1 46,Zj 48 45 false 1 1,Zh 49 45 false 1 48,u2 50 45 false (.ari .mul) [.cn (.int .i64 4),.tm 49],u2 51 45 false (.call 63) [.tm 47,.cn (.int .i64 1),.tm 50],u2 52 45 false .not [.tm 51],u1 53 .or [.tm 45,.tm 52],Zm 54 53,Zj 55 54 false 4 1,Zh 56 54 false 1 55,Zj 57 54 false 1 1,Zh 58 54 false 1 57,u2 59 54 false (.ari .mul) [.cn (.int .i64 4),.tm 58],u2 60 54 false (.call 63) [.tm 56,.cn (.int .i64 1),.tm 59],u2 61 54 false .not [.tm 60],u1 62 .or [.tm 54,.tm 61]] (ZC 62 (ZR [Zi 2 2] .ret) .skip)) (ZR [Zi 2 0] .ret))))⟩
theorem YE7:Yg YGc Tryz.f36=some v36:=by kernel_rfl
def G0:Env:={ ct:=fun _=>none,fn:=fun _=>none,meth:=fun _ _=>none}
theorem G0_ok:Yq YGc G0:=by
 refine⟨fun f c h=>?_,fun f vf h=>?_,(fun _ _ _ h=>by cases h),by kernel_rfl,(fun _ h=>by cases h)⟩
 ·cases h
 ·cases h
theorem YEn:inC.ok YGc 63:=by
 refine Yb Tryz.func63 YFu G0_ok 100 inC fun args k h=>?_
 simp only[inC]at h
 split at h
 ·rename_i n a b
  refine⟨[.int .i64 n,.int .i64 a,.int .i64 b],by simp [leL,le],?_⟩
  dsimp only[v63,go_sem,reduceIte]
  simp only[Yc,YGa,YF9,reduceCtorEq,YF8]
  exact YK h
 ·exact h.1.elim
def G1:Env:={ ct:=fun n=>match n with|63=>some inC|_=>none,fn:=fun _=>none,meth:=fun _ _=>none}
theorem Ywz:G1.ct 63=some inC:=rfl
theorem G1_ok:Yq YGc G1:=by
 refine⟨fun f c h=>?_,fun f vf h=>?_,(fun _ _ _ h=>by cases h),by kernel_rfl,(fun _ h=>by cases h)⟩
 ·simp only[G1]at h
  split at h
  ·cases h;exact⟨YEn,Tryz.f63,Tryz.func63,by kernel_rfl,by kernel_rfl⟩
  ·cases h
 ·cases h
theorem YxK(a b c d e:Int):chkB ⟨a,b,c,d,e⟩=if((decide (a<1) || decide (3<a) || !inF b 1000 500000|| !inF c 1000 500000) || (decide (a=3)&&decide (b<=c) || !decide (a=3)&& !decide (c=b) || !inF d 1 (IntKind.i64.wrap (4*b)) || !inF e 1 (IntKind.i64.wrap (4*b))))=true then 2 else 0:=by
 unfold chkB Yld
 dsimp only
 have h1:inF a 1 3=(!decide (a<1)&& !decide (3<a)):=by
  unfold inF
  rw[YHz,YGi,YGi,decide_eq_true_eq,decide_eq_true_eq,YGA,YGA,decide_eq_false_iff_not,decide_eq_false_iff_not]
  omega
 have h2:decide (c<b)= !decide (b<=c):=by
  rw[YHz,decide_eq_true_eq,YGA,decide_eq_false_iff_not]
  omega
 rw[h1,h2]
 generalize inF b 1000 500000=p1
 generalize inF c 1000 500000=p2
 generalize inF d 1 (IntKind.i64.wrap (4*b))=p3
 generalize inF e 1 (IntKind.i64.wrap (4*b))=p4
 generalize decide (a<1)=q1
 generalize decide (3<a)=q2
 generalize decide (b<=c)=q3
 generalize decide (c=b)=q4
 by_cases h3:a=3
 ·rw[if_pos h3,decide_eq_true h3]
  cases p1 <;> cases p2 <;> cases p3 <;> cases p4 <;> cases q1 <;> cases q2 <;> cases q3 <;> cases q4 <;> rfl
 ·rw[if_neg h3,decide_eq_false h3]
  cases p1 <;> cases p2 <;> cases p3 <;> cases p4 <;> cases q1 <;> cases q2 <;> cases q3 <;> cases q4 <;> rfl
theorem YzE:chkBC.ok YGc 36:=by
 refine Yb Tryz.func36 YE7 G1_ok 300 chkBC fun args k h=>?_
 simp only[chkBC]at h
 split at h
 ·rename_i a b c d e
  refine⟨[.agg [.int .i64 a,.int .i64 b,.int .i64 c,.int .i64 d,.int .i64 e]],by simp [leL,le],?_⟩
  dsimp only[v36,Ywz,inC,go_sem,reduceIte]
  simp only[Yc,YGa,YF9,reduceCtorEq,YF8]
  rw[YxK]at h
  refine⟨fun hc=>?_,fun hc=>⟨fun h1 h2=>by rw[h1,decide_eq_false h2];rfl,fun hd=>?_,fun hd=>?_⟩⟩
  ·rw[hc,Bool.true_or,if_pos rfl]at h;exact Yf h
  ·rw[hc,hd,YHx,if_pos rfl]at h;exact Yf h
  ·rw[hc,hd,YHx,if_neg (by decide)]at h;exact Yf h
 ·exact h.1.elim
structure Scl where
 d:Int
 c:Int
 bs:List (Int×Int)
 mn:Int
 md:Int
 cn:Int
 cd:Int
def inS(n a b:Int):Bool:=decide (a<=n)&&decide (n<=b)
def benL:List (Int×Int)->Int->Bool
 | [],_=>true
 |b::r,last=>decide (last<b.1)&&decide (b.1<=139)&&inS b.2 8 64&&benL r b.1
def Ybs(n:Int):Bool:=inS n 1 20
def okS(s:Scl):Bool:=
 decide (s.bs≠ [])&&inS s.d 1000 500000&&inS s.c 0 (min 50000 (s.d-1))&&Ybs s.mn&&Ybs s.md&&Ybs s.cn&&Ybs s.cd&&benL s.bs (-1)&&decide (s.mn<s.md)
def chkL(s:Scl):Int:=if 3<s.bs.length then 3 else if okS s=true then 0 else 2
structure Exn where
 f:Int
 h:Int
 n:Int
 d:Int
def addE(e:Exn)(to:Int):Int×Int:=if 0<e.h then(IntKind.i64.wrap (IntKind.i64.wrap (e.n*e.h)+IntKind.i64.wrap (IntKind.i64.wrap (to-e.f)*e.d)),IntKind.i64.wrap (e.d*e.h))else(e.n,e.d)
def expL(note:Int):List (Int×Int)->Exn->Int×Int
 | [],e=>addE e note
 |b::r,e=>if note<=b.1 then addE e note else expL note r ⟨b.1,b.2,(addE e b.1).1,(addE e b.1).2⟩
def expF(bs:List (Int×Int))(note:Int):Int×Int:=expL note bs ⟨0,0,0,1⟩
def YhB(m num den:Int):Int×Bool:=((YcS m [(2, -num)] den).1,(YcS m [(2, -num)] den).2.1)
def diaS(s:Scl)(note:Int):Iv:=
 let r:=YhB (s.d-s.c) (expF s.bs note).1 (expF s.bs note).2
 (s.c+r.1,if r.2=true then s.c+r.1 else s.c+r.1+1)
def YhW(s:Scl):Int:=(s.bs.getD 0 default).1
def hasS(s:Scl)(note:Int):Bool:=decide (YhW s<=note)&&decide (note<=139)
def askS(s:Scl)(low high:Int):Int:=if chkL s≠0 then chkL s else if(!hasS s low|| !hasS s high|| decide (high<low))=true then 2 else 0
def diaF(s:Scl)(note:Int):Iv×Int:=if askS s note note≠0 then((0,0),askS s note note)else(diaS s note,0)
def Exn.ok(e:Exn)(k:Nat):Prop:=(0<=e.f/\e.f<=139)/\(0<=e.h/\e.h<=64)/\(0<=e.n/\e.n<=e.f*e.d)/\1<=e.d/\e.d*64^(k+if e.h=0 then 0 else 1)<=262144
def Exn.add(e:Exn)(to:Int):Int×Int:=if 0<e.h then(e.n*e.h+(to-e.f)*e.d,e.d*e.h)else(e.n,e.d)
def exE(note:Int):List (Int×Int)->Exn->Int×Int
 | [],e=>e.add note
 |b::r,e=>if note<=b.1 then e.add note else exE note r ⟨b.1,b.2,(e.add b.1).1,(e.add b.1).2⟩
theorem p64(k:Nat):(1:Int)<=64^k:=Int.pow_pos (by decide)
theorem Exn.ok_d{e:Exn}{k:Nat}(h:e.ok k):e.d<=262144/\(e.h≠0->e.d*64<=262144):=by
 obtain⟨_,_,_,h4,h5⟩:=h
 have h6:=p64 k
 constructor
 ·have h7:=p64 (k+if e.h=0 then 0 else 1)
  have:e.d*1<=e.d*64^(k+if e.h=0 then 0 else 1):=Int.mul_le_mul_of_nonneg_left h7 (by omega)
  omega
 ·intro hh
  rw[if_neg hh,Int.pow_succ,<-Int.mul_assoc,Int.mul_right_comm]at h5
  have:e.d*64*1<=e.d*64*64^k:=Int.mul_le_mul_of_nonneg_left h6 (by omega)
  omega
theorem Exn.add_rng{e:Exn}{k:Nat}(h:e.ok k){to:Int}(ht:to<=139)(hf:e.h≠0->e.f<=to)(h0:e.h=0->0<=to/\e.n=0):
 addE e to=e.add to/\0<=(e.add to).1/\(e.add to).1<=to*(e.add to).2/\1<=(e.add to).2/\(e.add to).2<=262144/\(e.add to).2<=e.d*(if e.h=0 then 1 else 64):=by
 obtain⟨hd1,hd2⟩:=Exn.ok_d h
 obtain⟨⟨f0,f1⟩,⟨g0,g1⟩,⟨n0,n1⟩,d0,_⟩:=h
 unfold addE Exn.add
 by_cases c:0<e.h
 ·rw[if_pos c,if_pos c,if_neg (by omega)]
  have hf:=hf (by omega)
  have hd2:=hd2 (by omega)
  have k1:e.f*e.d<=139*262144:=YbE f1 (by omega) (by omega) (by omega)
  have k2:e.n*e.h<=139*262144*64:=YbE (by omega) g1 n0 (by omega)
  have k3:(to-e.f)*e.d<=139*262144:=YbE (by omega) (by omega) (by omega) (by omega)
  have k4:e.d*e.h<=e.d*64:=Int.mul_le_mul_of_nonneg_left g1 (by omega)
  have k5:0<=e.n*e.h:=YHv n0 g0
  have k6:0<=(to-e.f)*e.d:=YHv (by omega) (by omega)
  have k7:e.d*1<=e.d*e.h:=Int.mul_le_mul_of_nonneg_left (by omega) (by omega)
  rw[YGd (e.n*e.h) (by omega),YGd (to-e.f) (by omega),YGd ((to-e.f)*e.d) (by omega),YGd (e.n*e.h+_) (by omega),YGd (e.d*e.h) (by omega)]
  refine⟨rfl,by simp only;omega,?_,by simp only;omega,by simp only;omega,k4⟩
  simp only
  have q1:e.n*e.h<=e.f*e.d*e.h:=YGE n1 g0
  have q2:(to-e.f)*e.d*1<=(to-e.f)*e.d*e.h:=Int.mul_le_mul_of_nonneg_left (by omega) k6
  have q3:to*(e.d*e.h)=e.f*e.d*e.h+(to-e.f)*e.d*e.h:=by
   rw[<-Int.add_mul,<-Int.add_mul,show e.f+(to-e.f)=to by omega,Int.mul_assoc]
  omega
 ·rw[if_neg c,if_neg c,if_pos (by omega)]
  obtain⟨h1,h2⟩:=h0 (by omega)
  refine⟨rfl,n0,?_,d0,hd1,by omega⟩
  simp only
  rw[h2]
  exact YHv h1 (by omega)
theorem Exn.next{e:Exn}{k:Nat}(h:e.ok (k+1)){b:Int×Int}(hb:(0<=b.1/\b.1<=139)/\8<=b.2/\b.2<=64)(hf:e.h≠0->e.f<=b.1)(h0:e.h=0->e.n=0):(⟨b.1,b.2,(e.add b.1).1,(e.add b.1).2⟩:Exn).ok k:=by
 obtain⟨_,r1,r2,r3,r4,r5⟩:=Exn.add_rng h (to:=b.1) hb.1.2 hf fun hh=>⟨hb.1.1,h0 hh⟩
 refine⟨hb.1,⟨by simp only;omega,hb.2.2⟩,⟨r1,r2⟩,r3,?_⟩
 obtain⟨_,_,_,_,h5⟩:=h
 rw[if_neg (show¬b.2=0 by omega)]
 refine Int.le_trans (YGE r5 (Int.le_of_lt (Int.pow_pos (by decide)))) ?_
 by_cases c:e.h=0
 ·rw[if_pos c]at h5⊢
  rw[Int.mul_one];exact h5
 ·rw[if_neg c]at h5⊢
  rw[Int.mul_assoc,show(64:Int)*64^(k+1)=64^(k+1+1)by rw[Int.pow_succ 64 (k+1),Int.mul_comm]]
  exact h5
theorem YgE{b:Int×Int}{r:List (Int×Int)}{last:Int}(h:benL (b::r) last=true)(hl: -1<=last):(last<b.1/\(0<=b.1/\b.1<=139)/\8<=b.2/\b.2<=64)/\benL r b.1=true:=by
 simp only[benL,inS,YGi,decide_eq_true_eq]at h
 exact⟨by omega,h.2⟩
theorem YqV{note:Int}(hn:0<=note/\note<=139):∀(r:List (Int×Int))(e:Exn)(last:Int), -1<=last->benL r last=true->e.ok r.length->(e.h≠0->e.f<=last/\e.f<=note)->(e.h=0->e.n=0)->
 expL note r e=exE note r e/\0<=(exE note r e).1/\(exE note r e).1<=note*(exE note r e).2/\1<=(exE note r e).2/\(exE note r e).2<=262144
 | [],e,last,_,_,hok,hf,h0=>by
   obtain⟨a,b,c,d,g,_⟩:=Exn.add_rng hok (to:=note) hn.2 (fun h=>(hf h).2) fun h=>⟨hn.1,h0 h⟩
   exact⟨a,b,c,d,g⟩
 |b::r,e,last,hl,hb,hok,hf,h0=>by
  obtain⟨⟨b1,b2⟩,b3⟩:=YgE hb hl
  rw[expL,exE]
  split
  ·obtain⟨a,b,c,d,g,_⟩:=Exn.add_rng hok (to:=note) hn.2 (fun h=>(hf h).2) fun h=>⟨hn.1,h0 h⟩
   exact⟨a,b,c,d,g⟩
  ·obtain⟨a,_⟩:=Exn.add_rng hok (to:=b.1) b2.1.2 (fun h=>by have:=hf h;omega) fun h=>⟨b2.1.1,h0 h⟩
   rw[a]
   exact YqV hn r _ b.1 (by omega) b3 (Exn.next hok b2 (fun h=>by have:=hf h;omega) h0) (fun _=>⟨Int.le_refl _,by simp only;omega⟩) (fun h=>by simp only at h;omega)
theorem Ycd{s:Scl}(h:chkL s=0):0<s.bs.length/\s.bs.length<=3/\okS s=true:=by
 unfold chkL at h
 split at h
 ·cases h
 ·split at h
  ·rename_i h1 h2
   refine⟨?_,by omega,h2⟩
   simp only[okS,YGi,decide_eq_true_eq]at h2
   exact List.length_pos_iff.2 h2.1.1.1.1.1.1.1.1
  ·cases h
theorem Yi2{s:Scl}(hs:chkL s=0){note:Int}(hn:0<=note/\note<=139):expF s.bs note=exE note s.bs ⟨0,0,0,1⟩/\0<=(expF s.bs note).1/\(expF s.bs note).1<=note*(expF s.bs note).2/\1<=(expF s.bs note).2/\(expF s.bs note).2<=262144:=by
 obtain⟨h1,h2,h3⟩:=Ycd hs
 simp only[okS,YGi]at h3
 have hok:(⟨0,0,0,1⟩:Exn).ok s.bs.length:=by
  refine⟨⟨by decide,by decide⟩,⟨by decide,by decide⟩,⟨by decide,by decide⟩,by decide,?_⟩
  rw[if_pos rfl,YHi,Int.one_mul]
  rcases(by omega:s.bs.length=1\/s.bs.length=2\/s.bs.length=3)with e|e|e <;> rw[e] <;> decide
 obtain⟨a,b,c,d,g⟩:=YqV hn s.bs ⟨0,0,0,1⟩ (-1) (by decide) h3.1.2 hok (fun h=>absurd rfl h) (fun _=>rfl)
 rw[show expF s.bs note=expL note s.bs ⟨0,0,0,1⟩from rfl,a]
 exact⟨rfl,b,c,d,g⟩
theorem Yjr{s:Scl}(h:chkL s=0):(1000<=s.d/\s.d<=500000)/\0<=s.c/\s.c<s.d:=by
 have h3:=(Ycd h).2.2
 simp only[okS,inS,YGi,decide_eq_true_eq]at h3
 omega
end Go.Proofs.YtmiclogmkfobgaaGreat
set_option maxRecDepth 100000
namespace Go.Proofs.YtmiclogmkfobgaaGreat.LB
def eSlo(T M:Nat)(n:Nat):Nat->Nat->Bool:=
 Nat.rec (fun _ _=>false) (fun _ ih a b=>Bool.casesOn (YHG T b) (Bool.and (YHG M b) (YHG b a)) (ih b (YHB a b))) n
def eGo(T M:Nat)(n:Nat):Nat->Nat->Bool:=
 Nat.rec (fun _ _=>false) (fun _ ih a b=>(fun c1=>(fun c2=>(fun c3=>(fun c4=>(fun c5=>(fun c6=>(fun c7=>(fun c8=>(fun c9=>(fun c10=>(fun c11=>(fun c12=>(fun c13=>(fun c14=>(fun c15=>(fun c16=>Bool.casesOn (YHG T c16) (eSlo T M 17 a b) (ih c15 c16)) (YHB c14 c15)) (YHB c13 c14)) (YHB c12 c13)) (YHB c11 c12)) (YHB c10 c11)) (YHB c9 c10)) (YHB c8 c9)) (YHB c7 c8)) (YHB c6 c7)) (YHB c5 c6)) (YHB c4 c5)) (YHB c3 c4)) (YHB c2 c3)) (YHB c1 c2)) (YHB b c1)) (YHB a b)) n
def eSt(A B:Int)(a b:Nat):Prop:=∃v0 v1 s:Int,(0<=v0/\0<=v1)/\v1*a+v0*b=A/\(s=1\/s= -1)/\∀v u:Int,∃x y:Int,v=x*v0+y*v1/\v*B-u*A=s*(x*a-y*b)
theorem eSt_0(A B:Nat):eSt A B A B:=by
 refine⟨0,1, -1,⟨by decide,by decide⟩,by omega,Or.inr rfl,fun v u=>⟨u,v,by omega,?_⟩⟩
 rw[Int.neg_mul,Int.one_mul];omega
theorem YX{A B:Int}{a b:Nat}(h:eSt A B a b):eSt A B b (a%b):=by
 obtain⟨v0,v1,s,⟨h0,h1⟩,hA,hs,hall⟩:=h
 have hd:(a:Int)=(b:Int)*((a/b:Nat):Int)+((a%b:Nat):Int):=by
  rw[<-YG1,<-Int.natCast_add,YGP]
 have hq:0<=((a/b:Nat):Int):=Int.natCast_nonneg _
 generalize((a/b:Nat):Int)=q at hd hq
 refine⟨v1,v0+q*v1, -s,⟨h1,?_⟩,?_,?_,fun v u=>?_⟩
 ·exact Int.add_nonneg h0 (YHv hq h1)
 ·rw[<-hA,hd];grind
 ·rcases hs with rfl|rfl
  ·right;rfl
  ·left;rfl
 ·obtain⟨x,y,e1,e2⟩:=hall v u
  refine⟨y-q*x,x,by rw[e1];grind,by rw[e2,hd];grind⟩
theorem Yx3{A B:Int}{a b:Nat}(h:eSt A B a b)(hb0:0<b)(hba:b<=a){V:Int}(hV:2*V*b<A){v u:Int}(h0:0<v)(h1:v<=V):(b:Int)<=v*B-u*A\/(b:Int)<=u*A-v*B:=by
 obtain⟨v0,v1,s,⟨g0,g1⟩,hA,hs,hall⟩:=h
 have hd:(a:Int)=(b:Int)*((a/b:Nat):Int)+((a%b:Nat):Int):=by
  rw[<-YG1,<-Int.natCast_add,YGP]
 have hq:1<=((a/b:Nat):Int):=by
  have:=Nat.div_pos hba hb0
  omega
 have hr:((a%b:Nat):Int)<(b:Int):=by
  have:=YGJ a hb0
  omega
 have hr0:0<=((a%b:Nat):Int):=Int.natCast_nonneg _
 have hbp:0<(b:Int):=by omega
 generalize((a/b:Nat):Int)=q at hd hq
 generalize((a%b:Nat):Int)=r at hd hr hr0
 obtain⟨x,y,e1,e2⟩:=hall v u
 generalize(b:Int)=B1 at*
 generalize(a:Int)=A1 at*
 obtain⟨v2,hv2⟩:∃v2,v2=v0+q*v1:=⟨_,rfl⟩
 obtain⟨X,hX⟩:∃X,X=y-q*x:=⟨_,rfl⟩
 have f1:v=X*v1+x*v2:=by rw[e1,hX,hv2];grind
 have f2:v*B-u*A=s*(x*r-X*B1):=by rw[e2,hX,hd];grind
 have f3:A=v2*B1+v1*r:=by rw[<-hA,hd,hv2];grind
 have m1:1*v1<=q*v1:=YGE hq g1
 have f4:v1<=v2:=by omega
 have g2:0<=v2:=by omega
 have m2:v1*r<=v2*B1:=Int.mul_le_mul f4 (by omega) hr0 g2
 have f5:V<v2:=by
  refine Int.lt_of_not_ge fun hh=>?_
  have:=YGE hh (show(0:Int)<=B1 by omega)
  have e:2*V*B1=2*(V*B1):=by grind
  omega
 have key:B1<=x*r-X*B1\/B1<=X*B1-x*r:=by
  rcases Int.lt_trichotomy x 0 with hx|hx|hx
  ·rcases Int.lt_or_le 0 X with hX0|hX0
   ·right
    have a1:1*B1<=X*B1:=YGE (by omega) (by omega)
    have a2:0<=(-x)*r:=YHv (by omega) hr0
    have a3:(-x)*r= -(x*r):=by grind
    omega
   ·exfalso
    have a1:0<=(-X)*v1:=YHv (by omega) g1
    have a2:0<=(-x)*v2:=YHv (by omega) g2
    have a3:(-X)*v1= -(X*v1):=by grind
    have a4:(-x)*v2= -(x*v2):=by grind
    omega
  ·subst hx
   have hXne:X≠0:=fun e=>by rw[e]at f1;omega
   rw[Int.zero_mul]
   rcases Int.lt_or_le 0 X with hX0|hX0
   ·right
    have a1:1*B1<=X*B1:=YGE (by omega) (by omega)
    omega
   ·left
    have a1:1*B1<=(-X)*B1:=YGE (by omega) (by omega)
    have a3:(-X)*B1= -(X*B1):=by grind
    omega
  ·rcases Int.lt_or_le X 0 with hX0|hX0
   ·left
    have a1:1*B1<=(-X)*B1:=YGE (by omega) (by omega)
    have a3:(-X)*B1= -(X*B1):=by grind
    have a2:0<=x*r:=YHv (by omega) hr0
    omega
   ·exfalso
    have a1:0<=X*v1:=YHv hX0 g1
    have a2:1*v2<=x*v2:=YGE (by omega) g2
    omega
 rcases hs with rfl|rfl
 ·rw[f2];omega
 ·rw[f2];omega
def YCt(A B:Int)(T M:Nat):Prop:=∃a b,eSt A B a b/\M<=b/\b<=a/\b<T
theorem YqQ{A B:Int}{T M:Nat}:∀(n a b:Nat),eSlo T M n a b=true->eSt A B a b->YCt A B T M
 |0,_,_,h,_=>by cases h
 |n+1,a,b,h,hs=>by
  have h:Bool.casesOn (motive:=fun _=>Bool) (YHG T b) (Bool.and (YHG M b) (YHG b a)) (eSlo T M n b (YHB a b))=true:=h
  cases hb:YHG T b with
  |false=>
   rw[hb]at h
   have h:Bool.and (YHG M b) (YHG b a)=true:=h
   have h:=Bool.and_eq_true_iff.1 h
   refine⟨a,b,hs,YG2 h.1,YG2 h.2,Nat.lt_of_not_le fun hh=>?_⟩
   rw[Nat.ble_eq_true_of_le hh]at hb;cases hb
  |true=>
   rw[hb]at h
   exact YqQ n _ _ h (YX hs)
theorem YvP{A B:Int}{T M:Nat}:∀(n a b:Nat),eGo T M n a b=true->eSt A B a b->YCt A B T M
 |0,_,_,h,_=>by cases h
 |n+1,a,b,h,hs=>by
  obtain⟨c1,hc1⟩:∃c,c=YHB a b:=⟨_,rfl⟩
  have s1:eSt A B b c1:=by rw[hc1];exact YX hs
  obtain⟨c2,hc2⟩:∃c,c=YHB b c1:=⟨_,rfl⟩
  have s2:eSt A B c1 c2:=by rw[hc2];exact YX s1
  obtain⟨c3,hc3⟩:∃c,c=YHB c1 c2:=⟨_,rfl⟩
  have s3:eSt A B c2 c3:=by rw[hc3];exact YX s2
  obtain⟨c4,hc4⟩:∃c,c=YHB c2 c3:=⟨_,rfl⟩
  have s4:eSt A B c3 c4:=by rw[hc4];exact YX s3
  obtain⟨c5,hc5⟩:∃c,c=YHB c3 c4:=⟨_,rfl⟩
  have s5:eSt A B c4 c5:=by rw[hc5];exact YX s4
  obtain⟨c6,hc6⟩:∃c,c=YHB c4 c5:=⟨_,rfl⟩
  have s6:eSt A B c5 c6:=by rw[hc6];exact YX s5
  obtain⟨c7,hc7⟩:∃c,c=YHB c5 c6:=⟨_,rfl⟩
  have s7:eSt A B c6 c7:=by rw[hc7];exact YX s6
  obtain⟨c8,hc8⟩:∃c,c=YHB c6 c7:=⟨_,rfl⟩
  have s8:eSt A B c7 c8:=by rw[hc8];exact YX s7
  obtain⟨c9,hc9⟩:∃c,c=YHB c7 c8:=⟨_,rfl⟩
  have s9:eSt A B c8 c9:=by rw[hc9];exact YX s8
  obtain⟨c10,hc10⟩:∃c,c=YHB c8 c9:=⟨_,rfl⟩
  have s10:eSt A B c9 c10:=by rw[hc10];exact YX s9
  obtain⟨c11,hc11⟩:∃c,c=YHB c9 c10:=⟨_,rfl⟩
  have s11:eSt A B c10 c11:=by rw[hc11];exact YX s10
  obtain⟨c12,hc12⟩:∃c,c=YHB c10 c11:=⟨_,rfl⟩
  have s12:eSt A B c11 c12:=by rw[hc12];exact YX s11
  obtain⟨c13,hc13⟩:∃c,c=YHB c11 c12:=⟨_,rfl⟩
  have s13:eSt A B c12 c13:=by rw[hc13];exact YX s12
  obtain⟨c14,hc14⟩:∃c,c=YHB c12 c13:=⟨_,rfl⟩
  have s14:eSt A B c13 c14:=by rw[hc14];exact YX s13
  obtain⟨c15,hc15⟩:∃c,c=YHB c13 c14:=⟨_,rfl⟩
  have s15:eSt A B c14 c15:=by rw[hc15];exact YX s14
  obtain⟨c16,hc16⟩:∃c,c=YHB c14 c15:=⟨_,rfl⟩
  have s16:eSt A B c15 c16:=by rw[hc16];exact YX s15
  have h:Bool.casesOn (motive:=fun _=>Bool) (YHG T c16) (eSlo T M 17 a b) (eGo T M n c15 c16)=true:=by
   subst hc16
   subst hc15
   subst hc14
   subst hc13
   subst hc12
   subst hc11
   subst hc10
   subst hc9
   subst hc8
   subst hc7
   subst hc6
   subst hc5
   subst hc4
   subst hc3
   subst hc2
   subst hc1
   exact h
  cases hb:YHG T c16 with
  |false=>
   rw[hb]at h
   exact YqQ _ _ _ h hs
  |true=>
   rw[hb]at h
   exact YvP n _ _ h s16
theorem YqK{A B T M n V:Nat}(h:eGo T M n A B=true)(hM:0<M)(hV:2*V*T<=A){v u:Int}(h0:0<v)(h1:v<=V):(M:Int)<=v*B-u*A\/(M:Int)<=u*A-v*B:=by
 obtain⟨a,b,hs,h2,h3,h4⟩:=YvP n A B h (eSt_0 A B)
 have h5:2*V*b<A:=by
  rcases YGI V with rfl|hp
  ·omega
  ·have h6:2*V*(b+1)<=2*V*T:=YGk _ h4
   rw[YGQ]at h6
   omega
 have h5':2*(V:Int)*(b:Int)<(A:Int):=by
  have:=Int.ofNat_lt.2 h5
  rw[YG1,YG1]at this
  exact this
 have:=Yx3 hs (by omega) h3 h5' (u:=u) h0 h1
 omega
end Go.Proofs.YtmiclogmkfobgaaGreat.LB
set_option maxRecDepth 100000
namespace Go.Proofs.YtmiclogmkfobgaaGreat.LB
def eLn:Nat:=0xb17217f7d1cf79abc9e3b39803f2f6af40f343267298b62d8a0d175b8baafa2be7b876206debac98559552fb4afa1b10ed2eae35c138214427573b291169b8253e96ca16224ae8c51acbda11317c387eb9ea9bc3b136603b256fa0ec7657f74b72ce87b19d6548caf5dfa6bd38303248655fa1872f20e3a2da2d97c50f3fd5c607f4ca11fb5bfb90610d30f88fe551a2ee569d6dfc1efa157d2e23de1400b39617460775db8990e5c943e732b479cd33cccc4e659393514c4c1a1e0bd1d6095d25669b333564a3376a9c7f8a5e148e82074db6015cfe7aa30c480a5417350d2c955d5179b1e17b9dae313cdb6c606cb1078f735d1b2db31b5f50b5185064c18b4d162db3b365853d7598a1951ae27
def eSer(y:Nat)(n:Nat):Nat->Nat->Nat->Nat:=
 Nat.rec (fun _ _ s=>s) (fun _ ih i m s=>Bool.casesOn (YGS m 0) (ih (Nat.succ i) (YHH (Nat.shiftRight (Nat.mul m y) 2164) (Nat.succ i)) (YHc s m)) s) n
def eRt(q:Nat):Nat:=Nat.shiftRight (eSer (YHH eLn q) 500 0 (Nat.pow 2 2164) 0) 64
def ePt(n:Nat):Nat:=Nat.pow 2 n
def eA:Nat:=ePt 2100
def eT:Nat:=ePt 1094
def eM:Nat:=ePt 1070
def eDnN(N x t:Nat):Nat:=Nat.shiftRight (Nat.mul x t) N
def eUpN(N y t:Nat):Nat:=Nat.succ (Nat.shiftRight (Nat.mul y t) N)
def eDn(x t:Nat):Nat:=eDnN 2100 x t
def eUp(y t:Nat):Nat:=eUpN 2100 y t
def eRng(q s t:Nat)(n:Nat):Nat->Nat->Nat->Bool:=
 Nat.rec (fun _ _ _=>true) (fun _ ih r x y=>Bool.casesOn (Bool.casesOn (YGS (YHa r q) 1) true (Bool.and (YHG y (YHc x 1099511627776)) (eGo eT eM 100 eA x))) false
  (ih (Nat.succ r) (eDn x s) (eUp y t))) n
def ePw(s t:Nat)(f:Nat):Nat->(Nat->Nat->Bool)->Bool:=
 Nat.rec (fun _ _=>false) (fun _ ih r k=>Bool.casesOn (YGS r 0) (ih (YHH r 2) (fun x y=>(fun x2 y2=>Bool.casesOn (YGS (YHB r 2) 1) (k x2 y2) (k (eDn x2 s) (eUp y2 t))) (eDn x x) (eUp y y))) (k eA eA)) f
def eGrp(s t q r n:Nat):Bool:=Bool.and (ePw t s 19 q (fun x y=>Bool.and (YHG (Nat.mul 2 eA) x) (YHG y (Nat.mul 2 eA)))) (ePw s t 19 r (fun x y=>eRng q s t n r x y))
def eOk(q r n:Nat):Bool:=eGrp (Nat.sub (eRt q) 1048576) (YHc (eRt q) 1048576) q r n
theorem YxZ(N x t:Nat):eDnN N x t=x*t/ePt N:=Nat.shiftRight_eq_div_pow _ N
theorem Yx4(N x t:Nat):eUpN N x t=x*t/ePt N+1:=congrArg Nat.succ (Nat.shiftRight_eq_div_pow _ N)
theorem ePt_pos(n:Nat):0<ePt n:=YGO (by decide)
theorem YvO(x t:Nat):eDn x t=x*t/eA:=YxZ 2100 x t
theorem YvQ(x t:Nat):eUp x t=x*t/eA+1:=Yx4 2100 x t
theorem Yeb:0<eA:=ePt_pos 2100
theorem YCc{a b:Nat}(h:YHG (Nat.mul 2 a) b=true):2*a<=b:=YG2 h
theorem YCd{a b:Nat}(h:YHG b (Nat.mul 2 a)=true):b<=2*a:=YG2 h
def eLw(q r x:Nat):Prop:=x^q<=2^r*eA^q
def eHi(q r y:Nat):Prop:=2^r*eA^q<=y^q
theorem YCr{K x t q a b:Nat}(hK:0<K)(h1:x^q<=2^a*K^q)(h2:t^q<=2^b*K^q):(x*t/K)^q<=2^(a+b)*K^q:=by
 have h3:=YGp (Nat.div_mul_le_self (x*t) K) q
 rw[YGw,YGw]at h3
 have h4:=YGB h1 h2
 refine YGq (c:=K^q) ?_ (YGO hK)
 refine YGg h3 (YGg h4 (YGu ?_))
 rw[YGo]
 ac_rfl
theorem YEK{K x t q a b:Nat}(hK:0<K)(h1:2^a*K^q<=x^q)(h2:2^b*K^q<=t^q):2^(a+b)*K^q<=(x*t/K+1)^q:=by
 have h0:x*t<=(x*t/K+1)*K:=by
  have:=YGP (x*t) K
  have:=YGJ (x*t) hK
  rw[YGG,YGW,YGj (x*t/K)];omega
 have h3:=YGp h0 q
 rw[YGw,YGw]at h3
 have h4:=YGB h1 h2
 refine YGq (c:=K^q) ?_ (YGO hK)
 refine YGg (YGu ?_) (YGg h4 h3)
 rw[YGo]
 ac_rfl
theorem Yx2{q r s x t:Nat}(h1:eLw q r x)(h2:eLw q s t):eLw q (r+s) (eDn x t):=by
 rw[YvO];exact YCr Yeb h1 h2
theorem Yx1{q r s x t:Nat}(h1:eHi q r x)(h2:eHi q s t):eHi q (r+s) (eUp x t):=by
 rw[YvQ];exact YEK Yeb h1 h2
def ePD(s r x:Nat):Prop:=x*eA^r<=s^r*eA
def ePU(t r y:Nat):Prop:=t^r*eA<=y*eA^r
theorem YDv{K s r r' x x':Nat}(hK:0<K)(h1:x*K^r<=s^r*K)(h2:x'*K^r'<=s^r'*K):x*x'/K*K^(r+r')<=s^(r+r')*K:=by
 have h3:=YGf (K^(r+r')) (Nat.div_mul_le_self (x*x') K)
 have h4:=YGB h1 h2
 refine YGq (c:=K) ?_ hK
 refine YGg (YGu ?_) (YGg h3 (YGg (YGu ?_) (YGg h4 (YGu ?_))))
 ·ac_rfl
 ·rw[YGo];ac_rfl
 ·rw[YGo];ac_rfl
theorem YDy{K s r r' x x':Nat}(hK:0<K)(h1:s^r*K<=x*K^r)(h2:s^r'*K<=x'*K^r'):s^(r+r')*K<=(x*x'/K+1)*K^(r+r'):=by
 have h0:x*x'<=(x*x'/K+1)*K:=by
  have:=YGP (x*x') K
  have:=YGJ (x*x') hK
  rw[YGG,YGW,YGj (x*x'/K)];omega
 have h3:=YGf (K^(r+r')) h0
 have h4:=YGB h1 h2
 refine YGq (c:=K) ?_ hK
 refine YGg (YGu ?_) (YGg h4 (YGg (YGu ?_) (YGg h3 (YGu ?_))))
 ·rw[YGo];ac_rfl
 ·rw[YGo];ac_rfl
 ·ac_rfl
theorem YlM{s r r' x x':Nat}(h1:ePD s r x)(h2:ePD s r' x'):ePD s (r+r') (eDn x x'):=by
 unfold ePD at*;rw[YvO];exact YDv Yeb h1 h2
theorem YlN{s r r' x x':Nat}(h1:ePU s r x)(h2:ePU s r' x'):ePU s (r+r') (eUp x x'):=by
 unfold ePU at*;rw[YvQ];exact YDy Yeb h1 h2
theorem ePD_1(s:Nat):ePD s 1 s:=by unfold ePD;rw[YHr,YHr];exact YGr _
theorem ePU_1(s:Nat):ePU s 1 s:=by unfold ePU;rw[YHr,YHr];exact YGr _
theorem ePD_0(s:Nat):ePD s 0 eA:=by unfold ePD;rw[YHA,YHA,YHj,YGW];exact YGr _
theorem ePU_0(s:Nat):ePU s 0 eA:=by unfold ePU;rw[YHA,YHA,YHj,YGW];exact YGr _
theorem YqO{s t:Nat}:∀(f r:Nat)(k:Nat->Nat->Bool),ePw s t f r k=true->∃x y,ePD s r x/\ePU t r y/\k x y=true
 |0,_,_,h=>by cases h
 |f+1,r,k,h=>by
  have h:Bool.casesOn (motive:=fun _=>Bool) (YGS r 0) (ePw s t f (YHH r 2) (fun x y=>(fun x2 y2=>Bool.casesOn (YGS (YHB r 2) 1) (k x2 y2) (k (eDn x2 s) (eUp y2 t))) (eDn x x) (eUp y y))) (k eA eA)=true:=h
  cases hb:YGS r 0 with
  |true=>
   rw[hb]at h
   have hr:r=0:=YGD hb
   rw[hr]
   exact⟨_,_,ePD_0 s,ePU_0 t,h⟩
  |false=>
   rw[hb]at h
   obtain⟨x,y,h1,h2,h3⟩:=YqO f _ _ h
   have h1:ePD s (r/2) x:=h1
   have h2:ePU t (r/2) y:=h2
   have h3:Bool.casesOn (motive:=fun _=>Bool) (YGS (YHB r 2) 1) (k (eDn x x) (eUp y y)) (k (eDn (eDn x x) s) (eUp (eUp y y) t))=true:=h3
   cases hm:YGS (YHB r 2) 1 with
   |false=>
    rw[hm]at h3
    have hr:r/2+r/2=r:=by
     have:r%2≠1:=fun e=>by
      have e:YHB r 2=1:=e
      rw[e]at hm;cases hm
     omega
    refine⟨_,_,?_,?_,h3⟩
    ·have:=YlM h1 h1;rw[hr]at this;exact this
    ·have:=YlN h2 h2;rw[hr]at this;exact this
   |true=>
    rw[hm]at h3
    have hr:r/2+r/2+1=r:=by
     have:r%2=1:=YGD hm
     omega
    refine⟨_,_,?_,?_,h3⟩
    ·have:=YlM (YlM h1 h1) (ePD_1 s);rw[hr]at this;exact this
    ·have:=YlN (YlN h2 h2) (ePU_1 t);rw[hr]at this;exact this
theorem pd_lw{K s q r x:Nat}(hK:0<K)(h1:s^q<=2^1*K^q)(h2:x*K^r<=s^r*K):x^q<=2^r*K^q:=by
 have h3:=YGp h2 q
 have h4:=YGp h1 r
 rw[YGw,YGw,<-YGn,<-YGn]at h3
 rw[YGw,<-YGn,<-YGn,<-YGn,YGW,YGj q r]at h4
 refine YGq (c:=K^(r*q)) ?_ (YGO hK)
 refine YGg h3 (YGg (YGf _ h4) (YGu ?_))
 ac_rfl
theorem pu_hi{K s q r x:Nat}(hK:0<K)(h1:2^1*K^q<=s^q)(h2:s^r*K<=x*K^r):2^r*K^q<=x^q:=by
 have h3:=YGp h2 q
 have h4:=YGp h1 r
 rw[YGw,YGw,<-YGn,<-YGn]at h3
 rw[YGw,<-YGn,<-YGn,<-YGn,YGW,YGj q r]at h4
 refine YGq (c:=K^(r*q)) ?_ (YGO hK)
 refine YGg (YGu ?_) (YGg (YGf _ h4) h3)
 ac_rfl
def eFr(q r:Nat):Prop:=∃x y,eLw q r x/\eHi q r y/\y<=x+1099511627776/\eGo eT eM 100 eA x=true
theorem YqP{q s t:Nat}(hs:eLw q 1 s)(ht:eHi q 1 t):∀(n r x y:Nat),eRng q s t n r x y=true->eLw q r x->eHi q r y->∀i,i<n->YHa (r+i) q=1->eFr q (r+i)
 |0,_,_,_,_,_,_,i,hi,_=>absurd hi (YG7 _)
 |n+1,r,x,y,h,hx,hy,i,hi,hg=>by
  have h:Bool.casesOn (motive:=fun _=>Bool) (Bool.casesOn (motive:=fun _=>Bool) (YGS (YHa r q) 1) true (Bool.and (YHG y (YHc x 1099511627776)) (eGo eT eM 100 eA x))) false (eRng q s t n (Nat.succ r) (eDn x s) (eUp y t))=true:=h
  cases hb:Bool.casesOn (motive:=fun _=>Bool) (YGS (YHa r q) 1) true (Bool.and (YHG y (YHc x 1099511627776)) (eGo eT eM 100 eA x))with
  |false=>rw[hb]at h;cases h
  |true=>
   rw[hb]at h
   cases i with
   |zero=>
    have hg:YHa r q=1:=hg
    rw[hg]at hb
    have hb:Bool.and (YHG y (YHc x 1099511627776)) (eGo eT eM 100 eA x)=true:=hb
    have hb:=Bool.and_eq_true_iff.1 hb
    exact⟨x,y,hx,hy,YG2 hb.1,hb.2⟩
   |succ i=>
    have:=YqP hs ht n (r+1) _ _ h (Yx2 hx hs) (Yx1 hy ht) i (by omega) (by rw[show r+1+i=r+(i+1)by omega];exact hg)
    rw[show r+1+i=r+(i+1)by omega]at this
    exact this
theorem Yx0{s t q r n:Nat}(h:eGrp s t q r n=true):∀i,i<n->YHa (r+i) q=1->eFr q (r+i):=by
 have h:=Bool.and_eq_true_iff.1 h
 obtain⟨x,y,h1,h2,h3⟩:=YqO _ _ _ h.1
 have h3:=Bool.and_eq_true_iff.1 h3
 have ht:eHi q 1 t:=by
  have g:2*eA<=x:=YCc h3.1
  have g1:=YGf (eA^q) g
  have g2:=YGg g1 h1
  unfold eHi
  refine YGq (c:=eA) (YGg (YGu ?_) g2) Yeb
  rw[YHr];ac_rfl
 have hs:eLw q 1 s:=by
  have g:y<=2*eA:=YCd h3.2
  have g1:=YGf (eA^q) g
  have g2:=YGg h2 g1
  unfold eLw
  refine YGq (c:=eA) (YGg g2 (YGu ?_)) Yeb
  rw[YHr];ac_rfl
 obtain⟨x,y,k1,k2,k3⟩:=YqO _ _ _ h.2
 exact YqP hs ht n r x y k3 (pd_lw Yeb hs k1) (pu_hi Yeb ht k2)
theorem YCu{q r n:Nat}(h:eOk q r n=true):∀i,i<n->YHa (r+i) q=1->eFr q (r+i):=Yx0 h
end Go.Proofs.YtmiclogmkfobgaaGreat.LB
set_option maxRecDepth 100000
namespace Go.Proofs.YtmiclogmkfobgaaGreat.LB
theorem ePt_add(a b:Nat):ePt a*ePt b=ePt (a+b):=(YGo 2 a b).symm
theorem ePt_1:ePt 1=2:=rfl
theorem Yni{a b:Nat}(h:a<=b):ePt a<=ePt b:=YGs (by decide) h
theorem YCv{a b:Nat}(h:a<b):ePt a<ePt b:=(Nat.pow_lt_pow_iff_right (by decide)).2 h
theorem YqM:1099511627776=ePt 40:=rfl
def eV:Nat:=ePt 1005
def eG:Nat:=ePt 2035
theorem eVT:2*eV*eT<=eA:=by
 have e:ePt 1*ePt 1005*ePt 1094=ePt 2100:=by rw[ePt_add,ePt_add]
 rw[ePt_1]at e
 unfold eV eT eA
 exact YGu e
theorem eV_M:eV*1099511627776<eM:=by
 have e:ePt 1005*ePt 40<ePt 1070:=by rw[ePt_add];exact YCv (by decide)
 rw[<-YqM]at e
 unfold eV eM
 exact e
theorem eV_G:eV*eA<=eM*eG:=by
 have e:ePt 1005*ePt 2100<=ePt 1070*ePt 2035:=by rw[ePt_add,ePt_add];exact Yni (by decide)
 unfold eV eA eM eG
 exact e
theorem Yyd{A M G V q r u v x y e:Nat}(hA:0<A)(hx:x^q<=2^r*A^q)(hy:2^r*A^q<=y^q)(hxy:y<=x+e)(hV:V*e<M)(hG:V*A<=M*G)(hv:v<=V)(hu:u<=V)(hq:0<q)
 (hfar:M+u*A<=v*x\/M+v*x<=u*A)(h:u^q<2^r*v^q):u^q*(G+1)^q<=2^r*v^q*G^q:=by
 rcases hfar with h1|h1
 ·have h2:u*(G+1)*A<=v*G*x:=by
   have a1:=YGf G h1
   have a2:=YGf A hu
   rw[YGG]at a1
   have e1:u*(G+1)*A=u*A*G+u*A:=by rw[YGQ,YHj,YGG];ac_rfl
   have e2:v*G*x=v*x*G:=by ac_rfl
   omega
  have h3:=YGp h2 q
  rw[YGw,YGw,YGw,YGw]at h3
  have h4:=YGk (v^q*G^q) hx
  refine YGq (c:=A^q) ?_ (YGO hA)
  refine YGg h3 (YGg h4 (YGu ?_))
  ac_rfl
 ·exfalso
  have h2:v*y<=u*A:=by
   have a1:=YGk v hxy
   have a2:=YGf e hv
   rw[YGQ]at a1
   omega
  have h3:=YGp h2 q
  rw[YGw,YGw]at h3
  have h4:=YGk (v^q) hy
  have h5:2^r*v^q*A^q<=u^q*A^q:=by
   refine YGg (YGu ?_) (YGg h4 h3)
   ac_rfl
  have h6:=YGq h5 (YGO hA)
  omega
theorem YCG{q r:Nat}(hq:0<q)(h:eFr q r){u v:Nat}(hv0:0<v)(hv:v<=eV)(hu:u<=eV)(hlt:u^q<2^r*v^q):u^q*(eG+1)^q<=2^r*v^q*eG^q:=by
 obtain⟨x,y,hx,hy,hxy,hg⟩:=h
 have hf:=YqK hg (ePt_pos 1070) eVT (v:=(v:Int)) (u:=(u:Int)) (by omega) (Int.ofNat_le.2 hv)
 refine Yyd Yeb hx hy hxy eV_M eV_G hv hu hq ?_ hlt
 rw[<-YG1,<-YG1]at hf
 generalize u*eA=a at*
 generalize v*x=b at*
 omega
theorem two_G:∀{G:Nat},1<=G->2*G^G<=(G+1)^G:=by
 intro G hG
 have h:∀k:Nat,G^k*(G+k)<=(G+1)^k*G:=by
  intro k
  induction k with
  |zero=>simp
  |succ k ih=>
   have h1:=YGf (G+1) ih
   have e1:(G+1)^k*G*(G+1)=(G+1)^(k+1)*G:=by rw[YGt];ac_rfl
   rw[e1]at h1
   refine YGg ?_ h1
   rw[YGt,YGm,YGm]
   refine YGk _ ?_
   have e2:G*(G+(k+1))=G*G+G*k+G:=by rw[YGQ,YGQ,YHj];omega
   have e3:(G+k)*(G+1)=G*G+G*k+(G+k):=by rw[YGQ,YHj,YGG,YGj k G]
   rw[e2,e3];omega
 have h1:=h G
 refine YGq (c:=G) ?_ hG
 refine YGg (YGu ?_) h1
 rw[show G+G=2*G by omega];ac_rfl
theorem Yi6{G q U W:Nat}(hG:1<=G)(h:U*(G+1)^q<=W*G^q):2^q*U^G<=W^G:=by
 have h1:=YGp h G
 rw[YGw,YGw,<-YGn,<-YGn,YGj q G,YGn,YGn]at h1
 have h2:=YGp (two_G hG) q
 rw[YGw]at h2
 refine YGq (c:=(G^G)^q) ?_ (YGO (YGO hG))
 refine YGg (YGu ?_) (YGg (YGk (U^G) h2) h1)
 ac_rfl
theorem Ykq:0<eG:=ePt_pos 2035
theorem YrX{u v:Nat}(hu:u<=eV)(h:u<v):u*(eG+1)<=v*eG:=by
 have h1:eV<=eG:=by unfold eV eG;exact Yni (by decide)
 have h2:=YGf eG (show u+1<=v from h)
 rw[YGG,YGW]at h2
 rw[YGQ,YHj]
 omega
def eAll(q:Nat):Prop:=∀r,r<q->YHa r q=1->r=0\/eFr q r
theorem Yxn{q r:Nat}(hq:0<q)(hr:r<q)(h:eAll q)(hg:YHa r q=1){u v:Nat}(hv0:0<v)(hv:v<=eV)(hu:u<=eV)(hlt:u^q<2^r*v^q):2^q*(u^q)^eG<=(2^r*v^q)^eG:=by
 rcases h r hr hg with rfl|hf
 ·rw[Nat.gcd_zero_left]at hg
  subst hg
  have hlt2:u<v:=by rw[YHA,YGW,YHr,YHr]at hlt;exact hlt
  have h1:=YrX hu hlt2
  have h2:u^1*(eG+1)^1<=2^0*v^1*eG^1:=by rw[YHA,YGW,YHr,YHr,YHr,YHr];exact h1
  exact Yi6 Ykq h2
 ·exact Yi6 Ykq (YCG hq hf hv0 hv hu hlt)
theorem Yxp{q r:Nat}(hq:0<q)(hr:r<q)(h:∀e,e∣q->eAll e){u v:Nat}(hv0:0<v)(hu:2*u<=eV)(hlt:u^q<2^r*v^q):2^q*(u^q)^eG<=(2^r*v^q)^eG:=by
 rcases YGz eV v with hv|hv
 ·have h1:(2*u)^q<=2^r*v^q:=YGg (YGp (by omega) q) (Nat.le_mul_of_pos_left _ (YGO (by decide)))
  have h2:=YGp h1 eG
  refine YGg ?_ h2
  rw[YGw,YGw]
  refine YGf _ ?_
  exact Nat.le_self_pow (by have:=Ykq;omega) _
 ·obtain⟨g,hgd⟩:∃g,g=YHa r q:=⟨_,rfl⟩
  have hg0:0<g:=by rw[hgd];exact Nat.gcd_pos_of_pos_right _ hq
  obtain⟨r1,hr1⟩:g∣r:=by rw[hgd];exact Nat.gcd_dvd_left _ _
  obtain⟨q1,hq1⟩:g∣q:=by rw[hgd];exact Nat.gcd_dvd_right _ _
  have hc:YHa r1 q1=1:=by
   have e:=hgd
   rw[hr1,hq1,Nat.gcd_mul_left]at e
   exact Nat.eq_of_mul_eq_mul_left hg0 (by omega)
  have hq0:0<q1:=by
   rcases YGI q1 with e|e
   ·rw[e]at hq1;omega
   ·exact e
  have hr2:r1<q1:=by
   rw[hr1,hq1]at hr
   exact Nat.lt_of_mul_lt_mul_left hr
  have e1:∀w:Nat,w^q=(w^q1)^g:=fun w=>by rw[hq1,YGj,YGn]
  have e2:2^r=(2^r1)^g:=by rw[hr1,YGj,YGn]
  rw[e1 u,e1 v,e2,<-YGw]at hlt
  have hlt':=(Nat.pow_lt_pow_iff_left (by omega)).1 hlt
  have hk:=Yxn hq0 hr2 (h q1 ⟨g,by rw[hq1,YGj]⟩) hc hv0 hv (by omega) hlt'
  have hk2:=YGp hk g
  rw[e1 u,e1 v,e2,<-YGw]
  have sw:∀w:Nat,(w^eG)^g=(w^g)^eG:=fun w=>by rw[<-YGn,<-YGn,YGj]
  have e3:(2^q1)^g=2^q:=by rw[<-YGn,YGj,<-hq1]
  rw[YGw,sw,sw,e3]at hk2
  exact hk2
end Go.Proofs.YtmiclogmkfobgaaGreat.LB
set_option maxRecDepth 100000
namespace Go.Proofs.YtmiclogmkfobgaaGreat.LB
theorem sep_L{d q n m k:Nat}(hq:0<q)(ht:∀e,e∣q->eAll e)(hk:1<=k)(hm:2*m^d<=eV)(hlt:m^(d*q)<2^n*k^(d*q)):2^q*(m^(d*q))^eG<=(2^n*k^(d*q))^eG:=by
 have e1:m^(d*q)=(m^d)^q:=YGn _ _ _
 have e2:2^n*k^(d*q)=2^(n%q)*(2^(n/q)*k^d)^q:=by
  rw[YGw,<-YGn,<-YGn,<-YGm,<-YGo,YGj (n/q) q,Nat.mod_add_div]
 rw[e1,e2]at hlt⊢
 exact Yxp hq (YGJ _ hq) ht (YHd (YGO (by decide)) (YGO hk)) hm hlt
theorem sep_den{L q n num den m k G:Nat}(hL:0<L)(hden:0<den)(hE:num*L=n*den)(hlt:m^den<2^num*k^den)(hsep:m^L<2^n*k^L->2^q*(m^L)^G<=(2^n*k^L)^G):
 2^(q*den)*(m^den)^(G*L)<=(2^num*k^den)^(G*L):=by
 have eY:(m^den)^L=(m^L)^den:=by rw[<-YGn,<-YGn,YGj]
 have eX:(2^num*k^den)^L=(2^n*k^L)^den:=by
  rw[YGw,YGw,<-YGn,<-YGn,<-YGn,<-YGn,hE,YGj den L]
 have h1:=Nat.pow_lt_pow_left hlt (show L≠0 by omega)
 rw[eY,eX]at h1
 have h2:=hsep ((Nat.pow_lt_pow_iff_left (by omega)).1 h1)
 have h3:=YGp h2 den
 have e3:∀w:Nat,(w^G)^den=(w^den)^G:=fun w=>by rw[<-YGn,<-YGn,YGj]
 rw[YGw,<-YGn,e3,e3,<-eY,<-eX,<-YGn _ L G,<-YGn _ L G,YGj L G]at h3
 exact h3
theorem sep_fin{X Y G S w q L d den:Nat}(hY:0<Y)(hL:L=d*q)(hq:0<q)(hden:0<den)(hS:w*d<S)(hgap:2^(q*den)*Y^(G*L)<=X^(G*L))(hlog:X^(G*S)<=Y^(G*S)*2^(den*w)):False:=by
 have h1:=YGp hgap S
 have h2:=YGp hlog L
 have e1:∀z:Nat,(z^(G*L))^S=(z^(G*S))^L:=fun z=>by rw[<-YGn,<-YGn];congr 1;ac_rfl
 rw[YGw,e1,e1,<-YGn]at h1
 rw[YGw,<-YGn 2 (den*w) L]at h2
 have h3:=YGg h1 h2
 rw[YGj ((Y^(G*S))^L)]at h3
 have h4:=YGq h3 (YGO (YGO hY))
 have h5:=(Nat.pow_le_pow_iff_right (by decide)).1 h4
 rw[hL]at h5
 have e5:den*w*(d*q)=q*den*(w*d):=by ac_rfl
 rw[e5]at h5
 have h6:=Nat.le_of_mul_le_mul_left h5 (YHd hq hden)
 omega
end Go.Proofs.YtmiclogmkfobgaaGreat.LB
set_option maxRecDepth 100000
namespace Go.Proofs.YtmiclogmkfobgaaGreat.LB
theorem Yus{A M G V U q r u v x y e:Nat}(hA:0<A)(hx:x^q<=2^r*A^q)(hy:2^r*A^q<=y^q)(hxy:y<=x+e)(hG:U*A+V*e*(G+1)<=M*G)(hv:v<=V)(hu:u<=U)(hq:0<q)
 (hfar:M+u*A<=v*x\/M+v*x<=u*A)(h:2^r*v^q<u^q):2^r*v^q*(G+1)^q<=u^q*G^q:=by
 rcases hfar with h1|h1
 ·exfalso
  have h3:=YGp (show u*A<=v*x by omega) q
  rw[YGw,YGw]at h3
  have h4:=YGk (v^q) hx
  have h5:u^q*A^q<=2^r*v^q*A^q:=YGg h3 (YGg h4 (YGu (by ac_rfl)))
  have h6:=YGq h5 (YGO hA)
  omega
 ·have h2:v*y*(G+1)<=u*A*G:=by
   have a1:=YGk v hxy
   have a2:=YGf e hv
   have a3:=YGf A hu
   have a4:=YGf G h1
   rw[YGQ]at a1
   have a5:=YGf (G+1) (show v*y<=v*x+V*e by omega)
   rw[YGG]at a4
   have e1:(v*x+V*e)*(G+1)=v*x*G+v*x+V*e*(G+1):=by rw[YGG,YGQ (v*x),YHj]
   omega
  have h3:=YGp h2 q
  rw[YGw,YGw,YGw,YGw]at h3
  have h4:=YGk (v^q*(G+1)^q) hy
  refine YGq (c:=A^q) ?_ (YGO hA)
  refine YGg (YGu ?_) (YGg h4 (YGg (YGu ?_) (YGg h3 (YGu ?_)))) <;> ac_rfl
def eU:Nat:=ePt 1004
theorem eUV:eU<=eV:=Yni (by decide)
theorem eU_G:eU*eA+eV*1099511627776*(eG+1)<=eM*eG:=by
 have e1:ePt 1004*ePt 2100=ePt 3104:=ePt_add _ _
 have e2:ePt 1070*ePt 2035=ePt 3105:=ePt_add _ _
 have e3:ePt 1005*ePt 40*ePt 2036=ePt 3081:=by rw[ePt_add,ePt_add]
 have e4:ePt 3081<=ePt 3104:=Yni (by decide)
 have e5:ePt 3105=2*ePt 3104:=by rw[<-ePt_1,ePt_add]
 have e6:ePt 2036=2*ePt 2035:=by rw[<-ePt_1,ePt_add]
 have hp:=ePt_pos 2035
 have e7:ePt 1005*ePt 40*(ePt 2035+1)<=ePt 1005*ePt 40*ePt 2036:=YGk _ (by omega)
 rw[<-YqM]at e7
 unfold eU eA eV eG eM
 rw[YqM]at e7⊢
 omega
theorem Yyg{q r:Nat}(hq:0<q)(h:eFr q r){u v:Nat}(hv0:0<v)(hv:v<=eV)(hu:u<=eU)(hlt:2^r*v^q<u^q):2^r*v^q*(eG+1)^q<=u^q*eG^q:=by
 obtain⟨x,y,hx,hy,hxy,hg⟩:=h
 have hf:=YqK hg (ePt_pos 1070) eVT (v:=(v:Int)) (u:=(u:Int)) (by omega) (Int.ofNat_le.2 hv)
 refine Yus Yeb hx hy hxy eU_G hv hu hq ?_ hlt
 rw[<-YG1,<-YG1]at hf
 generalize u*eA=a at*
 generalize v*x=b at*
 omega
theorem Yt5{q r:Nat}(hq:0<q)(hr:r<q)(h:eAll q)(hg:YHa r q=1){u v:Nat}(hv0:0<v)(hu:u<=eU)(hlt:2^r*v^q<u^q):2^q*(2^r*v^q)^eG<=(u^q)^eG:=by
 have hvu:v<u:=by
  have h1:v^q<u^q:=YGN (Nat.le_mul_of_pos_left _ (YGO (by decide))) hlt
  exact(Nat.pow_lt_pow_iff_left (by omega)).1 h1
 have hv:v<=eV:=by have:=eUV;omega
 rcases h r hr hg with rfl|hf
 ·rw[Nat.gcd_zero_left]at hg
  subst hg
  have h1:=YrX hv hvu
  have h2:2^0*v^1*(eG+1)^1<=u^1*eG^1:=by rw[YHA,YGW,YHr,YHr,YHr,YHr];exact h1
  exact Yi6 Ykq h2
 ·exact Yi6 Ykq (Yyg hq hf hv0 hv hu hlt)
theorem Yt8{q r:Nat}(hq:0<q)(hr:r<q)(h:∀e,e∣q->eAll e){u v:Nat}(hv0:0<v)(hu:u<=eU)(hlt:2^r*v^q<u^q):2^q*(2^r*v^q)^eG<=(u^q)^eG:=by
 obtain⟨g,hgd⟩:∃g,g=YHa r q:=⟨_,rfl⟩
 have hg0:0<g:=by rw[hgd];exact Nat.gcd_pos_of_pos_right _ hq
 obtain⟨r1,hr1⟩:g∣r:=by rw[hgd];exact Nat.gcd_dvd_left _ _
 obtain⟨q1,hq1⟩:g∣q:=by rw[hgd];exact Nat.gcd_dvd_right _ _
 have hc:YHa r1 q1=1:=by
  have e:=hgd
  rw[hr1,hq1,Nat.gcd_mul_left]at e
  exact Nat.eq_of_mul_eq_mul_left hg0 (by omega)
 have hq0:0<q1:=by
  rcases YGI q1 with e|e
  ·rw[e]at hq1;omega
  ·exact e
 have hr2:r1<q1:=by
  rw[hr1,hq1]at hr
  exact Nat.lt_of_mul_lt_mul_left hr
 have e1:∀w:Nat,w^q=(w^q1)^g:=fun w=>by rw[hq1,YGj,YGn]
 have e2:2^r=(2^r1)^g:=by rw[hr1,YGj,YGn]
 rw[e1 u,e1 v,e2,<-YGw]at hlt
 have hlt':=(Nat.pow_lt_pow_iff_left (by omega)).1 hlt
 have hk:=Yt5 hq0 hr2 (h q1 ⟨g,by rw[hq1,YGj]⟩) hc hv0 hu hlt'
 have hk2:=YGp hk g
 rw[e1 u,e1 v,e2,<-YGw]
 have sw:∀w:Nat,(w^eG)^g=(w^g)^eG:=fun w=>by rw[<-YGn,<-YGn,YGj]
 have e3:(2^q1)^g=2^q:=by rw[<-YGn,YGj,<-hq1]
 rw[YGw,sw,sw,e3]at hk2
 exact hk2
theorem sep_L2{d q n m k:Nat}(hq:0<q)(ht:∀e,e∣q->eAll e)(hk:1<=k)(hm:m^d<=eU)(hlt:2^n*k^(d*q)<m^(d*q)):2^q*(2^n*k^(d*q))^eG<=(m^(d*q))^eG:=by
 have e1:m^(d*q)=(m^d)^q:=YGn _ _ _
 have e2:2^n*k^(d*q)=2^(n%q)*(2^(n/q)*k^d)^q:=by
  rw[YGw,<-YGn,<-YGn,<-YGm,<-YGo,YGj (n/q) q,Nat.mod_add_div]
 rw[e1,e2]at hlt⊢
 exact Yt8 hq (YGJ _ hq) ht (YHd (YGO (by decide)) (YGO hk)) hm hlt
theorem sep_den2{L q n num den m k G:Nat}(hL:0<L)(hden:0<den)(hE:num*L=n*den)(hlt:2^num*k^den<m^den)(hsep:2^n*k^L<m^L->2^q*(2^n*k^L)^G<=(m^L)^G):
 2^(q*den)*(2^num*k^den)^(G*L)<=(m^den)^(G*L):=by
 have eY:(m^den)^L=(m^L)^den:=by rw[<-YGn,<-YGn,YGj]
 have eX:(2^num*k^den)^L=(2^n*k^L)^den:=by
  rw[YGw,YGw,<-YGn,<-YGn,<-YGn,<-YGn,hE,YGj den L]
 have h1:=Nat.pow_lt_pow_left hlt (show L≠0 by omega)
 rw[eY,eX]at h1
 have h2:=hsep ((Nat.pow_lt_pow_iff_left (by omega)).1 h1)
 have h3:=YGp h2 den
 have e3:∀w:Nat,(w^G)^den=(w^den)^G:=fun w=>by rw[<-YGn,<-YGn,YGj]
 rw[YGw,<-YGn,e3,e3,<-eY,<-eX,<-YGn _ L G,<-YGn _ L G,YGj L G]at h3
 exact h3
end Go.Proofs.YtmiclogmkfobgaaGreat.LB
namespace Go.Proofs.YtmiclogmkfobgaaGreat
open Go Go.Vx
def cdiv(x d:Nat):Nat:=if x/d*d<x then x/d+1 else x/d
theorem Ybm(x d:Nat)(hd:0<d):x<=cdiv x d*d:=by
 have h:=YGP x d
 have h2:=YGJ x hd
 rw[YGj]at h
 unfold cdiv
 split
 ·rw[YGG,YGW];omega
 ·omega
theorem Yay{x d k:Nat}(h:x<=k*d):cdiv x d<=k:=by
 unfold cdiv
 rcases YGI d with h0|h0
 ·subst h0
  simp only[Nat.mul_zero,Nat.div_zero]at*
  split <;> omega
 split
 ·rename_i h1
  rw[Nat.lt_iff_add_one_le]at*
  refine Nat.lt_of_mul_lt_mul_right (a:=d) ?_
  omega
 ·exact Nat.div_le_of_le_mul (by rw[YGj];exact h)
theorem Yrq(x d:Nat):x/d<=cdiv x d:=by
 unfold cdiv
 split <;> omega
theorem YdI{x y d:Nat}(h:x<=y):x/d<=cdiv y d:=YGg (Nat.div_le_div_right h) (Yrq y d)
theorem Yqm{x d:Nat}(hd:0<d):cdiv (cdiv x d) 2=cdiv x (d*2):=by
 refine Nat.le_antisymm (Yay (Yay ?_)) (Yay ?_)
 ·have:=Ybm x (d*2) (by omega)
  rw[YGm,YGj 2 d];exact this
 ·have h1:=Ybm x d hd
  have h2:=YGf d (Ybm (cdiv x d) 2 (by decide))
  rw[YGj d 2,<-YGm];omega
def gl(M:Nat)(t:Bool):Nat->Nat->Nat->Nat->Nat×Nat
 |0,_,_,S=>(S,S+1)
 |f+1,A,B,S=>
  if A*A/M<2*M then
   if cdiv (B*B) M<2*M then gl M t f (A*A/M) (cdiv (B*B) M) (2*S)
   else(S*2^(f+1),(S+1)*2^(f+1))
  else
   if(t&&decide (2*M<=cdiv (cdiv (B*B) M) 2))=true then(S*2^(f+1),(S+1)*2^(f+1))
   else gl M t f (A*A/M/2) (cdiv (cdiv (B*B) M) 2) (2*S+1)
theorem YfT(M:Nat)(t:Bool):∀(f A B S:Nat),S*2^f<=(gl M t f A B S).1/\(gl M t f A B S).2<=(S+1)*2^f
 |0,A,B,S=>by simp [gl]
 |f+1,A,B,S=>by
  have e1:∀x,x*2^(f+1)=x*2*2^f:=fun x=>by rw[YGt,YGm,YGj 2 (2^f)]
  have m:∀x y,x<=y->x*2^f<=y*2^f:=fun x y h=>YGf _ h
  rw[gl]
  split
  ·split
   ·obtain⟨h1,h2⟩:=YfT M t f (A*A/M) (cdiv (B*B) M) (2*S)
    rw[e1,e1]
    exact⟨YGg (m _ _ (by omega)) h1,YGg h2 (m _ _ (by omega))⟩
   ·exact⟨YGr _,YGr _⟩
  ·split
   ·exact⟨YGr _,YGr _⟩
   ·obtain⟨h1,h2⟩:=YfT M t f (A*A/M/2) (cdiv (cdiv (B*B) M) 2) (2*S+1)
    rw[e1,e1]
    exact⟨YGg (m _ _ (by omega)) h1,YGg h2 (m _ _ (by omega))⟩
theorem Yws{P A N M A1:Nat}(hM:0<M)(h:P*A<=N*M)(h1:A1*M<=A*A):P*P*A1<=N*N*M:=by
 refine YGq (c:=M) ?_ hM
 have k1:P*P*(A1*M)<=P*P*(A*A):=YGk _ h1
 have k2:(P*A)*(P*A)<=(N*M)*(N*M):=YGB h h
 have e1:P*P*A1*M=P*P*(A1*M):=YGm ..
 have e2:P*P*(A*A)=(P*A)*(P*A):=by simp only[YGm,YG5]
 have e3:(N*M)*(N*M)=N*N*M*M:=by simp only[YGm,YG5]
 omega
theorem YsK{P B N M B1:Nat}(hM:0<M)(h:N*M<=P*B)(h1:B*B<=B1*M):N*N*M<=P*P*B1:=by
 refine YGq (c:=M) ?_ hM
 have k1:P*P*(B*B)<=P*P*(B1*M):=YGk _ h1
 have k2:(N*M)*(N*M)<=(P*B)*(P*B):=YGB h h
 have e1:P*P*B1*M=P*P*(B1*M):=YGm ..
 have e2:P*P*(B*B)=(P*B)*(P*B):=by simp only[YGm,YG5]
 have e3:(N*M)*(N*M)=N*N*M*M:=by simp only[YGm,YG5]
 omega
theorem Yds(S:Nat):2^(2*S)=2^S*2^S:=by rw[<-YGo];congr 1;omega
theorem Yr3(N f:Nat):N^(2^(f+1))=(N*N)^(2^f):=by
 rw[YGt,YGj (2^f) 2,YGn,Nat.pow_two]
theorem Yi8(M:Nat)(t:Bool)(hM:0<M):∀(f A B S N:Nat),2^S*A<=N*M->N*M<=2^S*B->M<=A->B<=2*M->2^(gl M t f A B S).1<=N^(2^f)/\N^(2^f)<=2^(gl M t f A B S).2:=by
 have stop:∀(f A B S N:Nat),2^S*A<=N*M->N*M<=2^S*B->M<=A->B<=2*M->2^S<=N/\N<=2^(S+1):=by
  intro f A B S N h1 h2 ha hb
  constructor
  ·refine YGq (c:=M) ?_ hM
   have:=YGk (2^S) ha
   omega
  ·refine YGq (c:=M) ?_ hM
   have:=YGk (2^S) hb
   rw[YGt,YGm]
   omega
 have stop2:∀(f S N:Nat),2^S<=N/\N<=2^(S+1)->2^(S*2^f)<=N^(2^f)/\N^(2^f)<=2^((S+1)*2^f):=fun f S N h=>by
  rw[YGn,YGn]
  exact⟨YGp h.1 _,YGp h.2 _⟩
 intro f
 induction f with
 |zero=>
  intro A B S N h1 h2 ha hb
  have:=stop 0 A B S N h1 h2 ha hb
  simpa [gl]using this
 |succ f ih=>
  intro A B S N h1 h2 ha hb
  have hs:=stop2 (f+1) S N (stop f A B S N h1 h2 ha hb)
  have hA:A*A/M*M<=A*A:=Nat.div_mul_le_self _ _
  have hB:B*B<=cdiv (B*B) M*M:=Ybm _ _ hM
  have k1:=Yws hM h1 hA
  have k2:=YsK hM h2 hB
  have hA1:M<=A*A/M:=(YG9 hM).2 (YGB ha ha)
  have hB1:cdiv (B*B) M<=4*M:=Yay (by
   have:=YGB hb hb
   have e:4*M*M=2*M*(2*M):=by rw[Nat.mul_mul_mul_comm,YGm]
   omega)
  rw[gl,Yr3]
  rw[Yr3]at hs
  split
  ·split
   ·refine ih _ _ _ _ ?_ ?_ hA1 (by omega)
    ·rw[Yds];exact k1
    ·rw[Yds];exact k2
   ·exact hs
  ·rename_i hge
   split
   ·exact hs
   ·have hB2:cdiv (B*B) M<=cdiv (cdiv (B*B) M) 2*2:=Ybm _ _ (by decide)
    have hA2:A*A/M/2*2<=A*A/M:=Nat.div_mul_le_self _ _
    have e3:∀x,2^(2*S+1)*x=2^S*2^S*(x*2):=fun x=>by rw[YGt,Yds,YGm,YGj 2 x]
    refine ih _ _ _ _ ?_ ?_ (by omega) (Yay (by omega))
    ·rw[e3]
     exact YGg (YGk _ hA2) k1
    ·rw[e3]
     exact YGg k2 (YGk _ hB2)
theorem Yq2(M E:Nat)(t:Bool)(hM:0<M)(hE:0<E)(g:Nat):∀(f A B S A' B':Nat),E*A<=A'->A'<=B'->B'<=E*B->
 (gl M t f A B S).1*2^g<=(gl (M*E) false (f+g) A' B' S).1/\(gl (M*E) false (f+g) A' B' S).2<=(gl M t f A B S).2*2^g:=by
 intro f
 induction f with
 |zero=>
  intro A B S A' B' _ _ _
  have:=YfT (M*E) false (0+g) A' B' S
  simpa [gl]using this
 |succ f ih=>
  intro A B S A' B' ha hab hb
  have stop:S*2^(f+1)*2^g<=(gl (M*E) false (f+1+g) A' B' S).1/\(gl (M*E) false (f+1+g) A' B' S).2<=(S+1)*2^(f+1)*2^g:=by
   have:=YfT (M*E) false (f+1+g) A' B' S
   rw[YGm,YGm,<-YGo]
   exact this
  have hME:0<M*E:=YHd hM hE
  have q1:E*(A*A/M)<=A'*A'/(M*E):=by
   rw[YG9 hME]
   have h1:A*A/M*M<=A*A:=Nat.div_mul_le_self _ _
   have h2:=YGk (E*E) h1
   have h3:=YGB ha ha
   have e1:E*(A*A/M)*(M*E)=E*E*(A*A/M*M):=by simp only[YGm,YG5,YGj]
   have e2:E*A*(E*A)=E*E*(A*A):=by simp only[YGm,YG5,YGj]
   omega
  have q2:cdiv (B'*B') (M*E)<=E*cdiv (B*B) M:=Yay (by
   have h1:B*B<=cdiv (B*B) M*M:=Ybm _ _ hM
   have h2:=YGk (E*E) h1
   have h3:=YGB hb hb
   have e1:E*cdiv (B*B) M*(M*E)=E*E*(cdiv (B*B) M*M):=by simp only[YGm,YG5,YGj]
   have e2:E*B*(E*B)=E*E*(B*B):=by simp only[YGm,YG5,YGj]
   omega)
  have q3:A'*A'/(M*E)<=cdiv (B'*B') (M*E):=YdI (YGB hab hab)
  have e2M:2*(M*E)=E*(2*M):=by rw[<-YGm,YGj]
  by_cases c1:A*A/M<2*M
  ·by_cases c2:cdiv (B*B) M<2*M
   ·have d2:cdiv (B'*B') (M*E)<2*(M*E):=by
     rw[e2M]
     exact YGN q2 (Nat.mul_lt_mul_of_pos_left c2 hE)
    have d1:A'*A'/(M*E)<2*(M*E):=by omega
    rw[show f+1+g=(f+g)+1 by omega,gl,if_pos c1,if_pos c2,gl,if_pos d1,if_pos d2]
    exact ih _ _ _ _ _ q1 q3 q2
   ·rw[gl.eq_def M t (f+1)]
    simp only
    rw[if_pos c1,if_neg c2]
    exact stop
  ·have d1:¬A'*A'/(M*E)<2*(M*E):=by
    have:E*(2*M)<=E*(A*A/M):=YGk _ (by omega)
    omega
   by_cases c2:(t&&decide (2*M<=cdiv (cdiv (B*B) M) 2))=true
   ·rw[gl.eq_def M t (f+1)]
    simp only
    rw[if_neg c1,if_pos c2]
    exact stop
   ·rw[show f+1+g=(f+g)+1 by omega,gl,if_neg c1,if_neg c2,gl,if_neg d1,if_neg (by simp)]
    refine ih _ _ _ _ _ ?_ (YdI q3) (Yay ?_)
    ·rw[YG9 (by decide)]
     have h1:A*A/M/2*2<=A*A/M:=Nat.div_mul_le_self _ _
     have h2:=YGk E h1
     rw[YGm];omega
    ·have h1:cdiv (B*B) M<=cdiv (cdiv (B*B) M) 2*2:=Ybm _ _ (by decide)
     have h2:=YGk E h1
     rw[YGm];omega
theorem YgY(a:Nat):hiW (a:Int)=((a*a/18446744073709551616:Nat):Int):=by
 show(a:Int)*a/18446744073709551616=_
 rw[Int.natCast_ediv,YG1];rfl
theorem YlR(a:Nat):loW (a:Int)=((a*a%18446744073709551616:Nat):Int):=by
 show(a:Int)*a%18446744073709551616=_
 rw[Int.natCast_emod,YG1];rfl
theorem YjI(x:Nat):sr63 (x:Int)=((x/9223372036854775808:Nat):Int):=YbL (s:=63) (by decide)
theorem Yl9(x:Nat):sl1 (x:Int)=((x*2%18446744073709551616:Nat):Int):=by
 show IntKind.u64.wrap ((x:Int)*2^min (YHE 1) 64)=_
 rw[show(2:Int)^min (YHE 1) 64=2 from rfl,Ymi,Int.natCast_emod,YG1];rfl
theorem YxO{M x:Nat}(hM:0<M):x/(2*M)*2+x%(2*M)/M=x/M:=by
 have e1:x/(2*M)=x/M/2:=by rw[YGj,YGv]
 have e2:x%(2*M)/M=x/M%2:=by
  rw[YGj,Nat.mod_mul_right_div_self]
 rw[e1,e2];omega
theorem Yv7{h b:Nat}(hb:b<2):(h*2||| b)=h*2+b:=by
 have:=Nat.two_pow_add_eq_or_of_lt (i:=1) (b:=b) (by simpa using hb) h
 rw[YHr]at this
 rw[YGj h 2,this]
theorem Ym9{a:Nat}(ha:a*a<18446744073709551616*9223372036854775808):dblW (hiW (a:Int)) (loW (a:Int))=((a*a/9223372036854775808:Nat):Int):=by
 show bitI .or .u64 (sl1 (hiW (a:Int))) (sr63 (loW (a:Int)))=_
 rw[YgY,YlR,Yl9,YjI]
 generalize a*a=x at*
 have h1:x/18446744073709551616<9223372036854775808:=Nat.div_lt_of_lt_mul ha
 have h2:x%18446744073709551616/9223372036854775808<2:=Nat.div_lt_of_lt_mul (YGJ _ (by decide))
 have h3:=YxO (M:=9223372036854775808) (x:=x) (by decide)
 rw[show 2*9223372036854775808=18446744073709551616 from rfl]at h3
 generalize x/18446744073709551616=h at*
 generalize x%18446744073709551616/9223372036854775808=l at*
 rw[YG3 (by omega),Yub (by omega) (by omega),Yv7 h2,h3]
theorem YhR{x d:Nat}(hd:0<d)(h:x%d=0):cdiv x d=x/d:=by
 unfold cdiv
 rw[if_neg]
 have:=YGP x d
 rw[YGj]at this
 omega
theorem Ykg{x d:Nat}(hd:0<d)(h:x%d≠0):cdiv x d=x/d+1:=by
 unfold cdiv
 rw[if_pos]
 have:=YGP x d
 rw[YGj]at this
 omega
theorem YuQ{x M:Nat}(hM:0<M):x%(2*M)*2%(2*M)=x%M*2:=by
 have e:x%(2*M)%M=x%M:=Nat.mod_mul_left_mod ..
 rw[<-e]
 generalize x%(2*M)=y at*
 rw[YGj y 2,Nat.mul_mod_mul_left,YGj]
theorem YsF(b:Nat):(0<sl1 (loW (b:Int)))↔b*b%9223372036854775808≠0:=by
 rw[YlR,Yl9]
 have h:=YuQ (x:=b*b) (M:=9223372036854775808) (by decide)
 rw[show 2*9223372036854775808=18446744073709551616 from rfl]at h
 rw[h]
 omega
theorem YEI{z:Nat}(h:z<18446744073709551616):(IntKind.u64.wrap ((z:Int)+1)=0↔z+1=18446744073709551616)/\(z+1<18446744073709551616->IntKind.u64.wrap ((z:Int)+1)=((z+1:Nat):Int)):=by
 rw[Ymi]
 constructor <;> omega
theorem bitS{S b:Nat}(hS:S<9223372036854775808)(hb:b<2):bitI .or .u64 (sl1 (S:Int)) ((b:Nat):Int)=((2*S+b:Nat):Int):=by
 rw[Yl9,YG3 (by omega),Yub (by omega) (by omega),Yv7 hb,YGj]
theorem YjE{S f:Nat}(hf:f<=64)(h:S*2^f<18446744073709551616):shW (S:Int) f=((S*2^f:Nat):Int):=YfH hf h
theorem uS{S:Nat}(hS:S<18446744073709551615):IntKind.u64.wrap ((S:Int)+1)=((S+1:Nat):Int):=by rw[YGF _ (by omega)];rfl
def Yql(p:Nat×Nat):Int×Int:=((p.1:Int),(p.2:Int))
theorem Ysj:∀(f S a b:Nat),f<=28->S<2^(34-f)->9223372036854775808<=a->a<=b->b<18446744073709551616->
 YaO f (S:Int) (a:Int) (b:Int)=Yql (gl 9223372036854775808 true f a b S):=by
 intro f
 induction f with
 |zero=>
  intro S a b _ hS _ _ _
  rw[show(2:Nat)^(34-0)=17179869184 from rfl]at hS
  rw[YaO,gl,Yql,uS (by omega)]
 |succ f ih=>
  intro S a b hf hS ha hab hb
  have e34:(2:Nat)^(34-f)=2*2^(34-(f+1)):=by rw[show 34-f=34-(f+1)+1 by omega,YGt,YGj]
  have hS2:S<17179869184:=YGV hS (by rw[show 17179869184=2^34 from rfl];exact YGs (by decide) (by omega))
  have stop:(shW (S:Int) (f+1),shW (IntKind.u64.wrap ((S:Int)+1)) (f+1))=Yql (S*2^(f+1),(S+1)*2^(f+1)):=by
   have hp:(2:Nat)^(34-(f+1))*2^(f+1)=17179869184:=by rw[<-YGo,show 34-(f+1)+(f+1)=34 by omega]
   have h1:S*2^(f+1)<=2^(34-(f+1))*2^(f+1):=YGf _ (YHn hS)
   have h2:(S+1)*2^(f+1)<=2^(34-(f+1))*2^(f+1):=YGf _ hS
   rw[uS (by omega),YjE (by omega) (by omega),YjE (by omega) (by omega)];rfl
  have haa:9223372036854775808*9223372036854775808<=a*a:=YGB ha ha
  have hbb:b*b<18446744073709551616*18446744073709551616:=Nat.mul_lt_mul_of_lt_of_le hb (YHn hb) (by decide)
  have hab2:a*a<=b*b:=YGB hab hab
  have kA:sr63 (hiW (a:Int))=((a*a/170141183460469231731687303715884105728:Nat):Int):=by rw[YgY,YjI,YGv]
  have kB:sr63 (hiW (b:Int))=((b*b/170141183460469231731687303715884105728:Nat):Int):=by rw[YgY,YjI,YGv]
  have hS0:=bitS (S:=S) (b:=0) (by omega) (by decide)
  have hS1:=bitS (S:=S) (b:=1) (by omega) (by decide)
  have eb:IntKind.u64.wrap (dblW (hiW (b:Int)) (loW (b:Int))+1)=IntKind.u64.wrap (dblW (hiW (b:Int)) (loW (b:Int))+1):=rfl
  rw[YaO,gl,kA,kB]
  by_cases c1:a*a<170141183460469231731687303715884105728
  ·have z1:a*a/170141183460469231731687303715884105728=0:=YHo c1
   have c1':a*a/9223372036854775808<2*9223372036854775808:=Nat.div_lt_of_lt_mul c1
   have la:9223372036854775808<=a*a/9223372036854775808:=(YG9 (by decide)).2 haa
   rw[if_pos c1',z1,if_pos (by rfl),Ym9 c1,hS0]
   by_cases c2:b*b<170141183460469231731687303715884105728
   ·have z2:b*b/170141183460469231731687303715884105728=0:=YHo c2
    have c2':b*b/9223372036854775808<18446744073709551616:=Nat.div_lt_of_lt_mul c2
    have hq:a*a/9223372036854775808<=b*b/9223372036854775808:=Nat.div_le_div_right hab2
    rw[z2,Ym9 c2]
    obtain⟨u1,u2⟩:=YEI c2'
    by_cases c3:b*b%9223372036854775808≠0
    ·rw[if_pos ((YsF b).2 c3),Ykg (by decide) c3]
     by_cases c4:b*b/9223372036854775808+1=18446744073709551616
     ·rw[if_pos (by rw[decide_eq_true (u1.2 c4)];simp),if_neg (by omega)]
      exact stop
     ·rw[if_neg (by rw[decide_eq_false (fun h=>c4 (u1.1 h))];simp),if_pos (by omega),u2 (by omega)]
      exact ih _ _ _ (by omega) (by omega) la (by omega) (by omega)
    ·rw[if_neg (fun h=>c3 ((YsF b).1 h)),YhR (by decide) (by omega)]
     rw[if_neg (by rw[decide_eq_false (show¬((b*b/9223372036854775808:Nat):Int)=0 by omega)];simp),if_pos (by omega)]
     exact ih _ _ _ (by omega) (by omega) la (by omega) (by omega)
   ·have hz2:1<=b*b/170141183460469231731687303715884105728:=(YG9 (by decide)).2 (by omega)
    have hc:¬cdiv (b*b) 9223372036854775808<2*9223372036854775808:=by
     have h1:=Yrq (b*b) 9223372036854775808
     have h2:2*9223372036854775808<=b*b/9223372036854775808:=(YG9 (by decide)).2 (by omega)
     omega
    have hk:(!decide (((0:Nat):Int)=((b*b/170141183460469231731687303715884105728:Nat):Int)))=true:=by
     rw[decide_eq_false (by omega)];rfl
    rw[if_neg hc,hk]
    simp only[Bool.true_or,if_true,ite_self]
    exact stop
  ·have e1:a*a/170141183460469231731687303715884105728=1:=by
    have h1:1<=a*a/170141183460469231731687303715884105728:=(YG9 (by decide)).2 (by omega)
    have h2:a*a/170141183460469231731687303715884105728<2:=Nat.div_lt_of_lt_mul (by omega)
    omega
   have e2:b*b/170141183460469231731687303715884105728=1:=by
    have h1:1<=b*b/170141183460469231731687303715884105728:=(YG9 (by decide)).2 (by omega)
    have h2:b*b/170141183460469231731687303715884105728<2:=Nat.div_lt_of_lt_mul (by omega)
    omega
   have c1':¬a*a/9223372036854775808<2*9223372036854775808:=by
    have h2:2*9223372036854775808<=a*a/9223372036854775808:=(YG9 (by decide)).2 (by omega)
    omega
   have ea:a*a/9223372036854775808/2=a*a/18446744073709551616:=by rw[YGv]
   have hal:9223372036854775808<=a*a/18446744073709551616:=(YG9 (by decide)).2 (by omega)
   have hbl:9223372036854775808<=b*b/18446744073709551616:=(YG9 (by decide)).2 (by omega)
   have hq:a*a/18446744073709551616<=b*b/18446744073709551616:=Nat.div_le_div_right hab2
   have hbu:b*b/18446744073709551616<18446744073709551616:=Nat.div_lt_of_lt_mul hbb
   rw[if_neg c1',e1,e2,if_neg (by decide),hS1,ea,Yqm (by decide),show 9223372036854775808*2=18446744073709551616 from rfl,YgY,YgY,YlR]
   obtain⟨u1,u2⟩:=YEI hbu
   by_cases c3:b*b%18446744073709551616≠0
   ·rw[if_pos (by omega),Ykg (by decide) c3]
    by_cases c4:b*b/18446744073709551616+1=18446744073709551616
    ·rw[if_pos (by rw[decide_eq_true (u1.2 c4)];simp),if_pos (by rw[decide_eq_true (show 18446744073709551616<=b*b/18446744073709551616+1 by omega)];rfl)]
     exact stop
    ·rw[if_neg (by rw[decide_eq_false (fun h=>c4 (u1.1 h))];simp),if_neg (by rw[decide_eq_false (show¬18446744073709551616<=b*b/18446744073709551616+1 by omega)];simp),u2 (by omega)]
     exact ih _ _ _ (by omega) (by omega) hal (by omega) (by omega)
   ·rw[if_neg (by omega),YhR (by decide) (by omega)]
    rw[if_neg (by rw[decide_eq_false (show¬((b*b/18446744073709551616:Nat):Int)=0 by omega)];simp),if_neg (by rw[decide_eq_false (show¬18446744073709551616<=b*b/18446744073709551616 by omega)];simp)]
    exact ih _ _ _ (by omega) (by omega) hal (by omega) (by omega)
def lgK(n:Nat):Nat:=Yo n-1
theorem Yny{n:Nat}(h:1<=n):2^lgK n<=n/\n<2^(lgK n+1):=by
 have h0:Yo n≠0:=fun e=>by have:=bitsN_eq0.1 e;omega
 unfold lgK
 constructor
 ·refine YHy fun hh=>?_
  have:=bitsN_le.2 hh
  omega
 ·rw[show Yo n-1+1=Yo n by omega];exact YcE n
theorem Ydj{n m:Nat}(hm:0<m)(h:n<2^m):lgK n<m:=by
 have:=bitsN_le.2 h
 unfold lgK;omega
theorem Ynu{n:Nat}(h1:1<=n)(h2:n<4611686018427387904):YbN (n:Int)=true->n=2^lgK n:=by
 intro h
 unfold YbN at h
 have h:=of_decide_eq_true h
 have e:IntKind.i64.wrap ((n:Int)-1)=((n-1:Nat):Int):=by rw[YGd _ (by omega)];omega
 rw[e]at h
 have h3:IntKind.i64.wrap ((BitVec.ofInt 64 (n:Int)&&&BitVec.ofInt 64 ((n-1:Nat):Int)).toNat:Int)=0:=h
 rw[BitVec.toNat_and,Ycq (by omega),Ycq (by omega)]at h3
 have hle:n&&&(n-1)<=n:=Nat.and_le_left
 rw[YGd _ (by omega)]at h3
 have h4:n&&&(n-1)=0:=by omega
 obtain⟨b1,b2⟩:=Yny h1
 refine Nat.le_antisymm (YHy fun hh=>?_) b1
 have t1:n.testBit (lgK n)=true:=by
  rw[Nat.testBit_eq_decide_div_mod_eq]
  have:n/2^lgK n=1:=by
   have g1:1<=n/2^lgK n:=(YG9 (YGO (by decide))).2 (by omega)
   have g2:n/2^lgK n<2:=Nat.div_lt_of_lt_mul (by rw[<-YGt];exact b2)
   omega
  rw[this];rfl
 have t2:(n-1).testBit (lgK n)=true:=by
  rw[Nat.testBit_eq_decide_div_mod_eq]
  have:(n-1)/2^lgK n=1:=by
   have g1:1<=(n-1)/2^lgK n:=(YG9 (YGO (by decide))).2 (by omega)
   have g2:(n-1)/2^lgK n<2:=Nat.div_lt_of_lt_mul (by rw[<-YGt];omega)
   omega
  rw[this];rfl
 have t3:(n&&&(n-1)).testBit (lgK n)=true:=by rw[Nat.testBit_and,t1,t2];rfl
 rw[h4,Nat.zero_testBit]at t3
 cases t3
def qN(n:Nat):Nat×Nat:=if YbN (n:Int)=true then(lgK n*2^28,lgK n*2^28)else gl 9223372036854775808 true 28 (n*2^(63-lgK n)) (n*2^(63-lgK n)) (lgK n)
def lN(n p:Nat):Nat×Nat:=if YbN (n:Int)=true then(lgK n*2^p,lgK n*2^p)else gl (2^(2*p+64)) false p (n*2^(2*p+64-lgK n)) (n*2^(2*p+64-lgK n)) (lgK n)
theorem mant{n D:Nat}(h1:1<=n)(hD:lgK n<=D):2^D<=n*2^(D-lgK n)/\n*2^(D-lgK n)<2*2^D/\2^lgK n*(n*2^(D-lgK n))=n*2^D:=by
 obtain⟨b1,b2⟩:=Yny h1
 have e:2^D=2^lgK n*2^(D-lgK n):=by rw[<-YGo];congr 1;omega
 refine⟨?_,?_,?_⟩
 ·rw[e];exact YGf _ b1
 ·rw[e,<-YGm,<-Nat.pow_succ']
  exact Nat.mul_lt_mul_of_pos_right b2 (YGO (by decide))
 ·rw[e,YG5]
theorem Ysi{n:Nat}(h1:1<=n)(h2:n<4611686018427387904):Ya4 (n:Int)=Yql (qN n):=by
 have hk:lgK n<62:=Ydj (by decide) h2
 unfold Ya4 qN
 rw[YGb]
 by_cases c:YbN (n:Int)=true
 ·rw[if_pos c,if_pos c]
  have e:shW ((Yo n-1:Nat):Int) 28=((lgK n*2^28:Nat):Int):=YjE (by decide) (by show lgK n*268435456<_;omega)
  have e:IntKind.u64.wrap (((Yo n-1:Nat):Int)*2^min (YHE 28) 64)=((lgK n*2^28:Nat):Int):=e
  rw[e];rfl
 ·rw[if_neg c,if_neg c]
  obtain⟨m1,m2,m3⟩:=mant (D:=63) h1 (by omega)
  have e:shW (n:Int) (63-(Yo n-1))=((n*2^(63-lgK n):Nat):Int):=YjE (by omega) (YGV m2 (by decide))
  rw[e]
  exact Ysj 28 (lgK n) _ _ (by decide) (by rw[show(2:Nat)^(34-28)=64 from rfl];omega) m1 (YGr _) m2
theorem YyI{e k:Nat}(h:e<=32*k):2^e<=4294967296^k:=by
 rw[Ycs]
 exact YGs (by decide) h
theorem YCh{x e k:Nat}(h:x<2^e)(he:e<=32*k):nl x<=k:=nl_le.2 (YGV h (YyI he))
theorem YgH{x e:Nat}(h:x<2^e)(he:e<=32*512):capF x=x:=by
 unfold capF
 rw[if_pos]
 exact YCh (k:=512) h he
theorem Yn3(a d:Nat)(hd:0<d):shF a (-(d:Int))=a/2^d:=by
 unfold shF
 rw[if_pos (by omega),show(- -(d:Int)).toNat=d by omega]
theorem Ywo(a d:Nat):shF a (d:Int)=a*2^d:=by
 unfold shF
 rw[if_neg (by omega),YGb]
theorem Yh6{a d e:Nat}(h:a*2^d<2^e)(he:e<=32*512):movW a (d:Int) false=a*2^d:=by
 unfold movW
 rw[YHp,if_neg (by decide),Ywo,YgH h he]
theorem Yv2{a d e:Nat}(hd:0<d)(h:a<2^e)(he:e<=32*512):movW a (-(d:Int)) false=a/2^d:=by
 unfold movW
 rw[YHp,if_neg (by decide),Yn3 _ _ hd,YgH (YGN (YHm _ _) h) he]
theorem YnB{a d e:Nat}(hd:0<d)(h:a<2^e)(he:e+1<=32*512):movW a (-(d:Int)) true=cdiv a (2^d):=by
 have h1:a/2^d<2^e:=YGN (YHm _ _) h
 have h2:a/2^d*2^d<2^e:=YGN (Nat.div_mul_le_self _ _) h
 unfold movW cdiv
 rw[YHq,Yn3 _ _ hd,YgH h1 (by omega),Int.neg_neg,Ywo,YgH h2 (by omega)]
 by_cases c:a/2^d*2^d<a
 ·rw[if_pos (decide_eq_true c),if_pos c]
  exact YgH (e:=e+1) (by rw[YGt];omega) he
 ·rw[if_neg (by rw[decide_eq_false c];decide),if_neg c]
theorem Ygz{a b e:Nat}(h:a+b<2^e)(he:e<=32*512):addW a b=a+b:=YgH h he
theorem Yh7{a b e:Nat}(h:a*b<2^e)(he:e<=32*512):mulW a b=a*b:=YgH h he
theorem YyR{D:Nat}(hD0:64<=D)(hD:D<=4200):∀(f a b S q:Nat),a<=b->b<=2*2^D->S<2^(q-f)->f<=q->q<=4200->
 logL (2*2^D) (D:Int) f a b S=gl (2^D) false f a b S:=by
 intro f
 induction f with
 |zero=>
  intro a b S q _ _ hS _ hq
  rw[logL,gl,Ygz (e:=q+1) (by
   have:=Nat.one_le_two_pow (n:=q)
   rw[YGt];rw[Nat.sub_zero]at hS;omega) (by omega)]
 |succ f ih=>
  intro a b S q hab hb hS hfq hq
  have hbb:b*b<=2^(2*D+2):=by
   have:=YGB hb hb
   rw[show 2*D+2=D+1+(D+1)by omega,YGo,YGt,YGj (2^D)]
   exact this
  have haa:a*a<=b*b:=YGB hab hab
  have l1:∀x,x<=2^(2*D+2)->x<2^(2*D+3):=fun x hx=>by
   have:(2:Nat)^(2*D+3)=2*2^(2*D+2):=by rw[Nat.pow_succ',]
   have:=Nat.one_le_two_pow (n:=2*D+2)
   omega
  have ea:mulW a a=a*a:=Yh7 (l1 _ (by omega)) (by omega)
  have eb:mulW b b=b*b:=Yh7 (l1 _ (by omega)) (by omega)
  have fa:movW (a*a) (-(D:Int)) false=a*a/2^D:=Yv2 (by omega) (l1 _ (by omega)) (by omega)
  have fb:movW (b*b) (-(D:Int)) true=cdiv (b*b) (2^D):=YnB (by omega) (l1 _ (by omega)) (by omega)
  have hA:a*a/2^D<=cdiv (b*b) (2^D):=YdI haa
  have hB:cdiv (b*b) (2^D)<=4*2^D:=Yay (by
   rw[show 2*D+2=2+D+D by omega,YGo,YGo]at hbb
   exact hbb)
  have hB2:cdiv (b*b) (2^D)<2^(D+3):=by
   have:(2:Nat)^(D+3)=8*2^D:=by rw[YGo,YGj]
   have:=Nat.one_le_two_pow (n:=D)
   omega
  have hq2:q-f=q-(f+1)+1:=by omega
  have hS2:2*S+1<2^(q-f):=by rw[hq2,YGt];omega
  have hqq:(2:Nat)^(q-f)<=2^q:=YGs (by decide) (by omega)
  have es1:movW S 1 false=2*S:=by
   have:=Yh6 (a:=S) (d:=1) (e:=q) (by rw[YHr];omega) (by omega)
   rw[YHr,YGj]at this
   exact this
  have es2:∀b,b<=1->addW (2*S) b=2*S+b:=fun b hb=>Ygz (e:=q) (by omega) (by omega)
  have hSf:(S+1)*2^(f+1)<=2^q:=by
   have:(2:Nat)^q=2^(q-(f+1))*2^(f+1):=by rw[<-YGo];congr 1;omega
   rw[this]
   exact YGf _ hS
  have hSf0:S*2^(f+1)<=(S+1)*2^(f+1):=YGf _ (by omega)
  have lq:∀x,x<=2^q->x<2^(q+1):=fun x hx=>by
   have:=Nat.one_le_two_pow (n:=q)
   rw[YGt];omega
  have st1:movW S ((f+1:Nat):Int) false=S*2^(f+1):=Yh6 (lq _ (by omega)) (by omega)
  have st2:movW (addW S 1) ((f+1:Nat):Int) false=(S+1)*2^(f+1):=by
   rw[Ygz (e:=q+1) (lq _ (by
    have:(2:Nat)^(q-(f+1))<=2^q:=YGs (by decide) (by omega)
    omega)) (by omega)]
   exact Yh6 (lq _ (by omega)) (by omega)
  rw[logL,gl,ea,eb,fa,fb,es1,st1,st2]
  by_cases c1:a*a/2^D<2*2^D
  ·rw[if_pos c1,if_pos c1]
   by_cases c2:cdiv (b*b) (2^D)<2*2^D
   ·rw[if_pos c2,if_pos c2,es2 0 (by omega),YHi]
    exact ih _ _ _ q hA (by omega) (by omega) (by omega) hq
   ·rw[if_neg c2,if_neg c2]
  ·have g1:movW (a*a/2^D) (-1) false=a*a/2^D/2:=by
    have:=Yv2 (a:=a*a/2^D) (d:=1) (by decide) (YGN hA hB2) (by omega)
    rw[YHr]at this
    exact this
   have g2:movW (cdiv (b*b) (2^D)) (-1) true=cdiv (cdiv (b*b) (2^D)) 2:=by
    have:=YnB (a:=cdiv (b*b) (2^D)) (d:=1) (by decide) hB2 (by omega)
    rw[YHr]at this
    exact this
   rw[if_neg c1,if_neg c1,YHp,if_neg (by decide),g1,g2,es2 1 (by omega)]
   exact ih _ _ _ q (YdI hA) (Yay (by omega)) (by omega) (by omega) hq
theorem YyP{n p:Nat}(h1:1<=n)(h2:n<4611686018427387904)(hp:p<=2048):logF (n:Int) p=lN n p:=by
 have hk:lgK n<62:=Ydj (by decide) h2
 have hk2:lgK n<2^6:=by rw[show(2:Nat)^6=64 from rfl];omega
 unfold logF lN
 rw[YGb]
 by_cases c:YbN (n:Int)=true
 ·rw[if_pos c,if_pos c]
  have e:movW (lgK n) (p:Int) false=lgK n*2^p:=Yh6 (e:=6+p) (by rw[YGo];exact Nat.mul_lt_mul_of_pos_right hk2 (YGO (by decide))) (by omega)
  show(movW (lgK n) (p:Int) false,movW (lgK n) (p:Int) false)=_
  rw[e]
 ·rw[if_neg c,if_neg c]
  obtain⟨D,hD⟩:∃D,D=2*p+64:=⟨_,rfl⟩
  rw[<-hD]
  obtain⟨m1,m2,m3⟩:=mant (D:=D) h1 (by omega)
  have hD1:2*2^D<2^(D+2):=by
   have:(2:Nat)^(D+2)=4*2^D:=by rw[YGo,YGj]
   have:=Nat.one_le_two_pow (n:=D)
   omega
  have ea:movW n ((D:Int)-((Yo n-1:Nat):Int)) false=n*2^(D-lgK n):=by
   rw[show((D:Int)-((Yo n-1:Nat):Int))=((D-lgK n:Nat):Int)by unfold lgK at hk⊢;omega]
   exact Yh6 (e:=D+2) (by omega) (by omega)
  have e2:movW 2 (D:Int) false=2*2^D:=Yh6 (e:=D+2) hD1 (by omega)
  show logL (movW 2 (D:Int) false) (D:Int) p (movW n ((D:Int)-((Yo n-1:Nat):Int)) false) (movW n ((D:Int)-((Yo n-1:Nat):Int)) false) (lgK n)=_
  rw[ea,e2]
  exact YyR (by omega) (by omega) p _ _ _ (p+6) (YGr _) (YHn m2) (by rw[show p+6-p=6 by omega];exact hk2) (by omega) (by omega)
theorem Yk0{n:Nat}(h1:1<=n)(h2:n<4611686018427387904)(c:YbN (n:Int)=true)(p:Nat):2^(lgK n*2^p)<=n^(2^p)/\n^(2^p)<=2^(lgK n*2^p):=by
 have e0:=Ynu h1 h2 c
 have e:n^(2^p)=2^(lgK n*2^p):=by
  rw[YGn,<-e0]
 rw[e];exact⟨YGr _,YGr _⟩
theorem YnQ{n:Nat}(h1:1<=n)(h2:n<4611686018427387904):2^(qN n).1<=n^(2^28)/\n^(2^28)<=2^(qN n).2:=by
 unfold qN
 by_cases c:YbN (n:Int)=true
 ·rw[if_pos c]
  exact Yk0 h1 h2 c 28
 ·rw[if_neg c]
  have hk:lgK n<62:=Ydj (by decide) h2
  obtain⟨m1,m2,m3⟩:=mant (D:=63) h1 (by omega)
  exact Yi8 _ true (by decide) 28 _ _ _ n (YGu m3) (YGu m3.symm) m1 (YHn m2)
theorem Ygm{n p:Nat}(h1:1<=n)(h2:n<4611686018427387904):2^(lN n p).1<=n^(2^p)/\n^(2^p)<=2^(lN n p).2:=by
 unfold lN
 by_cases c:YbN (n:Int)=true
 ·rw[if_pos c]
  exact Yk0 h1 h2 c p
 ·rw[if_neg c]
  have hk:lgK n<62:=Ydj (by decide) h2
  obtain⟨m1,m2,m3⟩:=mant (D:=2*p+64) h1 (by omega)
  exact Yi8 _ false (YGO (by decide)) p _ _ _ n (YGu m3) (YGu m3.symm) m1 (YHn m2)
def upS(g:Nat->Nat):List (Int×Int)->Nat
 | []=>0
 |x::l=>(if x.2<0 then 0 else g x.1.toNat*x.2.toNat)+upS g l
def dnS(g:Nat->Nat):List (Int×Int)->Nat
 | []=>0
 |x::l=>(if x.2<0 then g x.1.toNat*(-x.2).toNat else 0)+dnS g l
def upP:List (Int×Int)->Nat
 | []=>1
 |x::l=>(if x.2<0 then 1 else x.1.toNat^x.2.toNat)*upP l
def dnP:List (Int×Int)->Nat
 | []=>1
 |x::l=>(if x.2<0 then x.1.toNat^(-x.2).toNat else 1)*dnP l
theorem Ydn{x:Int×Int}(h:okT x):1<=x.1.toNat/\x.1.toNat<4611686018427387904/\x.1=(x.1.toNat:Int):=by
 obtain⟨h1,h2,h3,h4⟩:=h
 omega
theorem Ye7{K g h n e:Nat}(H:2^g<=n^K/\n^K<=2^h):2^(g*e)<=(n^e)^K/\(n^e)^K<=2^(h*e):=by
 rw[YGn,YGn,<-YGn n,YGj e K,YGn]
 exact⟨YGp H.1 _,YGp H.2 _⟩
theorem YcA{K:Nat}{g h:Nat->Nat}(H:∀n,1<=n->n<4611686018427387904->2^g n<=n^K/\n^K<=2^h n):∀(l:List (Int×Int)),(∀x,x∈l->okT x)->
 (2^upS g l<=upP l^K/\upP l^K<=2^upS h l)/\2^dnS g l<=dnP l^K/\dnP l^K<=2^dnS h l
 | [],_=>by simp [upS,upP,dnS,dnP]
 |x::l,hl=>by
  obtain⟨⟨a1,a2⟩,b1,b2⟩:=YcA H l fun y hy=>hl y (YGx _ hy)
  obtain⟨n1,n2,_⟩:=Ydn (hl x (YGy ..))
  have hx:=H _ n1 n2
  rw[upS,upS,upP,dnS,dnS,dnP,YGw,YGw,YGo,YGo,YGo,YGo]
  by_cases c:x.2<0
  ·simp only[if_pos c,YHA,Nat.one_pow,YGW]
   obtain⟨p1,p2⟩:=Ye7 (e:=(-x.2).toNat) hx
   exact⟨⟨a1,a2⟩,YGB p1 b1,YGB p2 b2⟩
  ·simp only[if_neg c,YHA,Nat.one_pow,YGW]
   obtain⟨p1,p2⟩:=Ye7 (e:=x.2.toNat) hx
   exact⟨⟨YGB p1 a1,YGB p2 a2⟩,b1,b2⟩
theorem S_le{g:Nat->Nat}{B:Nat}(H:∀n,1<=n->n<4611686018427387904->g n<=B):∀(l:List (Int×Int)),(∀x,x∈l->okT x)->upS g l<=l.length*(B*1000000000)/\dnS g l<=l.length*(B*1000000000)
 | [],_=>by simp [upS,dnS]
 |x::l,hl=>by
  obtain⟨a1,a2⟩:=S_le H l fun y hy=>hl y (YGx _ hy)
  have hx:=hl x (YGy ..)
  obtain⟨n1,n2,_⟩:=Ydn hx
  obtain⟨_,_,x3,x4⟩:=hx
  have h1:=YGB (H _ n1 n2) (show x.2.toNat<=1000000000 by omega)
  have h2:=YGB (H _ n1 n2) (show(-x.2).toNat<=1000000000 by omega)
  rw[upS,dnS,YHf,YGG,YGW]
  constructor
  ·split <;> omega
  ·split <;> omega
theorem YDC{n:Nat}(h1:1<=n)(h2:n<4611686018427387904):(qN n).1<=(qN n).2/\(qN n).2<=17179869184:=by
 have hs:=YnQ h1 h2
 have hk:lgK n<62:=Ydj (by decide) h2
 refine⟨(Nat.pow_le_pow_iff_right (by decide)).1 (YGg hs.1 hs.2),?_⟩
 unfold qN
 split
 ·show lgK n*268435456<=_;omega
 ·have:=(YfT 9223372036854775808 true 28 (n*2^(63-lgK n)) (n*2^(63-lgK n)) (lgK n)).2
  rw[show(2:Nat)^28=268435456 from rfl]at this
  omega
theorem YCS{n p:Nat}(h1:1<=n)(h2:n<4611686018427387904):(lN n p).1<=(lN n p).2/\(lN n p).2<=64*2^p:=by
 have hs:=Ygm (p:=p) h1 h2
 have hk:lgK n<62:=Ydj (by decide) h2
 refine⟨(Nat.pow_le_pow_iff_right (by decide)).1 (YGg hs.1 hs.2),?_⟩
 unfold lN
 split
 ·exact YGf _ (by omega)
 ·exact YGg (YfT _ false p _ _ (lgK n)).2 (YGf _ (by omega))
theorem Yj1{g h:Nat->Nat}(H:∀n,1<=n->n<4611686018427387904->g n<=h n):∀(l:List (Int×Int)),(∀x,x∈l->okT x)->upS g l<=upS h l/\dnS g l<=dnS h l
 | [],_=>by simp [upS,dnS]
 |x::l,hl=>by
  obtain⟨a1,a2⟩:=Yj1 H l fun y hy=>hl y (YGx _ hy)
  obtain⟨n1,n2,_⟩:=Ydn (hl x (YGy ..))
  have h1:=YGf x.2.toNat (H _ n1 n2)
  have h2:=YGf (-x.2).toNat (H _ n1 n2)
  rw[upS,dnS,upS,dnS]
  constructor
  ·split <;> omega
  ·split <;> omega
def valL(a:Int×Int):Int:=a.1*18446744073709551616+a.2
theorem YsJ{M t:Int}(hM:0<M):t/M*M+t%M=t:=Int.ediv_mul_add_emod ..
theorem Ye6{a:Int×Int}{x y:Int}(ha:okL a)(h0:0<=x*y)(h:valL a+x*y<340282366920938463463374607431768211456):valL (Yd6 a x y)=valL a+x*y:=by
 obtain⟨⟨a0,a1⟩,b0,b1⟩:=ha
 unfold valL at h⊢
 unfold Yd6
 generalize x*y=t at*
 have e1:=YsJ (M:=18446744073709551616) (t:=t) (by decide)
 have e2:=YsJ (M:=18446744073709551616) (t:=a.2+t%18446744073709551616) (by decide)
 have r1:=Int.emod_nonneg t (show(18446744073709551616:Int)≠0 by decide)
 have r2:=Int.emod_lt_of_pos t (show(0:Int)<18446744073709551616 by decide)
 have r3:=Int.emod_nonneg (a.2+t%18446744073709551616) (show(18446744073709551616:Int)≠0 by decide)
 have r4:=Int.emod_lt_of_pos (a.2+t%18446744073709551616) (show(0:Int)<18446744073709551616 by decide)
 have q1:0<=t/18446744073709551616:=Int.ediv_nonneg h0 (by decide)
 have q2:0<=(a.2+t%18446744073709551616)/18446744073709551616:=Int.ediv_nonneg (by omega) (by decide)
 generalize t%18446744073709551616=lo at*
 generalize t/18446744073709551616=hi at*
 generalize(a.2+lo)%18446744073709551616=r at*
 generalize(a.2+lo)/18446744073709551616=c at*
 rw[YGF (a.1+hi) (by omega),YGF (a.1+hi+c) (by omega)]
 omega
theorem YkV{a b:Int×Int}(ha:okL a)(hb:okL b):YhA a b=decide (valL b<valL a):=by
 obtain⟨⟨a0,a1⟩,a2,a3⟩:=ha
 obtain⟨⟨b0,b1⟩,b2,b3⟩:=hb
 unfold YhA valL
 by_cases c:b.1<a.1
 ·rw[decide_eq_true c,Bool.true_or,decide_eq_true (by omega)]
 ·rw[decide_eq_false c,YHx]
  by_cases d:a.1=b.1
  ·rw[decide_eq_true d,YHq,d]
   by_cases e:b.2<a.2
   ·rw[decide_eq_true e,decide_eq_true (by omega)]
   ·rw[decide_eq_false e,decide_eq_false (by omega)]
  ·rw[decide_eq_false d,YHp,decide_eq_false (by omega)]
theorem Ynt:∀(l:List (Int×Int))(s:Gss),s.ok->(∀x,x∈l->okT x)->
 valL s.u0+(upS (fun n=>(qN n).1) l:Nat)<340282366920938463463374607431768211456->valL s.u1+(upS (fun n=>(qN n).2) l:Nat)<340282366920938463463374607431768211456->
 valL s.d0+(dnS (fun n=>(qN n).1) l:Nat)<340282366920938463463374607431768211456->valL s.d1+(dnS (fun n=>(qN n).2) l:Nat)<340282366920938463463374607431768211456->
 (l.foldl gssS s).ok/\valL (l.foldl gssS s).u0=valL s.u0+(upS (fun n=>(qN n).1) l:Nat)/\valL (l.foldl gssS s).u1=valL s.u1+(upS (fun n=>(qN n).2) l:Nat)/\
   valL (l.foldl gssS s).d0=valL s.d0+(dnS (fun n=>(qN n).1) l:Nat)/\valL (l.foldl gssS s).d1=valL s.d1+(dnS (fun n=>(qN n).2) l:Nat)
 | [],s,hs,_,_,_,_,_=>by simpa [upS,dnS]using hs
 |x::l,s,hs,hl,h1,h2,h3,h4=>by
  have hx:=hl x (YGy ..)
  obtain⟨n1,n2,n3⟩:=Ydn hx
  have hq:Ya4 x.1=Yql (qN x.1.toNat):=by
   conv=>lhs;rw[n3]
   exact Ysi n1 n2
  obtain⟨k1,k2,k3,k4⟩:=hs
  have ih:=Ynt l (gssS s x) (Yq3 s x ⟨k1,k2,k3,k4⟩) fun y hy=>hl y (YGx _ hy)
  rw[upS,Int.natCast_add]at h1 h2
  rw[dnS,Int.natCast_add]at h3 h4
  rw[List.foldl_cons,upS,upS,dnS,dnS,Int.natCast_add,Int.natCast_add,Int.natCast_add,Int.natCast_add]
  by_cases c:x.2<0
  ·rw[if_pos c]at h1 h2 h3 h4
   simp only[if_pos c]
   have c0:¬0<=x.2:=by omega
   have hm:∀z:Nat,(z:Int)*(-x.2)=((z*(-x.2).toNat:Nat):Int):=fun z=>by rw[YG1];congr 1;omega
   have hz:∀z:Nat,0<=(z:Int)*(-x.2):=fun z=>YHv (by omega) (by omega)
   have e:gssS s x= { s with d0:=Yd6 s.d0 ((qN x.1.toNat).1:Nat) (-x.2),d1:=Yd6 s.d1 ((qN x.1.toNat).2:Nat) (-x.2)}:=by rw[gssS,if_neg c0,hq];rfl
   have p0:=Ye6 (x:=((qN x.1.toNat).1:Nat)) (y:= -x.2) k3 (hz _) (by rw[hm];omega)
   have p1:=Ye6 (x:=((qN x.1.toNat).2:Nat)) (y:= -x.2) k4 (hz _) (by rw[hm];omega)
   rw[hm]at p0 p1
   rw[e]at ih⊢
   simp only at ih h1 h2 h3 h4
   rw[p0,p1]at ih
   obtain⟨i0,i1,i2,i3,i4⟩:=ih (by omega) (by omega) (by omega) (by omega)
   exact⟨i0,by omega,by omega,by omega,by omega⟩
  ·rw[if_neg c]at h1 h2 h3 h4
   simp only[if_neg c]
   have c0:0<=x.2:=by omega
   have hm:∀z:Nat,(z:Int)*x.2=((z*x.2.toNat:Nat):Int):=fun z=>by rw[YG1];congr 1;omega
   have hz:∀z:Nat,0<=(z:Int)*x.2:=fun z=>YHv (by omega) (by omega)
   have e:gssS s x= { s with u0:=Yd6 s.u0 ((qN x.1.toNat).1:Nat) x.2,u1:=Yd6 s.u1 ((qN x.1.toNat).2:Nat) x.2}:=by rw[gssS,if_pos c0,hq];rfl
   have p0:=Ye6 (x:=((qN x.1.toNat).1:Nat)) (y:=x.2) k1 (hz _) (by rw[hm];omega)
   have p1:=Ye6 (x:=((qN x.1.toNat).2:Nat)) (y:=x.2) k2 (hz _) (by rw[hm];omega)
   rw[hm]at p0 p1
   rw[e]at ih⊢
   simp only at ih h1 h2 h3 h4
   rw[p0,p1]at ih
   obtain⟨i0,i1,i2,i3,i4⟩:=ih (by omega) (by omega) (by omega) (by omega)
   exact⟨i0,by omega,by omega,by omega,by omega⟩
theorem Yuw{l:List (Int×Int)}(hl:∀x,x∈l->okT x)(hn:l.length<=100):YgV l=
 if dnS (fun n=>(qN n).2) l<upS (fun n=>(qN n).1) l then(1,true)else if upS (fun n=>(qN n).2) l<dnS (fun n=>(qN n).1) l then(-1,true)else(0,false):=by
 obtain⟨a1,a2⟩:=S_le (g:=fun n=>(qN n).2) (fun n h1 h2=>(YDC h1 h2).2) l hl
 obtain⟨b1,b2⟩:=Yj1 (g:=fun n=>(qN n).1) (h:=fun n=>(qN n).2) (fun n h1 h2=>(YDC h1 h2).1) l hl
 have hb:l.length*(17179869184*1000000000)<=100*(17179869184*1000000000):=YGf _ hn
 have z:valL (0,0)=0:=rfl
 have h0:gss0.ok:=by simp [Gss.ok,gss0,okL]
 obtain⟨⟨k1,k2,k3,k4⟩,v1,v2,v3,v4⟩:=Ynt l gss0 h0 hl (by show valL (0,0)+_<_;omega) (by show valL (0,0)+_<_;omega) (by show valL (0,0)+_<_;omega) (by show valL (0,0)+_<_;omega)
 have v1:valL (l.foldl gssS gss0).u0=(upS (fun n=>(qN n).1) l:Nat):=by rw[v1];show valL (0,0)+_=_;omega
 have v2:valL (l.foldl gssS gss0).u1=(upS (fun n=>(qN n).2) l:Nat):=by rw[v2];show valL (0,0)+_=_;omega
 have v3:valL (l.foldl gssS gss0).d0=(dnS (fun n=>(qN n).1) l:Nat):=by rw[v3];show valL (0,0)+_=_;omega
 have v4:valL (l.foldl gssS gss0).d1=(dnS (fun n=>(qN n).2) l:Nat):=by rw[v4];show valL (0,0)+_=_;omega
 unfold YgV
 simp only
 rw[YkV k1 k4,YkV k3 k2,v1,v2,v3,v4]
 simp only[Int.ofNat_lt,decide_eq_true_eq]
theorem Ylk{p:Nat}(hp:p<=2048):∀(l:List (Int×Int))(s:Bnd)(e:Nat),(∀x,x∈l->okT x)->e<=32*512->
 s.ul+upS (fun n=>(lN n p).1) l<2^e->s.uh+upS (fun n=>(lN n p).2) l<2^e->s.dl+dnS (fun n=>(lN n p).1) l<2^e->s.dh+dnS (fun n=>(lN n p).2) l<2^e->
 l.foldl (YdB p) s=⟨s.ul+upS (fun n=>(lN n p).1) l,s.uh+upS (fun n=>(lN n p).2) l,s.dl+dnS (fun n=>(lN n p).1) l,s.dh+dnS (fun n=>(lN n p).2) l⟩
 | [],s,e,_,_,_,_,_,_=>by simp [upS,dnS]
 |x::l,s,e,hl,he,h1,h2,h3,h4=>by
  have hx:=hl x (YGy ..)
  obtain⟨n1,n2,n3⟩:=Ydn hx
  have hq:logF x.1 p=lN x.1.toNat p:=by
   conv=>lhs;rw[n3]
   exact YyP n1 n2 hp
  have ih:=Ylk hp l (YdB p s x) e (fun y hy=>hl y (YGx _ hy)) he
  rw[upS]at h1 h2
  rw[dnS]at h3 h4
  rw[List.foldl_cons,upS,upS,dnS,dnS]
  by_cases c:x.2<0
  ·rw[if_pos c]at h1 h2 h3 h4
   simp only[if_pos c]
   have e:YdB p s x= { s with dl:=s.dl+(lN x.1.toNat p).1*(-x.2).toNat,dh:=s.dh+(lN x.1.toNat p).2*(-x.2).toNat}:=by
    rw[YdB,if_pos c,hq]
    rw[Yh7 (e:=e) (by omega) he,Yh7 (e:=e) (by omega) he,Ygz (e:=e) (by omega) he,Ygz (e:=e) (by omega) he]
   rw[e]at ih⊢
   simp only at ih
   rw[ih (by omega) (by omega) (by omega) (by omega)]
   simp only[Bnd.mk.injEq]
   omega
  ·rw[if_neg c]at h1 h2 h3 h4
   simp only[if_neg c]
   have e:YdB p s x= { s with ul:=s.ul+(lN x.1.toNat p).1*x.2.toNat,uh:=s.uh+(lN x.1.toNat p).2*x.2.toNat}:=by
    rw[YdB,if_neg c,hq]
    rw[Yh7 (e:=e) (by omega) he,Yh7 (e:=e) (by omega) he,Ygz (e:=e) (by omega) he,Ygz (e:=e) (by omega) he]
   rw[e]at ih⊢
   simp only at ih
   rw[ih (by omega) (by omega) (by omega) (by omega)]
   simp only[Bnd.mk.injEq]
   omega
theorem Yz5{l:List (Int×Int)}{p:Nat}(hp:p<=2048)(hl:∀x,x∈l->okT x)(hn:l.length<=100):Ycw l p=⟨upS (fun n=>(lN n p).1) l,upS (fun n=>(lN n p).2) l,dnS (fun n=>(lN n p).1) l,dnS (fun n=>(lN n p).2) l⟩:=by
 obtain⟨a1,a2⟩:=S_le (g:=fun n=>(lN n p).2) (B:=64*2^p) (fun n h1 h2=>(YCS h1 h2).2) l hl
 obtain⟨b1,b2⟩:=Yj1 (g:=fun n=>(lN n p).1) (h:=fun n=>(lN n p).2) (fun n h1 h2=>(YCS h1 h2).1) l hl
 have hb:l.length*(64*2^p*1000000000)<=100*(64*2^p*1000000000):=YGf _ hn
 have hp2:100*(64*2^p*1000000000)<2^(p+43):=by
  have:(2:Nat)^(p+43)=8796093022208*2^p:=by rw[YGo,YGj]
  have:=Nat.one_le_two_pow (n:=p)
  omega
 unfold Ycw
 rw[Ylk hp l ⟨0,0,0,0⟩ (p+43) hl (by omega) (by simp only;omega) (by simp only;omega) (by simp only;omega) (by simp only;omega)]
 simp only[YHu]
set_option maxRecDepth 100000
inductive Spn (L:List Nat):Nat->Prop
 |one:Spn L 1
 |mul {x y:Nat}:x∈L->Spn L y->Spn L (x*y)
theorem Spn.mem{L:List Nat}{x:Nat}(h:x∈L):Spn L x:=by
 have:=Spn.mul h Spn.one
 rwa [YHj]at this
theorem Spn.mul2{L:List Nat}{x y:Nat}(hx:Spn L x)(hy:Spn L y):Spn L (x*y):=by
 induction hx with
 |one=>rwa [YGW]
 |mul h _ ih=>rw[YGm];exact .mul h ih
theorem Spn.sub{L L':List Nat}(h:∀x,x∈L->Spn L' x){y:Nat}(hy:Spn L y):Spn L' y:=by
 induction hy with
 |one=>exact .one
 |mul hx _ ih=>exact(h _ hx).mul2 ih
def Cop(r:List Nat):Prop:=r.Pairwise fun a b=>YHa a b=1
theorem YeS{B:Nat}:∀{f:Nat}{wait out:List Nat},DrOk B f wait out->Cop out->Cop (YcI f wait out)/\∀y,Spn (out++wait) y->Spn (YcI f wait out) y
 |0,wait,out,h,hc=>by
  have hw:wait=[]:=List.length_eq_zero_iff.1 (by have:=h.mu;omega)
  rw[YcI,hw,List.append_nil]
  exact⟨hc,fun _ h=>h⟩
 |f+1,wait,out,h,hc=>by
  rw[YcI]
  by_cases hw:wait.length=0
  ·rw[if_pos hw]
   have hw:wait=[]:=List.length_eq_zero_iff.1 hw
   rw[hw,List.append_nil]
   exact⟨hc,fun _ h=>h⟩
  ·rw[if_neg hw]
   have e:=Yd1 hw
   by_cases h1:wait.getD (wait.length-1) 0=1
   ·rw[if_pos h1]
    obtain⟨g,hg,hd⟩:=h.pop hw h1
    obtain rfl:f=g:=by omega
    obtain⟨k1,k2⟩:=YeS hd hc
    refine⟨k1,fun y hy=>k2 y (hy.sub fun x hx=>?_)⟩
    rw[e,YGT,YGT,YGU]at hx
    rcases hx with hx|hx|hx
    ·exact .mem (List.mem_append_left _ hx)
    ·exact .mem (List.mem_append_right _ hx)
    ·rw[hx,h1];exact .one
   ·rw[if_neg h1]
    have hsp:=YcP (f:=fun i=>decide (1<YHa (out.getD i 0) (wait.getD (wait.length-1) 0))) out.length 0
    have hn:1<=wait.getD (wait.length-1) 0:=(h.wp _ (Yk (l:=wait) (i:=wait.length-1) (by omega))).1
    by_cases h2:hitF out (wait.getD (wait.length-1) 0)<out.length
    ·rw[if_pos h2]
     have hs:=hsp.2.2.2 (by simpa [hitF]using h2)
     obtain⟨g,hg,hd⟩:=h.hit hw h2 (of_decide_eq_true hs)
     obtain rfl:f=g:=by omega
     have e':=Yn8 h2
     generalize hitF out (wait.getD (wait.length-1) 0)=i at*
     have hsub:List.Sublist (out.take i++out.drop (i+1)) out:=by
      conv=>rhs;rw[e']
      exact(List.sublist_cons_self _ _).append_left _
     obtain⟨k1,k2⟩:=YeS hd (List.Pairwise.sublist hsub hc)
     refine⟨k1,fun y hy=>k2 y (hy.sub fun x hx=>?_)⟩
     generalize hL:out.take i++out.drop (i+1)++(wait.take (wait.length-1)++[YHa (out.getD i 0) (wait.getD (wait.length-1) 0),out.getD i 0/YHa (out.getD i 0) (wait.getD (wait.length-1) 0),wait.getD (wait.length-1) 0/YHa (out.getD i 0) (wait.getD (wait.length-1) 0)])=L
     have mL:∀z,z∈out.take i\/z∈out.drop (i+1)\/z∈wait.take (wait.length-1)\/z=YHa (out.getD i 0) (wait.getD (wait.length-1) 0)\/z=out.getD i 0/YHa (out.getD i 0) (wait.getD (wait.length-1) 0)\/z=wait.getD (wait.length-1) 0/YHa (out.getD i 0) (wait.getD (wait.length-1) 0)->Spn L z:=fun z hz=>by
      refine .mem ?_
      rw[<-hL]
      simp only[YGT,YGK,List.not_mem_nil,or_false]
      rcases hz with hz|hz|hz|hz|hz|hz
      ·exact .inl (.inl hz)
      ·exact .inl (.inr hz)
      ·exact .inr (.inl hz)
      ·exact .inr (.inr (.inl hz))
      ·exact .inr (.inr (.inr (.inl hz)))
      ·exact .inr (.inr (.inr (.inr hz)))
     rcases YGT.1 hx with hx|hx
     ·rw[e']at hx
      rcases YGT.1 hx with hx|hx
      ·exact mL _ (.inl hx)
      ·rcases YGK.1 hx with hx|hx
       ·rw[hx]
        have:=(mL _ (.inr (.inr (.inr (.inl rfl))))).mul2 (mL _ (.inr (.inr (.inr (.inr (.inl rfl))))))
        rwa [Nat.mul_div_cancel' (Nat.gcd_dvd_left _ _)]at this
       ·exact mL _ (.inr (.inl hx))
     ·rw[e]at hx
      rcases YGT.1 hx with hx|hx
      ·exact mL _ (.inr (.inr (.inl hx)))
      ·rw[YGU]at hx
       rw[hx]
       have:=(mL _ (.inr (.inr (.inr (.inl rfl))))).mul2 (mL _ (.inr (.inr (.inr (.inr (.inr rfl))))))
       rwa [Nat.mul_div_cancel' (Nat.gcd_dvd_right _ _)]at this
    ·rw[if_neg h2]
     obtain⟨g,hg,hd⟩:=h.push hw h1
     obtain rfl:f=g:=by omega
     have hcop:Cop (out++[wait.getD (wait.length-1) 0]):=by
      refine List.pairwise_append.2 ⟨hc,List.pairwise_singleton _ _,fun a ha b hb=>?_⟩
      rw[YGU]at hb
      rw[hb]
      obtain⟨j,hj,hja⟩:=YdP ha
      have:=hsp.2.2.1 j (by omega) (by show j<hitF out _;omega)
      have:=of_decide_eq_false this
      rw[show out.getD j 0=a from hja]at this
      have:=Nat.gcd_pos_of_pos_right a hn
      omega
     obtain⟨k1,k2⟩:=YeS hd hcop
     refine⟨k1,fun y hy=>k2 y (hy.sub fun x hx=>?_)⟩
     rw[e,YGT,YGT,YGU]at hx
     refine .mem ?_
     rw[YGT,YGT,YGU]
     rcases hx with hx|hx|hx
     ·exact .inl (.inl hx)
     ·exact .inr hx
     ·exact .inl (.inr hx)
theorem YmU{l:List (Int×Int)}(hl:∀x,x∈l->okT x)(hn:l.length<=20):Cop (YiE l)/\∀x,x∈l->Spn (YiE l) x.1.toNat:=by
 have key:∀i,i<=l.length->((∀x,x∈(l.take i).foldl Ybj []->2<=x/\x<=1099511627776)/\Yo (Ys ((l.take i).foldl Ybj []))<=40*i+1)/\Cop ((l.take i).foldl Ybj [])/\∀x,x∈l.take i->Spn ((l.take i).foldl Ybj []) x.1.toNat:=fun i=>by
  induction i with
  |zero=>exact fun _=>⟨⟨fun x hx=>absurd hx (by simp),by simp [Ys];decide⟩,List.Pairwise.nil,fun x hx=>absurd hx (by simp)⟩
  |succ i ih=>
   intro hi
   obtain⟨⟨h1,h2⟩,h3,h4⟩:=ih (by omega)
   have hx:=hl _ (Yk (by omega:i<l.length))
   rw[Yr (by omega),Yag (by omega)]
   obtain⟨q0,q1,q2,q3⟩:=hx
   have hd:=DrOk.start (N:=(l.getD i default).1.toNat) (by omega) (by omega) h1 h2 (by omega)
   obtain⟨d1,d2⟩:=YeS hd h3
   refine⟨Ydb hd,d1,fun y hy=>?_⟩
   rcases YGT.1 hy with hy|hy
   ·exact d2 _ ((h4 y hy).sub fun z hz=> .mem (List.mem_append_left _ hz))
   ·rw[YGU]at hy
    rw[hy]
    exact d2 _ (.mem (List.mem_append_right _ (YGU.2 rfl)))
 have:=(key l.length (YGr _)).2
 rwa [YHe]at this
def vl:Nat->Nat->Nat->Nat
 |0,_,_=>0
 |f+1,b,x=>if x%b=0 then vl f b (x/b)+1 else 0
theorem Ymn{b:Nat}(hb:2<=b):∀(f x:Nat),1<=x->x<2^f->∀e,b^e∣x↔e<=vl f b x
 |0,x,h1,h2,_=>by simp at h2;omega
 |f+1,x,h1,h2,e=>by
  rw[vl]
  by_cases c:x%b=0
  ·rw[if_pos c]
   obtain⟨y,rfl⟩:=Nat.dvd_of_mod_eq_zero c
   have hy:1<=y:=Nat.pos_of_ne_zero fun h=>by rw[h,Nat.mul_zero]at h1;omega
   rw[Nat.mul_div_cancel_left _ (by omega)]
   have hy2:y<2^f:=by
    have:2*y<=b*y:=YGf _ hb
    rw[YGt]at h2;omega
   cases e with
   |zero=>simp
   |succ e=>
    rw[YGt,YGj,Nat.mul_dvd_mul_iff_left (by omega),Ymn hb f y hy hy2]
    omega
  ·rw[if_neg c]
   cases e with
   |zero=>simp
   |succ e=>
    refine⟨fun h=>absurd (Nat.mod_eq_zero_of_dvd (Nat.dvd_trans ⟨b^e,by rw[YGt,YGj]⟩ h)) c,fun h=>by omega⟩
theorem YF1{r:List Nat}(hc:Cop r)(h2:∀x,x∈r->2<=x){b c y:Nat}(hb:b∈r)(hcm:c∈r)(hy:1<=y)(hyl:c*y<2^64):vl 64 b (c*y)=vl 64 b y+if b=c then 1 else 0:=by
 have hb2:=h2 _ hb
 have hc2:=h2 _ hcm
 have hcy:1<=c*y:=YHd (by omega) hy
 have hy2:y<2^64:=YGN (Nat.le_mul_of_pos_left _ (by omega)) hyl
 have s1:=Ymn hb2 64 (c*y) hcy hyl
 have s2:=Ymn hb2 64 y hy hy2
 have ext:∀A B:Nat,(∀e,e<=A↔e<=B)->A=B:=fun A B h=>Nat.le_antisymm ((h A).1 (YGr _)) ((h B).2 (YGr _))
 refine ext _ _ fun e=>?_
 rw[<-s1 e]
 by_cases ebc:b=c
 ·rw[if_pos ebc,<-ebc]
  cases e with
  |zero=>simp
  |succ e=>
   rw[YGt,YGj,Nat.mul_dvd_mul_iff_left (by omega),s2 e]
   omega
 ·rw[if_neg ebc,YHi,<-s2 e]
  have hg:YHa b c=1:=by
   obtain⟨i,hi,rfl⟩:=List.mem_iff_getElem.1 hb
   obtain⟨j,hj,rfl⟩:=List.mem_iff_getElem.1 hcm
   rcases Nat.lt_trichotomy i j with h|h|h
   ·exact List.pairwise_iff_getElem.1 hc i j hi hj h
   ·subst h;exact absurd rfl ebc
   ·rw[Nat.gcd_comm];exact List.pairwise_iff_getElem.1 hc j i hj hi h
  exact⟨fun h=>Nat.Coprime.dvd_of_dvd_mul_left (Nat.Coprime.pow_left e hg) h,fun h=>Nat.dvd_trans h (Nat.dvd_mul_left _ _)⟩
def PV(e:Nat->Nat):List Nat->Nat
 | []=>1
 |b::r=>b^e b*PV e r
theorem YaV{e e':Nat->Nat}:∀{r:List Nat},(∀b,b∈r->e b=e' b)->PV e r=PV e' r
 | [],_=>rfl
 |b::r,h=>by rw[PV,PV,h b (YGy ..),YaV fun x hx=>h x (YGx _ hx)]
theorem Ygx:∀(r:List Nat),PV (fun _=>0) r=1
 | []=>rfl
 |b::r=>by rw[PV,Ygx r];rfl
theorem Ymq(e e':Nat->Nat):∀(r:List Nat),PV (fun b=>e b+e' b) r=PV e r*PV e' r
 | []=>rfl
 |b::r=>by rw[PV,PV,PV,Ymq e e' r,YGo,Nat.mul_mul_mul_comm]
theorem Yo7(e:Nat->Nat)(k:Nat):∀(r:List Nat),PV (fun b=>e b*k) r=PV e r^k
 | []=>by simp [PV]
 |b::r=>by rw[PV,PV,Yo7 e k r,YGn,YGw]
theorem YvC{c:Nat}:∀{r:List Nat},Cop r->(∀x,x∈r->2<=x)->c∈r->PV (fun b=>if b=c then 1 else 0) r=c
 |b::r,hc,h2,hm=>by
  obtain⟨g1,g2⟩:=List.pairwise_cons.1 hc
  have hb2:=h2 b (YGy ..)
  rw[PV]
  by_cases e:b=c
  ·subst e
   rw[if_pos rfl,YHr]
   have:PV (fun x=>if x=b then 1 else 0) r=PV (fun _=>0) r:=YaV fun x hx=>by
    refine if_neg fun hh=>?_
    have:=g1 x hx
    rw[hh,Nat.gcd_self]at this
    omega
   rw[this,Ygx,YHj]
  ·rw[if_neg e,YHA,YGW]
   refine YvC g2 (fun x hx=>h2 x (YGx _ hx)) ?_
   rcases YGK.1 hm with h|h
   ·exact absurd h.symm e
   ·exact h
theorem PV_is{r:List Nat}(hc:Cop r)(h2:∀x,x∈r->2<=x){y:Nat}(hy:Spn r y):1<=y/\(y<2^64->PV (fun b=>vl 64 b y) r=y):=by
 induction hy with
 |one=>
  refine⟨YGr _,fun _=>?_⟩
  rw[YaV (e':=fun _=>0) fun b hb=>?_,Ygx]
  have hb2:=h2 b hb
  rw[vl,if_neg (by rw[YG3 (by omega)];decide)]
 | @mul x y hx _ ih=>
   obtain⟨i1,i2⟩:=ih
   have hx2:=h2 x hx
   refine⟨YHd (by omega) i1,fun hlt=>?_⟩
   rw[YaV fun b hb=>YF1 hc h2 hb hx i1 hlt,Ymq,YvC hc h2 hx,i2 (YGN (Nat.le_mul_of_pos_left _ (by omega)) hlt),YGj]
theorem YxS{b:Nat}(hb:2<=b)(hbl:b<=1099511627776){num:Int}(hn: -1000000000<=num/\num<=1000000000):∀(f x:Nat)(s:Int),x<4611686018427387904->f<=64-> -1000000000000000+f*1000000000<=s->s<=1000000000000000-f*1000000000->
 divL f (b:Int) (x:Int) num s=s+num*(vl f b x:Nat):=
 by
 intro f
 induction f with
 |zero=>intro x s _ _ _ _;simp [divL,vl]
 |succ f ih=>
  intro x s hx hf h1 h2
  rw[divL,vl]
  have e1:(x:Int).tmod (b:Int)=((x%b:Nat):Int):=rfl
  have e2:(x:Int).tdiv (b:Int)=((x/b:Nat):Int):=rfl
  rw[e1,e2]
  by_cases c:x%b=0
  ·have hq:x/b<=x:=YHm _ _
   rw[if_pos (by omega),if_pos c]
   generalize x/b=q at*
   rw[YGd _ (by omega),YGd (s+num) (by omega),ih q (s+num) (by omega) (by omega) (by omega) (by omega),Int.natCast_add,Int.mul_add]
   simp only[Int.natCast_one,Int.mul_one]
   omega
  ·rw[if_neg (by omega),if_neg c];simp
theorem Ymb{b:Nat}(hb:2<=b)(hbl:b<=1099511627776):∀(l:List (Int×Int))(s:Int),(∀x,x∈l->okT x)->l.length<=100-> -1000000000000000+(l.length+1)*64000000000<=s->s<=1000000000000000-(l.length+1)*64000000000->
 l.foldl (fun s x=>divL 64 b x.1 x.2 s) s=s+(upS (vl 64 b) l:Nat)-(dnS (vl 64 b) l:Nat):=
 by
 intro l
 induction l with
 |nil=>intro s _ _ _ _;simp [upS,dnS]
 |cons x l ihl=>
  intro s hl hn h1 h2
  have hx:=hl x (YGy ..)
  obtain⟨n1,n2,n3⟩:=Ydn hx
  obtain⟨_,_,x3,x4⟩:=hx
  rw[YHf]at hn h1 h2
  have hv:vl 64 b x.1.toNat<=64:=by
   have key:∀f y,vl f b y<=f:=fun f=>by
    induction f with
    |zero=>intro y;exact YGr _
    |succ f ih=>
     intro y
     rw[vl]
     split
     ·have:=ih (y/b);omega
     ·omega
   exact key 64 _
  have hd:divL 64 (b:Int) x.1 x.2 s=s+x.2*(vl 64 b x.1.toNat:Nat):=by
   conv=>lhs;rw[n3]
   exact YxS hb hbl ⟨x3,x4⟩ 64 _ s n2 (by decide) (by omega) (by omega)
  have hb1:x.2*(vl 64 b x.1.toNat:Nat)<=1000000000*64:=by
   refine Int.le_trans (YGE x4 (by omega)) ?_
   exact Int.mul_le_mul_of_nonneg_left (by omega) (by decide)
  have hb2: -1000000000*64<=x.2*(vl 64 b x.1.toNat:Nat):=by
   refine Int.le_trans ?_ (YGE x3 (by omega))
   omega
  rw[List.foldl_cons,hd,ihl _ (fun y hy=>hl y (YGx _ hy)) (by omega) (by omega) (by omega),upS,dnS]
  by_cases c:x.2<0
  ·rw[if_pos c,if_pos c]
   have:x.2*(vl 64 b x.1.toNat:Nat)= -((vl 64 b x.1.toNat*(-x.2).toNat:Nat):Int):=by
    rw[YG1,show(((-x.2).toNat:Nat):Int)= -x.2 by omega,Int.mul_neg,Int.neg_neg,Int.mul_comm]
   rw[this];omega
  ·rw[if_neg c,if_neg c]
   have:x.2*(vl 64 b x.1.toNat:Nat)=((vl 64 b x.1.toNat*x.2.toNat:Nat):Int):=by
    rw[YG1,show((x.2.toNat:Nat):Int)=x.2 by omega,Int.mul_comm]
   rw[this];omega
theorem P_is{r:List Nat}(hc:Cop r)(h2:∀x,x∈r->2<=x):∀(l:List (Int×Int)),(∀x,x∈l->okT x/\Spn r x.1.toNat)->
 upP l=PV (fun b=>upS (vl 64 b) l) r/\dnP l=PV (fun b=>dnS (vl 64 b) l) r
 | [],_=>by
   constructor
   ·exact(Ygx r).symm
   ·exact(Ygx r).symm
 |x::l,hl=>by
  obtain⟨i1,i2⟩:=P_is hc h2 l fun y hy=>hl y (YGx _ hy)
  obtain⟨hx,hs⟩:=hl x (YGy ..)
  obtain⟨n1,n2,n3⟩:=Ydn hx
  have e:=(PV_is hc h2 hs).2 (by omega)
  rw[upP,dnP,i1,i2]
  by_cases c:x.2<0
  ·rw[if_pos c,if_pos c]
   constructor
   ·rw[YGW]
    exact YaV fun b _=>by rw[upS,if_pos c,YHu]
   ·have:∀b,dnS (vl 64 b) (x::l)=vl 64 b x.1.toNat*(-x.2).toNat+dnS (vl 64 b) l:=fun b=>by rw[dnS,if_pos c]
    rw[YaV fun b _=>this b,Ymq,Yo7,e]
  ·rw[if_neg c,if_neg c]
   constructor
   ·have:∀b,upS (vl 64 b) (x::l)=vl 64 b x.1.toNat*x.2.toNat+upS (vl 64 b) l:=fun b=>by rw[upS,if_neg c]
    rw[YaV fun b _=>this b,Ymq,Yo7,e]
   ·rw[YGW]
    exact YaV fun b _=>by rw[dnS,if_neg c,YHu]
theorem YkT{l:List (Int×Int)}(hl:∀x,x∈l->okT x)(hn:l.length<=20)(h:oneF l=true):upP l=dnP l:=by
 obtain⟨hc,hs⟩:=YmU hl hn
 have hr:=YgD hl hn
 obtain⟨e1,e2⟩:=P_is hc (fun x hx=>(hr x hx).1) l fun x hx=>⟨hl x hx,hs x hx⟩
 rw[e1,e2]
 refine YaV fun b hb=>?_
 have hb2:=hr b hb
 have h0:=of_decide_eq_true (List.all_eq_true.1 h b hb)
 unfold sumB at h0
 rw[Ymb hb2.1 hb2.2 l 0 hl (by omega) (by omega) (by omega)]at h0
 omega
def Und(l:List (Int×Int))(p:Nat):Prop:=upS (fun n=>(lN n p).1) l<=dnS (fun n=>(lN n p).2) l/\dnS (fun n=>(lN n p).1) l<=upS (fun n=>(lN n p).2) l
theorem YrI{a b K:Nat}(h:a^K<b^K):a<b:=by
 refine Nat.lt_of_not_le fun hh=>?_
 have:=YGp hh K
 omega
theorem Ybx{a b x y K:Nat}(ha:a^K<=2^x)(hb:2^y<=b^K)(h:x<y):a<b:=by
 refine YrI (K:=K) ?_
 have:(2:Nat)^x<2^y:=(Nat.pow_lt_pow_iff_right (by decide)).2 h
 omega
theorem Yl8{l:List (Int×Int)}(hl:∀x,x∈l->okT x)(hn:l.length<=20):∀(f p:Nat),1<=f->1<=p->p*2^f=4096->
 (YdA f l p=1->dnP l<upP l)/\(YdA f l p= -1->upP l<dnP l)/\(YdA f l p=0->Und l 2048)/\(YdA f l p=1\/YdA f l p= -1\/YdA f l p=0):=by
 intro f
 induction f with
 |zero=>intro p h;omega
 |succ f ih=>
  intro p _ hp1 hp
  have h1:=YH f
  rw[YGt]at hp
  have hp2:p<=2048:=by
   have:p*2<=p*(2^f*2):=YGk _ (by omega)
   omega
  have hs:=Yz5 (p:=p) hp2 hl (by omega)
  obtain⟨⟨a1,a2⟩,b1,b2⟩:=YcA (K:=2^p) (g:=fun n=>(lN n p).1) (h:=fun n=>(lN n p).2) (fun n k1 k2=>Ygm k1 k2) l hl
  rw[YdA,hs]
  dsimp only
  by_cases c1:dnS (fun n=>(lN n p).2) l<upS (fun n=>(lN n p).1) l
  ·rw[if_pos c1]
   exact⟨fun _=>Ybx b2 a1 c1,fun h=>absurd h (by decide),fun h=>absurd h (by decide),Or.inl rfl⟩
  ·rw[if_neg c1]
   by_cases c2:upS (fun n=>(lN n p).2) l<dnS (fun n=>(lN n p).1) l
   ·rw[if_pos c2]
    exact⟨fun h=>absurd h (by decide),fun _=>Ybx a2 b1 c2,fun h=>absurd h (by decide),Or.inr (Or.inl rfl)⟩
   ·rw[if_neg c2]
    rcases YGI f with h0|h0
    ·subst h0
     have e:p=2048:=by rw[YHA]at hp;omega
     subst e
     exact⟨fun h=>absurd h (by rw[YdA];decide),fun h=>absurd h (by rw[YdA];decide),fun _=>⟨by omega,by omega⟩,Or.inr (Or.inr rfl)⟩
    ·exact ih (2*p) h0 (by omega) (by rw[<-hp,YGj 2 p,YGm,YGj 2])
theorem YoL{l:List (Int×Int)}(hl:∀x,x∈l->okT x)(hn:l.length<=20):
 (YfI l=1->dnP l<upP l)/\(YfI l= -1->upP l<dnP l)/\(YfI l=0->oneF l=true\/Und l 2048)/\(YfI l=1\/YfI l= -1\/YfI l=0):=by
 have hg:=Yuw hl (by omega)
 obtain⟨⟨a1,a2⟩,b1,b2⟩:=YcA (K:=2^28) (g:=fun n=>(qN n).1) (h:=fun n=>(qN n).2) (fun n k1 k2=>YnQ k1 k2) l hl
 unfold YfI
 by_cases c1:dnS (fun n=>(qN n).2) l<upS (fun n=>(qN n).1) l
 ·rw[if_pos c1]at hg
  rw[hg,if_pos rfl]
  exact⟨fun _=>Ybx b2 a1 c1,fun h=>absurd h (by decide),fun h=>absurd h (by decide),Or.inl rfl⟩
 ·rw[if_neg c1]at hg
  by_cases c2:upS (fun n=>(qN n).2) l<dnS (fun n=>(qN n).1) l
  ·rw[if_pos c2]at hg
   rw[hg,if_pos rfl]
   exact⟨fun h=>absurd h (by decide),fun _=>Ybx a2 b1 c2,fun h=>absurd h (by decide),Or.inr (Or.inl rfl)⟩
  ·rw[if_neg c2]at hg
   rw[hg,if_neg (by decide)]
   by_cases c3:oneF l=true
   ·rw[if_pos c3]
    exact⟨fun h=>absurd h (by decide),fun h=>absurd h (by decide),fun _=>Or.inl c3,Or.inr (Or.inr rfl)⟩
   ·rw[if_neg c3]
    obtain⟨k1,k2,k3,k4⟩:=Yl8 hl hn 6 64 (by decide) (by decide) (by decide)
    exact⟨k1,k2,fun h=>Or.inr (k3 h),k4⟩
theorem Yxl{g h w:Nat->Nat}{c:Nat}:∀(l:List (Int×Int)),(∀x,x∈l->h x.1.toNat<=g x.1.toNat+w x.1.toNat*c)->upS h l<=upS g l+upS w l*c/\dnS h l<=dnS g l+dnS w l*c
 | [],_=>by simp [upS,dnS]
 |x::l,H=>by
  obtain⟨i1,i2⟩:=Yxl l fun y hy=>H y (YGx _ hy)
  have hx:=H x (YGy ..)
  have key:∀e:Nat,h x.1.toNat*e<=g x.1.toNat*e+w x.1.toNat*e*c:=fun e=>by
   have h1:=YGf e hx
   rw[YGG]at h1
   rw[YGm (w x.1.toNat),YGj e c,<-YGm]
   exact h1
  rw[upS,upS,upS,dnS,dnS,dnS,YGG,YGG]
  constructor
  ·split
   ·rw[Nat.zero_mul];omega
   ·have:=key x.2.toNat;omega
  ·split
   ·have:=key (-x.2).toNat;omega
   ·rw[Nat.zero_mul];omega
theorem Yvw{l:List (Int×Int)}{J:Nat}{w:Nat->Nat}(hJ:J<=2048)(hl:∀x,x∈l->okT x)(hw:∀x,x∈l->(lN x.1.toNat 2048).2<=(lN x.1.toNat 2048).1+w x.1.toNat*2^(2048-J))(h:Und l 2048):
 dnP l^(2^J)<=upP l^(2^J)*2^(upS w l+dnS w l):=by
 obtain⟨⟨a1,a2⟩,b1,b2⟩:=YcA (K:=2^2048) (g:=fun n=>(lN n 2048).1) (h:=fun n=>(lN n 2048).2) (fun n k1 k2=>Ygm k1 k2) l hl
 obtain⟨s1,s2⟩:=Yxl (g:=fun n=>(lN n 2048).1) (h:=fun n=>(lN n 2048).2) (w:=w) (c:=2^(2048-J)) l hw
 obtain⟨_,h2⟩:=h
 obtain⟨c,hc⟩:∃c,c=2^(2048-J):=⟨_,rfl⟩
 obtain⟨K,hK⟩:∃K,K=(2:Nat)^2048:=⟨_,rfl⟩
 have hc0:c≠0:=by rw[hc];have:=YH (2048-J);omega
 have hKc:K=2^J*c:=by rw[hK,hc,<-YGo];congr 1;omega
 rw[<-hc]at s1 s2
 rw[<-hK]at a1 a2 b1 b2
 rw[<-Nat.pow_le_pow_iff_left hc0,YGw,<-YGn,<-YGn,<-hKc,<-YGn,YGG]
 refine YGg b2 ?_
 refine YGg (YGs (by decide) (show _<=upS (fun n=>(lN n 2048).1) l+(upS w l*c+dnS w l*c)by omega)) ?_
 rw[YGo]
 exact YGf _ a1
def Near(M W J N m:Nat):Prop:=2^m*M<=N^(2^J)*M+2^m*W/\N^(2^J)*M<=2^m*(M+W)
theorem Near.mono{M W W' J N m:Nat}(h:Near M W J N m)(hw:W<=W'):Near M W' J N m:=by
 obtain⟨h1,h2⟩:=h
 have k1:=YGk (2^m) hw
 have k2:=YGk (2^m) (show M+W<=M+W' by omega)
 exact⟨by omega,by omega⟩
theorem Near.sq{M W J N m:Nat}(hM:0<M)(hW:W<=M)(h:Near M W J N m):Near M (3*W) (J+1) N (2*m):=by
 obtain⟨h1,h2⟩:=h
 unfold Near
 have e0:N^2^(J+1)=N^2^J*N^2^J:=by rw[YGt,YGn,Nat.pow_two]
 rw[e0,Yds]
 generalize N^2^J=X at*
 generalize 2^m=P at*
 constructor
 ·refine YGq (c:=M) ?_ hM
  have k1:P*(M-W)<=X*M:=by rw[Nat.mul_sub];omega
  have k2:=YGB k1 k1
  obtain⟨V,hV⟩:∃V,V=M-W:=⟨_,rfl⟩
  have hM2:M=V+W:=by omega
  rw[<-hV]at k2
  have e1:P*V*(P*V)=P*P*(V*V):=by simp only[YGm,YG5]
  have e2:(X*M)*(X*M)=X*X*M*M:=by simp only[YGm,YG5]
  have e3:P*P*M*M=P*P*(M*M):=by simp only[YGm]
  have e4:(X*X*M+P*P*(3*W))*M=X*X*M*M+P*P*(3*W*M):=by rw[YGG,YGm (P*P)]
  have e5:M*M<=V*V+3*W*M:=by
   rw[hM2,YGG,YGQ,YGQ,YGQ]
   have:W*V=V*W:=YGj ..
   have h3:3*W*V=3*(W*V):=YGm ..
   have h4:3*W*W=3*(W*W):=YGm ..
   omega
  have e6:=YGk (P*P) e5
  rw[YGQ]at e6
  omega
 ·refine YGq (c:=M) ?_ hM
  have k2:=YGB h2 h2
  have e1:P*(M+W)*(P*(M+W))=P*P*((M+W)*(M+W)):=by simp only[YGm,YG5]
  have e2:(X*M)*(X*M)=X*X*M*M:=by simp only[YGm,YG5]
  have e3:P*P*(M+3*W)*M=P*P*((M+3*W)*M):=by simp only[YGm]
  have e5:(M+W)*(M+W)<=(M+3*W)*M:=by
   rw[YGG,YGQ,YGQ,YGG]
   have h3:3*W*M=3*(W*M):=YGm ..
   have h4:M*W=W*M:=YGj ..
   have h5:=YGk W hW
   omega
  have e6:=YGk (P*P) e5
  omega
theorem Yq1(M:Nat)(hM:0<M):∀(J f A B S N w:Nat),J<=f->2^S*A<=N*M->N*M<=2^S*B->M<=A->A<=B->B<=2*M->B<=A+w->
 (gl M false f A B S).2<=(gl M false f A B S).1+2^(f-J)\/∃j m,j<=J/\Near M (4^j*(w+2)) j N m:=by
 intro J
 induction J with
 |zero=>
  intro f A B S N w _ _ _ _ _ _ _
  obtain⟨h1,h2⟩:=YfT M false f A B S
  rw[YGG,YGW]at h2
  left
  rw[Nat.sub_zero]
  omega
 |succ J ih=>
  intro f A B S N w hf h1 h2 ha hab hb hw
  obtain⟨f,rfl⟩:∃g,f=g+1:=⟨f-1,by omega⟩
  have hA:A*A/M*M<=A*A:=Nat.div_mul_le_self _ _
  have hA':A*A<(A*A/M+1)*M:=by
   have:=YGP (A*A) M
   have h3:=YGJ (A*A) hM
   rw[YGG,YGW,YGj (A*A/M)];omega
  have hB:B*B<=cdiv (B*B) M*M:=Ybm _ _ hM
  have k1:=Yws hM h1 hA
  have k2:=YsK hM h2 hB
  have hA1:M<=A*A/M:=(YG9 hM).2 (YGB ha ha)
  have hAB:A*A/M<=cdiv (B*B) M:=YdI (YGB hab hab)
  have hB1:cdiv (B*B) M<=4*M:=Yay (by
   have:=YGB hb hb
   have e:4*M*M=2*M*(2*M):=by rw[Nat.mul_mul_mul_comm,YGm]
   omega)
  have hW:cdiv (B*B) M<=A*A/M+(4*w+2):=Yay (by
   obtain⟨v,rfl⟩:∃v,B=A+v:=⟨B-A,by omega⟩
   have e:(A+v)*(A+v)=A*A+v*(A+(A+v)):=by
    rw[YGQ,YGG A v A,YGQ v A,YGj (A+v) v]
    omega
   have e2:v*(A+(A+v))<=w*(4*M):=YGB (by omega) (by omega)
   have e3:(A*A/M+(4*w+2))*M=(A*A/M+1)*M+w*(4*M)+M:=by
    rw[YGG,YGG,YGG]
    have:4*w*M=w*(4*M):=by rw[YGj 4 w,YGm]
    omega
   omega)
  have lift:∀{j w':Nat},w'+2<=4*(w+2)->∀{m},j<=J->Near M (4^j*(w'+2)) j (N*N) m->∃j m,j<=J+1/\Near M (4^j*(w+2)) j N m:=fun {j w'} hw' {m} hj hn=>by
   refine⟨j+1,m,by omega,?_⟩
   have hm:4^j*(w'+2)<=4^(j+1)*(w+2):=by
    rw[YGt,YGm]
    exact YGk _ hw'
   have:=hn.mono hm
   unfold Near at this⊢
   rw[Yr3]
   exact this
  rw[gl,Nat.add_sub_add_right]
  split
  ·split
   ·have:=ih f (A*A/M) (cdiv (B*B) M) (2*S) (N*N) (4*w+2) (by omega) (by rw[Yds];exact k1) (by rw[Yds];exact k2) hA1 hAB (by omega) hW
    rcases this with h| ⟨j,m,hj,hn⟩
    ·exact Or.inl h
    ·exact Or.inr (lift (by omega) hj hn)
   ·right
    refine⟨1,2*S+1,by omega,?_⟩
    unfold Near
    rw[YHr,Nat.pow_two,YHr,YGt,Yds]
    have g1:2^S*2^S*(2*M)<=2^S*2^S*(A*A/M+(4*w+2)):=YGk _ (by omega)
    have g2:2^S*2^S*cdiv (B*B) M<=2^S*2^S*(2*M+(4*w+2)):=YGk _ (by omega)
    generalize 2^S*2^S=P at*
    rw[YGQ]at g1 g2
    have e1:P*2*M=P*(2*M):=YGm ..
    have e2:P*2*(4*(w+2))=P*(4*w+2)+P*(4*w+14):=by rw[YGm,<-YGQ];congr 1;omega
    have e3:P*2*(M+4*(w+2))=P*(2*M)+(P*(4*w+2)+P*(4*w+14)):=by rw[YGQ,e1,e2]
    exact⟨by omega,by omega⟩
  ·rw[if_neg (by simp)]
   have c1:A*A/M/2*2<=A*A/M:=Nat.div_mul_le_self _ _
   have c2:cdiv (B*B) M<=cdiv (cdiv (B*B) M) 2*2:=Ybm _ _ (by decide)
   have e3:∀x,2^(2*S+1)*x=2^S*2^S*(x*2):=fun x=>by rw[YGt,Yds,YGm,YGj 2 x]
   have:=ih f (A*A/M/2) (cdiv (cdiv (B*B) M) 2) (2*S+1) (N*N) (2*w+2) (by omega) (by rw[e3];exact YGg (YGk _ c1) k1) (by rw[e3];exact YGg k2 (YGk _ c2)) (by omega) (YdI hAB) (Yay (by omega)) (Yay (by omega))
   rcases this with h| ⟨j,m,hj,hn⟩
   ·exact Or.inl h
   ·exact Or.inr (lift (by omega) hj hn)
theorem Near.up{M N:Nat}(hM:0<M):∀(d j W m:Nat),4^d*W<=M->Near M W j N m->∃m',Near M (4^d*W) (j+d) N m'
 |0,j,W,m,_,h=>⟨m,by rw[YHA,YGW];exact h⟩
 |d+1,j,W,m,hW,h=>by
  have e:4^(d+1)*W=4*(4^d*W):=by rw[YGt,YGj (4^d) 4,YGm]
  rw[e]at hW
  obtain⟨m',h'⟩:=Near.up hM d j W m (by omega) h
  exact⟨2*m',by rw[e];exact(Near.sq hM (by omega) h').mono (by omega)⟩
def Ye4(J n:Nat):Prop:=(lN n 2048).2<=(lN n 2048).1+2^(2048-J)
theorem YrP{n J:Nat}(h1:1<=n)(h2:n<4611686018427387904)(hJ:J<=500):Ye4 J n\/(YbN (n:Int)=false/\∃m,Near (2^4160) (2^2160) J n m):=by
 unfold Ye4 lN
 by_cases c:YbN (n:Int)=true
 ·rw[if_pos c]
  left;exact Nat.le_add_right _ _
 ·rw[if_neg c]
  have hk:lgK n<62:=Ydj (by decide) h2
  obtain⟨m1,m2,m3⟩:=mant (D:=2*2048+64) h1 (by omega)
  rw[show 2*2048+64=4160 from rfl]at*
  have hM:=YH 4160
  have:=Yq1 (2^4160) hM J 2048 _ _ (lgK n) n 0 (by omega) (YGu m3) (YGu m3.symm) m1 (YGr _) (YHn m2) (by omega)
  rcases this with h| ⟨j,m,hj,hn⟩
  ·exact Or.inl h
  ·right
   have e4:∀a,(4:Nat)^a=2^(2*a):=fun a=>by rw[show 4=2^2 from rfl,<-YGn]
   have hle:∀e,1001<=e->4^(J-j)*(4^j*(0+2))<=2^e:=fun e he=>by
    rw[<-YGm,<-YGo,show J-j+j=J by omega,e4,show 0+2=2^1 from rfl,<-YGo]
    exact YGs (by decide) (by omega)
   obtain⟨m',h'⟩:=Near.up hM (J-j) j _ m (hle 4160 (by decide)) hn
   rw[show j+(J-j)=J by omega]at h'
   exact⟨by simpa using c,m',h'.mono (hle 2160 (by decide))⟩
def Rt(R J x y m:Nat):Prop:=x^(2^J)<=2^m*R^(2^J)/\2^m*R^(2^J)<=y^(2^J)
theorem Rt.next{R J x y m c d:Nat}(hR:0<R)(h:Rt R J x y m)(hc:Rt R J c d 1):Rt R J (x*c/R) (y*d/R+1) (m+1):=by
 obtain⟨h1,h2⟩:=h
 obtain⟨c1,c2⟩:=hc
 rw[YHr]at c1 c2
 unfold Rt
 generalize 2^J=Q at*
 have hRQ:0<R^Q:=YGO hR
 rw[YGt]
 generalize 2^m=P at*
 constructor
 ·refine YGq (c:=R^Q) ?_ hRQ
  have k1:(x*c/R*R)^Q<=(x*c)^Q:=YGp (Nat.div_mul_le_self _ _) _
  rw[YGw,YGw]at k1
  have k2:=YGB h1 c1
  have e:P*R^Q*(2*R^Q)=P*2*R^Q*R^Q:=by simp only[YGm,YG5]
  omega
 ·refine YGq (c:=R^Q) ?_ hRQ
  have k0:y*d<=(y*d/R+1)*R:=by
   have:=YGP (y*d) R
   have h3:=YGJ (y*d) hR
   rw[YGG,YGW,YGj (y*d/R)];omega
  have k1:(y*d)^Q<=((y*d/R+1)*R)^Q:=YGp k0 _
  rw[YGw,YGw]at k1
  have k2:=YGB h2 c2
  have e:P*R^Q*(2*R^Q)=P*2*R^Q*R^Q:=by simp only[YGm,YG5]
  omega
theorem YoA{n J:Nat}(h1:1<=n)(h2:n<4611686018427387904)(hJ:J<=2045):Ye4 J n\/(YbN (n:Int)=false/\∃m,Near (2^4160) (2^4091) J n m):=by
 unfold Ye4 lN
 by_cases c:YbN (n:Int)=true
 ·rw[if_pos c]
  left;exact Nat.le_add_right _ _
 ·rw[if_neg c]
  have hk:lgK n<62:=Ydj (by decide) h2
  obtain⟨m1,m2,m3⟩:=mant (D:=2*2048+64) h1 (by omega)
  rw[show 2*2048+64=4160 from rfl]at*
  have hM:=YH 4160
  have:=Yq1 (2^4160) hM J 2048 _ _ (lgK n) n 0 (by omega) (YGu m3) (YGu m3.symm) m1 (YGr _) (YHn m2) (by omega)
  rcases this with h| ⟨j,m,hj,hn⟩
  ·exact Or.inl h
  ·right
   have e4:∀a,(4:Nat)^a=2^(2*a):=fun a=>by rw[show 4=2^2 from rfl,<-YGn]
   have hle:∀e,4091<=e->4^(J-j)*(4^j*(0+2))<=2^e:=fun e he=>by
    rw[<-YGm,<-YGo,show J-j+j=J by omega,e4,show 0+2=2^1 from rfl,<-YGo]
    exact YGs (by decide) (by omega)
   obtain⟨m',h'⟩:=Near.up hM (J-j) j _ m (hle 4160 (by decide)) hn
   rw[show j+(J-j)=J by omega]at h'
   exact⟨by simpa using c,m',h'.mono (hle 4091 (by decide))⟩
end Go.Proofs.YtmiclogmkfobgaaGreat
set_option maxRecDepth 100000
namespace Go.Proofs.YtmiclogmkfobgaaGreat.LS
theorem YCb(Q:Nat):∀n,Q^n*(Q+n)<=Q*(Q+1)^n
 |0=>by simp
 |n+1=>by
  have ih:=YCb Q n
  have h1:Q^(n+1)*(Q+(n+1))=Q*(Q^n*(Q+n))+Q*Q^n:=by
   rw[YGt,<-Nat.add_assoc,YGQ,YHj,YGj (Q^n) Q,YGm]
  have h2:Q*(Q+1)^(n+1)=Q*(Q*(Q+1)^n)+Q*(Q+1)^n:=by
   rw[YGt,YGQ,YHj,YGQ,YGj ((Q+1)^n) Q]
  have h3:=YGk Q (YGp (show Q<=Q+1 by omega) n)
  have h4:=YGk Q ih
  omega
theorem Yxx(Q:Nat):∀n,(Q+1)^n*(Q+1-n)<=Q^n*(Q+1)
 |0=>by simp
 |n+1=>by
  have ih:=Yxx Q n
  rcases YGz Q n with h|h
  ·have:Q+1-(n+1)=0:=by omega
   rw[this,Nat.mul_zero];exact YHk _
  ·obtain⟨r,rfl⟩:∃r,Q=n+r:=⟨Q-n,by omega⟩
   have e1:n+r+1-(n+1)=r:=by omega
   have e2:n+r+1-n=r+1:=by omega
   rw[e2]at ih
   rw[e1,YGt,YGt]
   have h1:=YGf (n+r) ih
   have h2:(n+r+1)*r<=(r+1)*(n+r):=by grind
   have h3:=YGk ((n+r+1)^n) h2
   grind
theorem YdN{a b c d e f:Nat}(hd:0<d)(h1:a*d<=c*b)(h2:c*f<=e*d):a*f<=e*b:=by
 refine YGq (c:=d) ?_ hd
 have k1:=YGf f h1
 have k2:=YGf b h2
 have e1:a*f*d=a*d*f:=by ac_rfl
 have e2:c*b*f=c*f*b:=by ac_rfl
 have e3:e*b*d=e*d*b:=by ac_rfl
 omega
theorem e_inc(K:Nat)(hK:0<K):(K+1)^K*(K+1)^(K+1)<=(K+2)^(K+1)*K^K:=by
 have h:=Yxx (K*(K+2)) K
 have e0:K*(K+2)+1=(K+1)*(K+1):=by grind
 rw[e0,YGw,YGw]at h
 have e1:(K+1)*(K+1)-K=K*K+K+1:=by
  have:(K+1)*(K+1)=K*K+K+1+K:=by grind
  omega
 rw[e1]at h
 have h2:=YGf (K+2) h
 have h3:(K+1)*(K+1)*(K+1)<=(K*K+K+1)*(K+2):=by grind
 have h4:=YGk ((K+1)^K*(K+1)^K) h3
 rw[YGt (K+1),YGt (K+2)]
 refine YGq (c:=(K+1)*(K+1)) ?_ (YHd (by omega) (by omega))
 generalize(K+1)^K=x at*
 generalize(K+2)^K=y at*
 generalize K^K=z at*
 generalize K+1=p at*
 generalize K*K+K+1=r at*
 generalize K+2=q at*
 have e2:x*(x*p)*(p*p)=x*x*(p*p*p):=by ac_rfl
 have e3:y*q*z*(p*p)=z*y*(p*p)*q:=by ac_rfl
 have e4:x*x*r*q=x*x*(r*q):=by ac_rfl
 omega
theorem e_dec(n:Nat):(n+2)^(n+2)*n^(n+1)<=(n+1)^(n+1)*(n+1)^(n+2):=by
 rcases YGI n with rfl|hn
 ·decide
 have h:=YCb (n*(n+2)) (n+1)
 have e0:n*(n+2)+1=(n+1)*(n+1):=by grind
 rw[e0,YGw,YGw]at h
 have h2:=YGf (n+2) h
 have h3:n*(n+2)*(n+2)<=(n+1)*(n*(n+2)+(n+1)):=by grind
 have h4:=YGk ((n+1)^(n+1)*(n+1)^(n+1)) h3
 rw[YGt (n+2) (n+1),YGt (n+1) (n+1)]
 refine YGq (c:=n*(n+2)+(n+1)) ?_ (by omega)
 generalize(n+1)^(n+1)=x at*
 generalize(n+2)^(n+1)=y at*
 generalize n^(n+1)=z at*
 generalize n*(n+2)+(n+1)=r at*
 generalize n+1=p at*
 generalize n+2=q at*
 have e2:y*q*z*r=z*y*r*q:=by ac_rfl
 have e3:x*(x*p)*r=x*x*(p*r):=by ac_rfl
 have e4:n*q*(x*x)*q=x*x*(n*q*q):=by ac_rfl
 omega
theorem YvG(K:Nat)(hK:0<K):∀j,(K+1)^K*(K+j)^(K+j)<=(K+j+1)^(K+j)*K^K
 |0=>YGr _
 |j+1=>YdN (YGO (show 0<K+j by omega)) (YvG K hK j) (e_inc (K+j) (by omega))
theorem YvK(n:Nat)(hn:0<n):∀j,(n+j+1)^(n+j+1)*n^(n+1)<=(n+1)^(n+1)*(n+j)^(n+j+1)
 |0=>YGu rfl
 |j+1=>by
  refine YdN (YGO (n:=n+j+1) (show 0<n+j by omega)) ?_ (YvK n hn j)
  have h:=e_dec (n+j)
  have e1:n+(j+1)+1=n+j+2:=by omega
  have e2:n+(j+1)=n+j+1:=by omega
  rw[e1,e2]
  exact h
theorem ab(m:Nat):(m+1)^m*m^(m+1)<=(m+1)^(m+1)*m^m:=by
 rw[YGt,YGt]
 have h:=YGk ((m+1)^m*m^m) (show m<=m+1 by omega)
 generalize(m+1)^m=x at*
 generalize m^m=y at*
 have e1:x*(y*m)=x*y*m:=by ac_rfl
 have e2:x*(m+1)*y=x*y*(m+1):=by ac_rfl
 omega
theorem YvR(K n:Nat):(K+1)^K*n^(n+1)<=(n+1)^(n+1)*K^K:=by
 rcases YGI K with rfl|hK
 ·have:=YGp (show n<=n+1 by omega) (n+1)
  simpa using this
 rcases YGI n with rfl|hn
 ·simp
 rcases Nat.le_total K n with h|h
 ·obtain⟨j,rfl⟩:∃j,n=K+j:=⟨n-K,by omega⟩
  exact YdN (YGO (n:=K+j) (show 0<K+j by omega)) (YvG K hK j) (ab (K+j))
 ·obtain⟨j,rfl⟩:∃j,K=n+j:=⟨K-n,by omega⟩
  refine YdN (YGO (n:=n+j+1) (show 0<n+j by omega)) (ab (n+j)) (YvK n hn j)
def A(L N:Nat):Nat->Nat->Nat
 |0,_=>0
 |d+1,s=>A L N d s*N+L/(d+1)*s^(d+1)
def Mul(L d:Nat):Prop:=∀i,i<d->L/(i+1)*(i+1)=L
theorem Mul.pred{L d:Nat}(h:Mul L (d+1)):Mul L d:=fun i hi=>h i (by omega)
theorem A_0(L N:Nat):∀d,A L N d 0=0
 |0=>rfl
 |d+1=>by rw[A,A_0 L N d,YGt];simp
theorem Yv9(s:Nat):∀d,(s+1)^(d+1)<=s^(d+1)+(d+1)*(s+1)^d
 |0=>by simp
 |d+1=>by
  have ih:=YGf (s+1) (Yv9 s d)
  have h:=YGp (show s<=s+1 by omega) (d+1)
  rw[YGt (s+1) (d+1),YGt s (d+1)]
  have e:(s^(d+1)+(d+1)*(s+1)^d)*(s+1)=s^(d+1)*s+s^(d+1)+(d+1)*((s+1)^d*(s+1)):=by grind
  rw[YGt (s+1) d]at*
  have e2:(d+1+1)*((s+1)^d*(s+1))=(d+1)*((s+1)^d*(s+1))+(s+1)^d*(s+1):=by grind
  omega
theorem Yv8(s:Nat):∀d,s^(d+1)+(d+1)*s^d<=(s+1)^(d+1)
 |0=>by simp
 |d+1=>by
  have ih:=YGf (s+1) (Yv8 s d)
  rw[YGt (s+1) (d+1),YGt s (d+1)]
  have e:(s^(d+1)+(d+1)*s^d)*(s+1)=s^(d+1)*s+s^(d+1)+(d+1)*(s^d*s)+(d+1)*s^d:=by grind
  rw[YGt s d]at*
  have e2:(d+1+1)*(s^d*s)=(d+1)*(s^d*s)+s^d*s:=by grind
  omega
theorem A_up(L v s:Nat):∀d,Mul L d->v*A L (v+s+1) d (s+1)+L*(s+1)^d<=v*A L (v+s+1) d s+L*(v+s+1)^d
 |0,_=>by simp [A]
 |d+1,hL=>by
  have ih:=YGf (v+s+1) (A_up L v s d hL.pred)
  have ht:=hL d (by omega)
  have hp:=YGk (v*(L/(d+1))) (Yv9 s d)
  rw[A,A,YGt (v+s+1)]
  generalize A L (v+s+1) d (s+1)=x at*
  generalize A L (v+s+1) d s=y at*
  generalize L/(d+1)=t at*
  rw[YGt (s+1)]at*
  generalize(s+1)^d=p at*
  generalize s^(d+1)=q at*
  generalize(v+s+1)^d=r at*
  have e1:v*t*(q+(d+1)*p)=v*t*q+v*p*(t*(d+1)):=by grind
  rw[e1,ht]at hp
  grind
theorem A_dn(L w s:Nat):∀d,Mul L d->w*A L (w+s) d s+L*(w+s)^d<=w*A L (w+s) d (s+1)+L*s^d
 |0,_=>by simp [A]
 |d+1,hL=>by
  have ih:=YGf (w+s) (A_dn L w s d hL.pred)
  have ht:=hL d (by omega)
  have hp:=YGk (w*(L/(d+1))) (Yv8 s d)
  rw[A,A,YGt (w+s)]
  generalize A L (w+s) d (s+1)=x at*
  generalize A L (w+s) d s=y at*
  generalize L/(d+1)=t at*
  rw[YGt s]at*
  generalize(s+1)^(d+1)=p at*
  generalize s^d=q at*
  generalize(w+s)^d=r at*
  have e1:w*t*(q*s+(d+1)*q)=w*t*(q*s)+w*q*(t*(d+1)):=by grind
  rw[e1,ht]at hp
  grind
theorem YoW(L N:Nat){s t:Nat}(h:s<=t):∀d,A L N d s<=A L N d t
 |0=>YGr _
 |d+1=>Nat.add_le_add (YGf _ (YoW L N h d)) (YGk _ (YGp h _))
theorem YDq{K n a W:Nat}(h:(n+1)*a<=W):(K+1)^(K*a)*n^W<=(n+1)^W*K^(K*a):=by
 have h1:=YGp (YvR K n) a
 rw[YGw,YGw,<-YGn,<-YGn,<-YGn,<-YGn]at h1
 obtain⟨r,rfl⟩:∃r,W=(n+1)*a+r:=⟨W-(n+1)*a,by omega⟩
 rw[YGo,YGo]
 have h2:=YGB h1 (YGp (show n<=n+1 by omega) r)
 refine YGg (YGu ?_) (YGg h2 (YGu ?_)) <;> ac_rfl
theorem YDo{K n a W:Nat}(hn:0<n)(h:W<=n*a):(n+1)^W*K^((K+1)*a)<=(K+1)^((K+1)*a)*n^W:=by
 have h1:=YGp (YvR n K) a
 rw[YGw,YGw,<-YGn,<-YGn,<-YGn,<-YGn]at h1
 obtain⟨r,hr⟩:∃r,n*a=W+r:=⟨n*a-W,by omega⟩
 rw[hr,YGo,YGo]at h1
 have h2:=YGp (show n<=n+1 by omega) r
 refine YGq (c:=n^r) ?_ (YGO hn)
 have h3:=YGk ((n+1)^W*K^((K+1)*a)) h2
 refine YGg h3 (YGg (YGu ?_) (YGg h1 (YGu ?_))) <;> ac_rfl
theorem Ywn(L K N d:Nat)(hL:Mul L d):∀s,s+1<=N->(K+1)^(K*A L N d s)*(N-1-s)^(L*N^d)<=(N-1)^(L*N^d)*K^(K*A L N d s)
 |0,_=>by rw[A_0];simp
 |s+1,hs=>by
  have ih:=Ywn L K N d hL s (by omega)
  obtain⟨n,rfl⟩:∃n,N=n+s+2:=⟨N-s-2,by omega⟩
  have hu:=A_up L (n+1) s d hL
  rw[show n+1+s+1=n+s+2 by omega]at hu
  have hm:=YoW L (n+s+2) (show s<=s+1 by omega) d
  rw[show n+s+2-1-s=n+1 by omega]at ih
  rw[show n+s+2-1-(s+1)=n by omega]
  obtain⟨a,ha⟩:∃a,A L (n+s+2) d (s+1)=A L (n+s+2) d s+a:=⟨_,(Nat.add_sub_cancel' hm).symm⟩
  rw[ha,YGQ]at hu
  have h1:=YDq (K:=K) (n:=n) (a:=a) (W:=L*(n+s+2)^d) (by omega)
  rw[ha,YGQ,YGo,YGo]
  refine YGq (c:=(n+1)^(L*(n+s+2)^d)) ?_ (YGO (by omega))
  have h2:=YGB ih h1
  refine YGg (YGu ?_) (YGg h2 (YGu ?_)) <;> ac_rfl
theorem Ywm(L K N d T S:Nat)(hL:Mul L d)(hS:S<N)(hT:L*S^d<=T*(N-S)):∀s,s<=S->(N+1)^(L*N^d)*K^((K+1)*(A L N d s+T*s))<=(K+1)^((K+1)*(A L N d s+T*s))*(N+1-s)^(L*N^d)
 |0,_=>by rw[A_0];simp
 |s+1,hs=>by
  have ih:=Ywm L K N d T S hL hS hT s (by omega)
  obtain⟨n,rfl⟩:∃n,N=n+s:=⟨N-s,by omega⟩
  have hd:=A_dn L n s d hL
  have hm:=YoW L (n+s) (show s<=s+1 by omega) d
  obtain⟨a,ha⟩:∃a,A L (n+s) d (s+1)=A L (n+s) d s+a:=⟨_,(Nat.add_sub_cancel' hm).symm⟩
  rw[ha,YGQ]at hd
  have hp:L*s^d<=T*n:=YGg (YGk _ (YGp (by omega) _)) (YGg hT (YGk _ (by omega)))
  rw[show n+s+1-s=n+1 by omega]at ih
  rw[show n+s+1-(s+1)=n by omega]
  have h1:=YDo (K:=K) (n:=n) (a:=a+T) (W:=L*(n+s)^d) (by omega) (by rw[YGQ,YGj n T];omega)
  have e:A L (n+s) d (s+1)+T*(s+1)=A L (n+s) d s+T*s+(a+T):=by rw[ha,YGQ];omega
  rw[e,YGQ (K+1),YGo,YGo]
  refine YGq (c:=(n+1)^(L*(n+s)^d)) ?_ (YGO (by omega))
  have h2:=YGB ih h1
  refine YGg (YGu ?_) (YGg h2 (YGu ?_)) <;> ac_rfl
theorem YoV(L N M u:Nat):∀d,A L (N*M) d (u*M)=M^d*A L N d u
 |0=>by simp [A]
 |d+1=>by
  rw[A,A,YoV L N M u d,YGw]
  generalize A L N d u=x
  generalize L/(d+1)=t
  rw[YGt M,YGQ]
  congr 1 <;> ac_rfl
theorem lim{X Y W:Nat}(h:∀M,0<M->Y*M^W<=X*(M+1)^W):Y<=X:=by
 refine YHy fun hlt=>?_
 have h1:=h (Y*W+W+1) (by omega)
 obtain⟨M,hM⟩:∃M,M=Y*W+W+1:=⟨_,rfl⟩
 rw[<-hM]at h1
 have h2:=Yxx M W
 have hp:0<M^W:=YGO (by omega)
 have k1:=YGf (M+1-W) h1
 have k2:=YGk X h2
 have k3:Y*(M+1-W)<=X*(M+1):=by
  refine Nat.le_of_mul_le_mul_left (c:=M^W) ?_ hp
  refine YGg (YGu ?_) (YGg k1 (YGg (YGu ?_) (YGg k2 (YGu ?_)))) <;> ac_rfl
 have k4:=YGf (M+1) (show X+1<=Y from hlt)
 rw[Nat.mul_sub]at k3
 rw[YGG]at k4
 have:Y*W<M+1:=by omega
 omega
theorem YfF{a b n:Nat}(hn:0<n)(h:a^n<=b^n):a<=b:=(Nat.pow_le_pow_iff_left (by omega)).1 h
theorem YDd{L K N d u:Nat}(hL:Mul L d)(hu:u<N):(K+1)^(K*A L N d u)*(N-u)^(L*N^d)<=N^(L*N^d)*K^(K*A L N d u):=by
 have h1:∀M,0<M->(K+1)^(K*A L N d u)*(N*M-1-u*M)^(L*N^d)<=(N*M-1)^(L*N^d)*K^(K*A L N d u):=fun M hM=>by
  have h:=Ywn L K (N*M) d hL (u*M) (by have:=Nat.mul_lt_mul_of_pos_right hu hM;omega)
  rw[YoV]at h
  have e1:K*(M^d*A L N d u)=K*A L N d u*M^d:=by ac_rfl
  have e2:L*(N*M)^d=L*N^d*M^d:=by rw[YGw];ac_rfl
  rw[e1,e2,YGn _ _ (M^d),YGn _ _ (M^d),YGn _ _ (M^d),YGn _ _ (M^d),<-YGw,<-YGw]at h
  exact YfF (YGO hM) h
 refine lim (W:=L*N^d) fun M hM=>?_
 have h:=h1 (M+1) (by omega)
 obtain⟨v,rfl⟩:∃v,N=v+u+1:=⟨N-u-1,by omega⟩
 have e1:v+u+1-u=v+1:=by omega
 have e2:(v+u+1)*(M+1)-1-u*(M+1)=(v+1)*M+v:=by
  have:(v+u+1)*(M+1)=(v+1)*M+v+1+u*(M+1):=by grind
  omega
 rw[e2]at h
 rw[e1]
 have k1:((v+1)*M)^(L*(v+u+1)^d)<=((v+1)*M+v)^(L*(v+u+1)^d):=YGp (by omega) _
 have k2:((v+u+1)*(M+1)-1)^(L*(v+u+1)^d)<=((v+u+1)*(M+1))^(L*(v+u+1)^d):=YGp (by omega) _
 rw[YGw]at k1 k2
 generalize L*(v+u+1)^d=W at*
 have k3:=YGk ((K+1)^(K*A L (v+u+1) d u)) k1
 have k4:=YGf (K^(K*A L (v+u+1) d u)) k2
 refine YGg (YGu ?_) (YGg k3 (YGg h (YGg k4 (YGu ?_)))) <;> ac_rfl
theorem YDc{L K N d u t:Nat}(hL:Mul L (d+1))(hu:u<N)(ht:L*u^(d+1)<=t*(N-u)):N^(L*N^(d+1))*K^((K+1)*(A L N (d+1) u+t*u))<=(K+1)^((K+1)*(A L N (d+1) u+t*u))*(N-u)^(L*N^(d+1)):=by
 have h1:∀M,0<M->(N*M+1)^(L*N^(d+1))*K^((K+1)*(A L N (d+1) u+t*u))<=(K+1)^((K+1)*(A L N (d+1) u+t*u))*(N*M+1-u*M)^(L*N^(d+1)):=fun M hM=>by
  have h:=Ywm L K (N*M) (d+1) (t*M^d) (u*M) hL (Nat.mul_lt_mul_of_pos_right hu hM) (by
   rw[<-Nat.sub_mul,YGw]
   have:=YGf (M^(d+1)) ht
   refine YGg (YGu ?_) (YGg this (YGu ?_))
   ·ac_rfl
   ·rw[YGt];ac_rfl) (u*M) (YGr _)
  rw[YoV]at h
  have e1:(K+1)*(M^(d+1)*A L N (d+1) u+t*M^d*(u*M))=(K+1)*(A L N (d+1) u+t*u)*M^(d+1):=by
   have:t*M^d*(u*M)=M^(d+1)*(t*u):=by rw[YGt];ac_rfl
   rw[this,<-YGQ];ac_rfl
  have e2:L*(N*M)^(d+1)=L*N^(d+1)*M^(d+1):=by rw[YGw];ac_rfl
  rw[e1,e2,YGn _ _ (M^(d+1)),YGn _ _ (M^(d+1)),YGn _ _ (M^(d+1)),YGn _ _ (M^(d+1)),<-YGw,<-YGw]at h
  exact YfF (YGO hM) h
 refine lim (W:=L*N^(d+1)) fun M hM=>?_
 have h:=h1 M hM
 obtain⟨v,rfl⟩:∃v,N=v+u+1:=⟨N-u-1,by omega⟩
 have e1:v+u+1-u=v+1:=by omega
 have e2:(v+u+1)*M+1-u*M=(v+1)*M+1:=by
  have:(v+u+1)*M=(v+1)*M+u*M:=by grind
  omega
 rw[e2]at h
 rw[e1]
 generalize(K+1)*(A L (v+u+1) (d+1) u+t*u)=e at*
 have k1:((v+u+1)*M)^(L*(v+u+1)^(d+1))<=((v+u+1)*M+1)^(L*(v+u+1)^(d+1)):=YGp (by omega) _
 have k2:((v+1)*M+1)^(L*(v+u+1)^(d+1))<=((v+1)*(M+1))^(L*(v+u+1)^(d+1)):=YGp (by rw[YGQ];omega) _
 rw[YGw]at k1 k2
 generalize L*(v+u+1)^(d+1)=W at*
 have k3:=YGf (K^e) k1
 have k4:=YGk ((K+1)^e) k2
 refine YGg (YGu ?_) (YGg k3 (YGg h (YGg k4 (YGu ?_)))) <;> ac_rfl
end Go.Proofs.YtmiclogmkfobgaaGreat.LS
set_option maxRecDepth 100000
namespace Go.Proofs.YtmiclogmkfobgaaGreat.LS
def Lo(B x y l:Nat):Prop:=(B*B+1)^(B*l)*y<=x*(B*B)^(B*l)
def Hi(B x y h:Nat):Prop:=x*(B*B)^(B*h)<=(B*B+1)^(B*h)*y
theorem Lo.mul{B x y l x' y' l':Nat}(h:Lo B x y l)(h':Lo B x' y' l'):Lo B (x*x') (y*y') (l+l'):=by
 unfold Lo at*
 rw[YGQ,YGo,YGo]
 refine YGg (YGu ?_) (YGg (YGB h h') (YGu ?_)) <;> ac_rfl
theorem Hi.mul{B x y l x' y' l':Nat}(h:Hi B x y l)(h':Hi B x' y' l'):Hi B (x*x') (y*y') (l+l'):=by
 unfold Hi at*
 rw[YGQ,YGo,YGo]
 refine YGg (YGu ?_) (YGg (YGB h h') (YGu ?_)) <;> ac_rfl
theorem Lo.cancel{B x y l z:Nat}(hz:0<z)(h:Lo B (x*z) (y*z) l):Lo B x y l:=by
 unfold Lo at*
 refine YGq (c:=z) ?_ hz
 refine YGg (YGu ?_) (YGg h (YGu ?_)) <;> ac_rfl
theorem Hi.cancel{B x y l z:Nat}(hz:0<z)(h:Hi B (x*z) (y*z) l):Hi B x y l:=by
 unfold Hi at*
 refine YGq (c:=z) ?_ hz
 refine YGg (YGu ?_) (YGg h (YGu ?_)) <;> ac_rfl
theorem Lo.mono{B x y l l':Nat}(hB:0<B)(h:Lo B x y l)(hl:l'<=l):Lo B x y l':=by
 unfold Lo at*
 obtain⟨r,rfl⟩:∃r,l=l'+r:=⟨l-l',by omega⟩
 rw[YGQ,YGo,YGo]at h
 have h2:=YGp (show B*B<=B*B+1 by omega) (B*r)
 have hp:0<(B*B)^(B*r):=YGO (YHd hB hB)
 refine YGq (c:=(B*B)^(B*r)) ?_ hp
 have h3:=YGk ((B*B+1)^(B*l')*y) h2
 refine YGg h3 (YGg (YGu ?_) (YGg h (YGu ?_))) <;> ac_rfl
theorem Hi.mono{B x y l l':Nat}(hB:0<B)(h:Hi B x y l)(hl:l<=l'):Hi B x y l':=by
 unfold Hi at*
 obtain⟨r,rfl⟩:∃r,l'=l+r:=⟨l'-l,by omega⟩
 rw[YGQ,YGo,YGo]
 have h2:=YGp (show B*B<=B*B+1 by omega) (B*r)
 have h3:=YGB h h2
 refine YGg (YGu ?_) (YGg h3 (YGu ?_)) <;> ac_rfl
theorem Lo.half{B x y l m:Nat}(hB:0<B)(h:Lo B (x*x) (y*y) l)(hm:2*m<=l):Lo B x y m:=by
 have h:=Lo.mono hB h hm
 unfold Lo at*
 generalize B*B=K at*
 refine YfF (n:=2) (by decide) ?_
 rw[show B*(2*m)=B*m*2 by ac_rfl,YGn _ _ 2,YGn _ _ 2]at h
 rw[YGw,YGw,Nat.pow_two x,Nat.pow_two y]
 exact h
theorem Hi.half{B x y l m:Nat}(hB:0<B)(h:Hi B (x*x) (y*y) l)(hm:l<=2*m):Hi B x y m:=by
 have h:=Hi.mono hB h hm
 unfold Hi at*
 generalize B*B=K at*
 refine YfF (n:=2) (by decide) ?_
 rw[show B*(2*m)=B*m*2 by ac_rfl,YGn _ _ 2,YGn _ _ 2]at h
 rw[YGw,YGw,Nat.pow_two x,Nat.pow_two y]
 exact h
theorem Lo.one(B:Nat):Lo B 1 1 0:=by unfold Lo;simp
theorem Hi.one(B:Nat):Hi B 1 1 0:=by unfold Hi;simp
theorem Ynm:∀d,∃L,0<L/\Mul L d
 |0=>⟨1,by decide,fun i hi=>absurd hi (YG7 _)⟩
 |d+1=>by
  obtain⟨L,h0,h⟩:=Ynm d
  refine⟨L*(d+1),YHd h0 (by omega),fun i hi=>?_⟩
  have hd:(i+1)∣L*(d+1):=by
   rcases YGz i d with h1|h1
   ·exact Nat.dvd_trans ⟨L/(i+1),by rw[YGj];exact(h i h1).symm⟩ (Nat.dvd_mul_right _ _)
   ·obtain rfl:i=d:=by omega
    exact Nat.dvd_mul_left _ _
  exact Nat.div_mul_cancel hd
theorem lo_of{B L N d u l:Nat}(hB:0<B)(h0:0<L)(hL:Mul L d)(hu:u<N)(h:l*(L*N^d)<=B*A L N d u):Lo B N (N-u) l:=by
 have h1:=YDd (K:=B*B) hL hu
 have hW:0<L*N^d:=YHd h0 (YGO (by omega))
 obtain⟨r,hr⟩:∃r,B*B*A L N d u=B*l*(L*N^d)+r:=by
  have:=YGk B h
  refine⟨B*B*A L N d u-B*l*(L*N^d),?_⟩
  rw[YGm,YGm]at*
  omega
 rw[hr,YGo,YGo]at h1
 generalize L*N^d=W at*
 unfold Lo
 refine YfF hW ?_
 have hK:0<B*B:=YHd hB hB
 generalize B*B=K at*
 rw[YGw,YGw,<-YGn,<-YGn]
 have h2:=YGp (show K<=K+1 by omega) r
 have hp:0<K^r:=YGO hK
 refine YGq (c:=K^r) ?_ hp
 have h3:=YGk ((K+1)^(B*l*W)*(N-u)^W) h2
 refine YGg h3 (YGg (YGu ?_) (YGg h1 (YGu ?_))) <;> ac_rfl
theorem hi_of{B L N d u t l:Nat}(hB:0<B)(h0:0<L)(hL:Mul L (d+1))(hu:u<N)(ht:L*u^(d+1)<=t*(N-u))(h:B*(A L N (d+1) u+t*u)<=l*(L*N^(d+1)))(hl:l<=B):Hi B N (N-u) (l+1):=by
 have h1:=YDc (K:=B*B) hL hu ht
 have hW:0<L*N^(d+1):=YHd h0 (YGO (by omega))
 generalize A L N (d+1) u+t*u=a at*
 generalize L*N^(d+1)=W at*
 have ha:a<=B*W:=by
  have k1:1*a<=B*a:=YGf a hB
  have k2:=YGf W hl
  omega
 obtain⟨r,hr⟩:∃r,B*(l+1)*W=(B*B+1)*a+r:=by
  have k1:=YGk B h
  have e1:B*(l+1)*W=B*(l*W)+B*W:=by rw[YGQ,YHj,YGG,YGm]
  have e2:(B*B+1)*a=B*(B*a)+a:=by rw[YGG,YGW,YGm]
  exact⟨B*(l+1)*W-(B*B+1)*a,by omega⟩
 unfold Hi
 refine YfF hW ?_
 generalize B*B=K at*
 rw[YGw,YGw,<-YGn,<-YGn,hr,YGo,YGo]
 have h2:=YGp (show K<=K+1 by omega) r
 have h3:=YGB h1 h2
 refine YGg (YGu ?_) (YGg h3 (YGu ?_)) <;> ac_rfl
def S(B N:Nat):Nat->Nat
 |0=>0
 |d+1=>S B N d+B/N^(d+1)/(d+1)
end Go.Proofs.YtmiclogmkfobgaaGreat.LS
set_option maxRecDepth 100000
namespace Go.Proofs.YtmiclogmkfobgaaGreat.LS
def G(B N:Nat):Nat->Nat->Nat
 |0,y=>y
 |k+1,y=>G B N k ((B/(k+1)+y)/N)
theorem G_lo(B L N:Nat):∀k y,Mul L k->G B N k y*(L*N^k)<=B*A L N k 1+L*y
 |0,y,_=>by simp [G,A,YGj]
 |k+1,y,hL=>by
  have ih:=YGf N (G_lo B L N k ((B/(k+1)+y)/N) hL.pred)
  have ht:=hL k (by omega)
  have h1:=YGk L (Nat.div_mul_le_self (B/(k+1)+y) N)
  have h2:=YGk (L/(k+1)) (Nat.div_mul_le_self B (k+1))
  rw[G,A,Nat.one_pow,YHj]
  generalize(B/(k+1)+y)/N=z at*
  generalize B/(k+1)=q at*
  generalize A L N k 1=a at*
  generalize L/(k+1)=t at*
  have e1:G B N k z*(L*N^(k+1))=G B N k z*(L*N^k)*N:=by rw[YGt];ac_rfl
  have e2:t*(q*(k+1))=t*(k+1)*q:=by ac_rfl
  rw[e2,ht]at h2
  rw[e1]
  grind
theorem G_hi(B L N:Nat)(hN:2<=N):∀k y,Mul L k->B*A L N k 1+L*(y+2)<=(G B N k y+2)*(L*N^k)
 |0,y,_=>by simp [G,A,YGj]
 |k+1,y,hL=>by
  have ih:=YGf N (G_hi B L N hN k ((B/(k+1)+y)/N) hL.pred)
  have ht:=hL k (by omega)
  have h1:B/(k+1)+y+1<=(B/(k+1)+y)/N*N+N:=by
   have:=YGP (B/(k+1)+y) N
   have:=YGJ (B/(k+1)+y) (show 0<N by omega)
   rw[YGj ((B/(k+1)+y)/N)];omega
  have h2:B<=(B/(k+1)+1)*(k+1):=by
   have:=YGP B (k+1)
   have:=YGJ B (show 0<k+1 by omega)
   rw[YGG,YGW,YGj (B/(k+1))];omega
  rw[G,A,Nat.one_pow,YHj]
  generalize(B/(k+1)+y)/N=z at*
  generalize B/(k+1)=q at*
  generalize A L N k 1=a at*
  have k2:=YGk (L/(k+1)) h2
  generalize L/(k+1)=t at*
  have e1:(G B N k z+2)*(L*N^(k+1))=(G B N k z+2)*(L*N^k)*N:=by rw[YGt];ac_rfl
  have e2:t*((q+1)*(k+1))=t*(k+1)*(q+1):=by ac_rfl
  rw[e2,ht]at k2
  rw[e1]
  have k1:=YGk L (show q+1+y+2<=(z+2)*N by grind)
  generalize(G B N k z+2)*(L*N^k)=g at*
  grind
theorem G_is{B N d:Nat}(hB:0<B)(hN:2<=N)(hz:B<=N^(d+1))(hs:G B N (d+1) 0+3<=B):Lo B N (N-1) (G B N (d+1) 0)/\Hi B N (N-1) (G B N (d+1) 0+4):=by
 obtain⟨L,h0,hL⟩:=Ynm (d+1)
 have h1:=G_lo B L N (d+1) 0 hL
 have h2:=G_hi B L N hN (d+1) 0 hL
 rw[Nat.mul_zero,YHi]at h1
 refine⟨lo_of hB h0 hL (by omega) h1,hi_of (t:=L) (l:=G B N (d+1) 0+3) hB h0 hL (by omega) ?_ ?_ hs⟩
 ·rw[Nat.one_pow];exact YGk _ (by omega)
 ·have h3:B*L<=L*N^(d+1):=by rw[YGj];exact YGk _ hz
  rw[YHj,YGQ,show G B N (d+1) 0+3=G B N (d+1) 0+2+1 by omega,YGG (G B N (d+1) 0+2),YGW]
  omega
def hor(B N:Nat)(n:Nat):Nat->Nat:=
 Nat.rec (fun y=>y) (fun k ih y=>(fun b=>ih
  (YHH (YHc (YHH B (YHc b 1)) (YHH (YHc (YHH B (YHc b 2)) (YHH (YHc (YHH B (YHc b 3)) (YHH (YHc (YHH B (YHc b 4))
  (YHH (YHc (YHH B (YHc b 5)) (YHH (YHc (YHH B (YHc b 6)) (YHH (YHc (YHH B (YHc b 7)) (YHH (YHc (YHH B (YHc b 8)) y) N)) N)) N)) N)) N)) N)) N)) N)) (Nat.mul 8 k)) n
theorem YvX(B N:Nat):∀n y,hor B N n y=G B N (8*n) y
 |0,_=>rfl
 |n+1,y=>by
  have h:hor B N (n+1) y=hor B N n ((B/(8*n+1)+(B/(8*n+2)+(B/(8*n+3)+(B/(8*n+4)+(B/(8*n+5)+(B/(8*n+6)+(B/(8*n+7)+(B/(8*n+8)+y)/N)/N)/N)/N)/N)/N)/N)/N):=rfl
  rw[h,YvX B N n]
  rfl
def ser(B d N:Nat)(κ:Nat->Bool):Bool:=(fun y=>Bool.casesOn (YHG B (Nat.pow N (Nat.mul 8 d))) false (Bool.casesOn (YHG (YHc y 4) B) false (κ y))) (hor B N d 0)
theorem YsC{B d N:Nat}{κ:Nat->Bool}(hB:2<=B)(hN:2<=N)(h:ser B d N κ=true):∃y,Lo B N (N-1) y/\Hi B N (N-1) (y+4)/\κ y=true:=by
 have h:Bool.casesOn (motive:=fun _=>Bool) (YHG B (N^(8*d))) false (Bool.casesOn (YHG (hor B N d 0+4) B) false (κ (hor B N d 0)))=true:=h
 cases h1:YHG B (N^(8*d))with
 |false=>rw[h1]at h;cases h
 |true=>
  rw[h1]at h
  have h:Bool.casesOn (motive:=fun _=>Bool) (YHG (hor B N d 0+4) B) false (κ (hor B N d 0))=true:=h
  cases h2:YHG (hor B N d 0+4) B with
  |false=>rw[h2]at h;cases h
  |true=>
   rw[h2]at h
   have h1:=YG2 h1
   have h2:=YG2 h2
   rw[YvX]at h2 h
   obtain⟨e,he⟩:∃e,8*d=e+1:=by
    cases d with
    |zero=>rw[Nat.mul_zero,YHA]at h1;omega
    |succ d=>exact⟨8*d+7,by omega⟩
   rw[he]at h1 h2 h
   obtain⟨a,b⟩:=G_is (by omega) hN h1 (by omega)
   exact⟨_,a,b,h⟩
def St(B a la lb e:Nat):Prop:=(Lo B a 1 la/\Hi B a 1 (la+e))/\Lo B (a+1) 1 lb/\Hi B (a+1) 1 (lb+e)
def Two(B l2:Nat):Prop:=Lo B 2 1 l2/\Hi B 2 1 (l2+4)
theorem YvF{B a la lb e l2 y:Nat}(hB:0<B)(ha:1<=a)(h:St B a la lb e)(h2:Two B l2)(hy:Lo B ((2*a+1)*(2*a+1)) ((2*a+1)*(2*a+1)-1) y/\Hi B ((2*a+1)*(2*a+1)) ((2*a+1)*(2*a+1)-1) (y+4)):
 Lo B (2*a+1) 1 ((la+lb+(l2+l2)+y)/2)/\Hi B (2*a+1) 1 ((la+lb+(l2+l2)+y)/2+(e+7)):=by
 have e1:(2*a+1)*(2*a+1)-1=2*2*a*(a+1):=by
  have:(2*a+1)*(2*a+1)=2*2*a*(a+1)+1:=by grind
  omega
 rw[e1]at hy
 have hz:0<2*2*a*(a+1):=YHd (YHd (by decide) ha) (by omega)
 constructor
 ·have k:=Lo.mul (Lo.mul (Lo.mul h.1.1 h.2.1) (Lo.mul h2.1 h2.1)) hy.1
  have k2:Lo B ((2*a+1)*(2*a+1)*(2*2*a*(a+1))) (1*(2*2*a*(a+1))) (la+lb+(l2+l2)+y):=by
   unfold Lo at*
   refine YGg (YGu ?_) (YGg k (YGu ?_))
   ·simp only[YGW,YHj]
   ·ac_rfl
  exact Lo.half hB (Lo.cancel hz k2) (by omega)
 ·have k:=Hi.mul (Hi.mul (Hi.mul h.1.2 h.2.2) (Hi.mul h2.2 h2.2)) hy.2
  have k2:Hi B ((2*a+1)*(2*a+1)*(2*2*a*(a+1))) (1*(2*2*a*(a+1))) (la+e+(lb+e)+(l2+4+(l2+4))+(y+4)):=by
   unfold Hi at*
   refine YGg (YGu ?_) (YGg k (YGu ?_))
   ·ac_rfl
   ·simp only[YGW,YHj]
  exact Hi.half hB (Hi.cancel hz k2) (by omega)
theorem dbl_{B a l e l2:Nat}(hB:0<B)(h:Lo B a 1 l/\Hi B a 1 (l+e))(h2:Two B l2):Lo B (2*a) 1 (l+l2)/\Hi B (2*a) 1 (l+l2+(e+7)):=by
 have k1:=Lo.mul h.1 h2.1
 have k2:=Hi.mul h.2 h2.2
 rw[YGj a 2]at k1 k2
 exact⟨k1,Hi.mono hB k2 (by omega)⟩
theorem St_l{B a la lb e l2 lm:Nat}(hB:0<B)(h:St B a la lb e)(h2:Two B l2)(hm:Lo B (2*a+1) 1 lm/\Hi B (2*a+1) 1 (lm+(e+7))):St B (2*a) (la+l2) lm (e+7):=⟨dbl_ hB h.1 h2,hm⟩
theorem St_r{B a la lb e l2 lm:Nat}(hB:0<B)(h:St B a la lb e)(h2:Two B l2)(hm:Lo B (2*a+1) 1 lm/\Hi B (2*a+1) 1 (lm+(e+7))):St B (2*a+1) lm (lb+l2) (e+7):=by
 have:=dbl_ hB h.2 h2
 exact⟨hm,this⟩
def dfs(B c l2:Nat)(t:Nat->Nat->Bool)(k:Nat):Nat->Nat->Nat->Nat->Nat->Bool:=
 Nat.rec (fun _ _ _ _ _=>true) (fun _ ih s a la lb e=>(fun m=>ser B (Nat.succ (YHH c s)) (Nat.mul m m) (fun y=>(fun lm=>(fun e=>Bool.casesOn (t lm e) false (Bool.casesOn (ih (Nat.succ s) (Nat.mul 2 a) (YHc la l2) lm e) false (ih (Nat.succ s) m lm (YHc lb l2) e))) (YHc e 7)) (YHH (YHc (YHc (YHc la lb) (YHc l2 l2)) y) 2))) (Nat.succ (Nat.mul 2 a))) k
def Tst(B:Nat)(t:Nat->Nat->Bool)(m:Nat):Prop:=∃l e,Lo B m 1 l/\Hi B m 1 (l+e)/\t l e=true
theorem Yqz{B c l2:Nat}{t:Nat->Nat->Bool}(hB:2<=B)(h2:Two B l2):∀(k s a la lb e:Nat),dfs B c l2 t k s a la lb e=true->1<=a->St B a la lb e->∀j m,1<=j->j<=k->m%2=1->m/2^j=a->Tst B t m
 |0,_,_,_,_,_,_,_,_,j,m,h1,h2,_,_=>by omega
 |k+1,s,a,la,lb,e,h,ha,hs,j,m,hj1,hj2,hodd,hm=>by
  have h:ser B (c/s+1) ((2*a+1)*(2*a+1)) (fun y=>Bool.casesOn (motive:=fun _=>Bool) (t ((la+lb+(l2+l2)+y)/2) (e+7)) false (Bool.casesOn (dfs B c l2 t k (s+1) (2*a) (la+l2) ((la+lb+(l2+l2)+y)/2) (e+7)) false (dfs B c l2 t k (s+1) (2*a+1) ((la+lb+(l2+l2)+y)/2) (lb+l2) (e+7))))=true:=h
  have hN:2<=(2*a+1)*(2*a+1):=YGg (show 2<=3*1 by decide) (YGB (by omega) (by omega))
  obtain⟨y,y1,y2,h⟩:=YsC hB hN h
  have hmid:=YvF (by omega) ha hs h2 ⟨y1,y2⟩
  generalize(la+lb+(l2+l2)+y)/2=lm at*
  cases ht:t lm (e+7)with
  |false=>simp only[ht]at h;cases h
  |true=>
   simp only[ht]at h
   cases hl:dfs B c l2 t k (s+1) (2*a) (la+l2) lm (e+7)with
   |false=>simp only[hl]at h;cases h
   |true=>
    simp only[hl]at h
    obtain⟨i,rfl⟩:∃i,j=i+1:=⟨j-1,by omega⟩
    rw[YGt,<-YGv]at hm
    rcases YGI i with hi|hi
    ·subst hi
     rw[YHA,Nat.div_one]at hm
     obtain rfl:m=2*a+1:=by omega
     exact⟨lm,e+7,hmid.1,hmid.2,ht⟩
    ·rcases Nat.mod_two_eq_zero_or_one (m/2^i)with h0|h0
     ·exact Yqz hB h2 k _ _ _ _ _ hl (by omega) (St_l (by omega) hs h2 hmid) i m hi (by omega) hodd (by omega)
     ·exact Yqz hB h2 k _ _ _ _ _ h (by omega) (St_r (by omega) hs h2 hmid) i m hi (by omega) hodd (by omega)
def desc(B c l2:Nat)(f:Nat):Nat->Nat->(Nat->Nat->Nat->Bool)->Bool:=
 Nat.rec (fun _ _ _=>false) (fun _ ih s a κ=>Bool.casesOn (YHG a 1)
  (ih (Nat.pred s) (YHH a 2) (fun la lb e=>(fun m=>ser B (Nat.succ (YHH c s)) (Nat.mul m m) (fun y=>(fun lm=>(fun e=>Bool.casesOn (YGS (YHB a 2) 0) (κ lm (YHc lb l2) e) (κ (YHc la l2) lm e)) (YHc e 7)) (YHH (YHc (YHc (YHc la lb) (YHc l2 l2)) y) 2))) (Nat.succ (Nat.mul 2 (YHH a 2)))))
  (κ 0 l2 4)) f
theorem Yqy{B c l2:Nat}(hB:2<=B)(h2:Two B l2):∀(f s a:Nat)(κ:Nat->Nat->Nat->Bool),1<=a->desc B c l2 f s a κ=true->∃la lb e,St B a la lb e/\κ la lb e=true
 |0,_,_,_,_,h=>by cases h
 |f+1,s,a,κ,ha,h=>by
  have h:Bool.casesOn (motive:=fun _=>Bool) (YHG a 1) (desc B c l2 f (s-1) (a/2) (fun la lb e=>ser B (c/s+1) ((2*(a/2)+1)*(2*(a/2)+1)) (fun y=>Bool.casesOn (motive:=fun _=>Bool) (YGS (a%2) 0) (κ ((la+lb+(l2+l2)+y)/2) (lb+l2) (e+7)) (κ (la+l2) ((la+lb+(l2+l2)+y)/2) (e+7))))) (κ 0 l2 4)=true:=h
  cases hb:YHG a 1 with
  |true=>
   rw[hb]at h
   have:=YG2 hb
   obtain rfl:a=1:=by omega
   refine⟨0,l2,4,⟨⟨Lo.one B,?_⟩,h2.1,h2.2⟩,h⟩
   exact Hi.mono (by omega) (Hi.one B) (by omega)
  |false=>
   rw[hb]at h
   have ha2:2<=a:=Nat.lt_of_not_le fun hh=>by rw[Nat.ble_eq_true_of_le hh]at hb;cases hb
   obtain⟨la,lb,e,hs,h⟩:=Yqy hB h2 f _ _ _ (by omega) h
   have hN:2<=(2*(a/2)+1)*(2*(a/2)+1):=YGg (show 2<=3*1 by decide) (YGB (by omega) (by omega))
   obtain⟨y,y1,y2,h⟩:=YsC hB hN h
   have hmid:=YvF (by omega) (show 1<=a/2 by omega) hs h2 ⟨y1,y2⟩
   generalize(la+lb+(l2+l2)+y)/2=lm at*
   cases hc:YGS (a%2) 0 with
   |true=>
    simp only[hc]at h
    have h0:=YGD hc
    have:=St_l (by omega) hs h2 hmid
    rw[show 2*(a/2)=a by omega]at this
    exact⟨_,_,_,this,h⟩
   |false=>
    simp only[hc]at h
    have h0:a%2≠0:=fun e=>by rw[e]at hc;cases hc
    have:=St_r (by omega) hs h2 hmid
    rw[show 2*(a/2)+1=a by omega]at this
    exact⟨_,_,_,this,h⟩
def subD(B c:Nat)(t:Nat->Nat->Nat->Bool)(k s a:Nat):Bool:=
 ser B 300 2 (fun l2=>desc B c l2 100 s a (dfs B c l2 (t l2) k (Nat.succ s) a))
theorem Yz2{B c:Nat}{t:Nat->Nat->Nat->Bool}{k s a:Nat}(hB:2<=B)(ha:1<=a)(h:subD B c t k s a=true):∃l2,Two B l2/\∀j m,1<=j->j<=k->m%2=1->m/2^j=a->Tst B (t l2) m:=by
 obtain⟨l2,h1,h2,h⟩:=YsC hB (by decide) h
 obtain⟨la,lb,e,hs,hd⟩:=Yqy hB ⟨h1,h2⟩ _ _ _ _ ha h
 exact⟨l2,⟨h1,h2⟩,fun j m hj1 hj2 hodd hm=>Yqz hB ⟨h1,h2⟩ k _ _ _ _ _ hd ha hs j m hj1 hj2 hodd hm⟩
end Go.Proofs.YtmiclogmkfobgaaGreat.LS
set_option maxRecDepth 100000
namespace Go.Proofs.YtmiclogmkfobgaaGreat.LS
theorem Lo.pow{B x l:Nat}(h:Lo B x 1 l)(q:Nat):Lo B (x^q) 1 (l*q):=by
 unfold Lo at*
 have h2:=YGp h q
 generalize B*B=K at*
 rw[YGw,YGw,Nat.one_pow,<-YGn,<-YGn,YGm]at h2
 exact h2
theorem Hi.pow{B x l:Nat}(h:Hi B x 1 l)(q:Nat):Hi B (x^q) 1 (l*q):=by
 unfold Hi at*
 have h2:=YGp h q
 generalize B*B=K at*
 rw[YGw,YGw,Nat.one_pow,<-YGn,<-YGn,YGm]at h2
 exact h2
theorem cmp{B x y h l:Nat}(hB:0<B)(h1:Hi B x 1 h)(h2:Lo B y 1 l)(hl:h<=l):x<=y:=by
 have h2:=Lo.mono hB h2 hl
 unfold Lo Hi at*
 rw[YHj]at h1 h2
 exact YGq (YGg h1 h2) (YGO (YHd hB hB))
end Go.Proofs.YtmiclogmkfobgaaGreat.LS
namespace Go.Proofs.YtmiclogmkfobgaaGreat
open Go Go.Vx
theorem YDB{a b:Nat}(h:a<b):(2:Nat)^a<2^b:=(Nat.pow_lt_pow_iff_right (by decide)).2 h
theorem Rt.up{R J x y m:Nat}(d:Nat)(h:Rt R J x y m):Rt R (J+d) x y (m*2^d):=by
 obtain⟨h1,h2⟩:=h
 unfold Rt
 have k1:=YGp h1 (2^d)
 have k2:=YGp h2 (2^d)
 rw[YGw,<-YGn,<-YGn,<-YGn,<-YGo]at k1 k2
 exact⟨k1,k2⟩
theorem Rt.le{R J x y m B:Nat}(h:Rt R J x y m)(hm:m<=B*2^J):x<=2^B*R:=by
 have hQ:=YH J
 rw[<-Nat.pow_le_pow_iff_left (show 2^J≠0 by omega),YGw,<-YGn]
 exact YGg h.1 (YGf _ (YGs (by decide) hm))
def sq(n:Nat)(f:Nat->Bool):Bool:=Nat.rec (f 0) (fun k _=>f (Nat.succ k)) n
theorem YuS{J J' n:Nat}(h:Ye4 J n)(h1:J<=J')(h2:J'<=2048):(lN n 2048).2<=(lN n 2048).1+2^(J'-J)*2^(2048-J'):=by
 rw[<-YGo,show J'-J+(2048-J')=2048-J by omega]
 exact h
theorem YkB:∀q,q<62->YbN ((2^q:Nat):Int)=true:=by decide
end Go.Proofs.YtmiclogmkfobgaaGreat
set_option maxRecDepth 100000
namespace Go.Proofs.YtmiclogmkfobgaaGreat.LS
open Go Go.Vx
theorem YnP{a b:Nat}(h:2^a<=2^b):a<=b:=(Nat.pow_le_pow_iff_right (show 1<2 by decide)).1 h
theorem YDB{a b:Nat}(h:a<b):(2:Nat)^a<2^b:=(Nat.pow_lt_pow_iff_right (by decide)).2 h
theorem YsV{M W:Nat}:∀k,k*W<=M->(M-k*W)*(M+W)^k<=M^k*M
 |0,_=>by simp
 |k+1,h=>by
  rw[YGG,YGW]at h
  have ih:=YsV (M:=M) (W:=W) k (by omega)
  rw[YGt,YGt]
  obtain⟨x,hx⟩:∃x,M=(k+1)*W+x:=⟨M-(k+1)*W,by rw[YGG,YGW];omega⟩
  have e1:M-(k+1)*W=x:=by omega
  have e2:M-k*W=W+x:=by rw[YGG,YGW]at hx;omega
  rw[e1]
  rw[e2]at ih
  have h3:x*(M+W)<=(W+x)*M:=by
   have:x*(M+W)=x*M+x*W:=YGQ ..
   have:(W+x)*M=W*M+x*M:=YGG ..
   have:x*W<=W*M:=by rw[YGj];exact YGk W (by omega)
   omega
  have h4:=YGk ((M+W)^k) h3
  have h5:=YGf M ih
  generalize(M+W)^k=p at*
  generalize M^k=r at*
  have e3:x*(p*(M+W))=p*(x*(M+W)):=by rw[YG5]
  have e4:p*((W+x)*M)=(W+x)*p*M:=by rw[YG5,YGm]
  omega
theorem YqF{M W:Nat}(hWM:W<=M):∀k,k*W<=M->M^k*(M-k*W)<=(M-W)^k*M
 |0,_=>by simp
 |k+1,h=>by
  rw[YGG,YGW]at h
  have ih:=YqF hWM k (by omega)
  rw[YGt,YGt]
  obtain⟨V,hV⟩:∃V,M=W+V:=⟨M-W,by omega⟩
  have e0:M-W=V:=by omega
  obtain⟨x,hx⟩:∃x,M=(k+1)*W+x:=⟨M-(k+1)*W,by rw[YGG,YGW];omega⟩
  have e1:M-(k+1)*W=x:=by omega
  have e2:M-k*W=W+x:=by rw[YGG,YGW]at hx;omega
  rw[e1,e0]
  rw[e2,e0]at ih
  have h3:M*x<=(W+x)*V:=by
   have:M*x=W*x+V*x:=by rw[hV,YGG]
   have:(W+x)*V=W*V+x*V:=YGG ..
   have:W*x<=W*V:=YGk W (by rw[YGG,YGW]at hx;omega)
   have:V*x=x*V:=YGj ..
   omega
  have h4:=YGk (M^k) h3
  have h5:=YGf V ih
  generalize V^k=p at*
  generalize M^k=r at*
  have e3:r*M*x=r*(M*x):=YGm ..
  have e4:r*((W+x)*V)=r*(W+x)*V:=by rw[YGm]
  have e5:p*V*M=p*M*V:=Nat.mul_right_comm ..
  omega
theorem YuT{M W Z P m:Nat}(hM:2*(P*W)<=M)(hP:1<=P)(hM0:0<M)(h1:2^m*M<=Z*M+2^m*W)(h2:Z*M<=2^m*(M+W)):2^(m*P)<=2*Z^P/\Z^P<=2*2^(m*P):=by
 have hPW:W<=P*W:=Nat.le_mul_of_pos_left W hP
 have u:=YsV (M:=M) (W:=W) P (by omega)
 have d:=YqF (M:=M) (W:=W) (by omega) P (by omega)
 have hMP:0<M^P:=YGO hM0
 have h1':2^m*(M-W)<=Z*M:=by rw[Nat.mul_sub];omega
 have k1:=YGp h1' P
 have k2:=YGp h2 P
 rw[YGw,YGw,<-YGn]at k1 k2
 generalize 2^(m*P)=A at*
 generalize Z^P=B at*
 generalize(M+W)^P=C at*
 generalize(M-W)^P=D at*
 generalize M^P=E at*
 constructor
 ·refine YGq (c:=E*M) ?_ (YHd hMP hM0)
  have a1:M<=2*(M-P*W):=by omega
  have a2:=YGk (A*E) a1
  have a3:=YGk A d
  have a4:=YGf M k1
  generalize M-P*W=V at*
  grind
 ·refine YGq (c:=E*M) ?_ (YHd hMP hM0)
  have a1:M<=2*(M-P*W):=by omega
  have a2:=YGk (A*C) a1
  have a3:=YGk A u
  have a4:=YGf M k2
  generalize M-P*W=V at*
  grind
theorem Yut{n J P a b q x y m:Nat}(hxy:y+P+1<=x)(hP:2<=P)(l:2^a<=n^(2^(J+P)))(u:n^(2^(J+P))<=2^b)(h1:q*2^P+2<=a)(h2:b+2<=(q+1)*2^P)(hm:Near (2^x) (2^y) J n m):False:=by
 have e:n^(2^(J+P))=(n^(2^J))^(2^P):=by rw[<-YGn,YGo]
 rw[e]at l u
 have hbig:2*(2^P*2^y)<=2^x:=by
  rw[<-YGo,<-Nat.pow_succ']
  exact YGs (by decide) (by omega)
 obtain⟨g1,g2⟩:=YuT (P:=2^P) hbig (Nat.two_pow_pos P) (YH x) hm.1 hm.2
 have c1:2^a<=2^(m*2^P+1):=by rw[YGt];omega
 have c2:2^(m*2^P)<=2^(b+1):=by rw[YGt];omega
 have d1:=YnP c1
 have d2:=YnP c2
 have hQ:=YH P
 generalize 2^P=Q at*
 rcases YGz q m with h|h
 ·have:=YGf Q (show q+1<=m from h)
  omega
 ·have:=YGf Q h
  omega
def tstG(Q R l2 l e:Nat):Bool:=
 (fun a=>(fun b=>(fun q=>Bool.and (Bool.and (YHG 1 l2) (YHG (YHc (Nat.mul q R) 2) a)) (YHG (YHc b 2) (Nat.mul (Nat.succ q) R))) (YHH a R)) (Nat.succ (YHH (Nat.mul (YHc l e) Q) l2))) (YHH (Nat.mul l Q) (YHc l2 4))
theorem Yz8{B J P l2 n:Nat}(hB:2<=B)(h2:Two B l2)(h:Tst B (tstG (2^(J+P)) (2^P) l2) n):∃a b q,2^a<=n^(2^(J+P))/\n^(2^(J+P))<=2^b/\q*2^P+2<=a/\b+2<=(q+1)*2^P:=by
 obtain⟨l,e,h3,h4,ht⟩:=h
 have ht:=Bool.and_eq_true_iff.1 ht
 have t0:=Bool.and_eq_true_iff.1 ht.1
 have hl:0<l2:=YG2 t0.1
 have t1:=YG2 t0.2
 have t2:=YG2 ht.2
 refine⟨_,_,_,?_,?_,t1,t2⟩
 ·refine cmp (by omega) (Hi.pow h2.2 _) (Lo.pow h3 _) ?_
  show(l2+4)*(l*2^(J+P)/(l2+4))<=_
  exact Nat.mul_div_le _ _
 ·refine cmp (by omega) (Hi.pow h4 _) (Lo.pow h2.1 _) ?_
  show(l+e)*2^(J+P)<=l2*((l+e)*2^(J+P)/l2+1)
  have:=YGP ((l+e)*2^(J+P)) l2
  have:=YGJ ((l+e)*2^(J+P)) hl
  rw[YGQ,YHj];omega
def far2(J n:Nat):Prop:=∀m,¬Near (2^4160) (2^4091) J n m
theorem Yur{J n:Nat}(hn:1<=n)(h:far2 J n):far2 J (2*n):=by
 intro m hm
 have hlo:2^J<=m:=by
  refine YHy fun hlt=>?_
  have g:=hm.2
  have k1:2^(m+1)<=(2*n)^2^J:=YGg (YGs (by decide) hlt) (by rw[YGw];exact Nat.le_mul_of_pos_right _ (YGO hn))
  have hW:(2:Nat)^4091<2^4160:=YDB (a:=4091) (b:=4160) (by decide)
  have hm0:=YH m
  rw[YGt]at k1
  generalize(2:Nat)^4160=M at*
  generalize(2:Nat)^4091=W at*
  generalize(2*n)^2^J=X at*
  generalize 2^m=R at*
  have k2:=YGf M k1
  have e:R*2*M=R*(M+M):=by rw[YGm,Nat.two_mul]
  have k3:=Nat.mul_lt_mul_of_pos_left (show M+W<M+M by omega) hm0
  omega
 obtain⟨m',rfl⟩:∃m',m=2^J+m':=⟨m-2^J,by omega⟩
 refine h m' ?_
 obtain⟨h1,h2⟩:=hm
 rw[YGw,YGo]at h1 h2
 unfold Near
 have hQ:=YH (2^J)
 generalize(2:Nat)^4160=M at*
 generalize(2:Nat)^4091=W at*
 generalize 2^2^J=Q at*
 generalize n^2^J=X at*
 generalize 2^m'=R at*
 constructor
 ·refine Nat.le_of_mul_le_mul_left (c:=Q) ?_ hQ
  rw[YGQ]
  simp only[<-YGm]at h1⊢
  exact h1
 ·refine Nat.le_of_mul_le_mul_left (c:=Q) ?_ hQ
  simp only[<-YGm]at h2⊢
  exact h2
theorem YuV{J B:Nat}(h:∀n,3<=n->n<=B->n%2=1->far2 J n):∀n,1<=n->n<=B->(∃q,n=2^q)\/far2 J n:=by
 intro n
 induction n using Nat.strongRecOn with
 |_ n ih=>
  intro h1 hB
  by_cases ho:n%2=0
  ·obtain⟨j,rfl⟩:∃j,n=2*j:=⟨n/2,by omega⟩
   rcases ih j (by omega) (by omega) (by omega)with⟨q,hq⟩ |hf
   ·exact Or.inl ⟨q+1,by rw[YGt,<-hq,YGj]⟩
   ·exact Or.inr (Yur (by omega) hf)
  ·by_cases h3:n=1
   ·exact Or.inl ⟨0,h3⟩
   ·exact Or.inr (h n (by omega) hB (by omega))
theorem narrow_far2{J n:Nat}(hJ:J<=2045)(h1:1<=n)(h2:n<2^61)(h:(∃q,n=2^q)\/far2 J n):Ye4 J n:=by
 rcases YoA h1 (Nat.lt_trans h2 (by decide)) hJ with hn| ⟨hp,m,hm⟩
 ·exact hn
 ·exfalso
  rcases h with⟨q,hq⟩ |h
  ·have hq2:q<61:=(Nat.pow_lt_pow_iff_right (show 1<2 by decide)).1 (by rw[<-hq];exact h2)
   rw[hq,YkB q (by omega)]at hp
   cases hp
  ·exact h m hm
def pT(n:Nat):Nat:=Nat.pow 2 n
def lB:Nat:=pT 2120
def lQ:Nat:=pT (2043+60)
def lR:Nat:=pT 60
def subL(k s a:Nat):Bool:=subD lB 134 (tstG lQ lR) k s a
theorem YDt(n:Nat):pT n=2^n:=rfl
theorem lQ_is:lQ=2^(2043+60):=by unfold lQ;rw[YDt]
theorem lR_is:lR=2^60:=YDt 60
theorem pT_le{a b:Nat}(h:a<=b):pT a<=pT b:=YGs (by decide) h
theorem YCR:2<=lB:=pT_le (a:=1) (b:=2120) (by decide)
theorem YsO{k s a:Nat}(ha:1<=a)(h:subL k s a=true):∀j m,1<=j->j<=k->m%2=1->m/2^j=a->far2 2043 m:=by
 obtain⟨l2,h2,hd⟩:=Yz2 YCR ha h
 intro j m hj1 hj2 hodd hm x hx
 have ht:=hd j m hj1 hj2 hodd hm
 rw[lQ_is,lR_is]at ht
 obtain⟨a',b,q,g1,g2,g3,g4⟩:=Yz8 YCR h2 ht
 exact Yut (x:=4160) (y:=4091) (by decide) (by decide) g1 g2 g3 g4 hx
end Go.Proofs.YtmiclogmkfobgaaGreat.LS
