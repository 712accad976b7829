/- Intervals, walked: the program's functions. -/
import Derived.Test.YtijadllhfgajlaaGreatMgX3e
import Derived.Test.YtijadllhfgajlaaGreatMgX3c
open And renaming intro->YGV
open Bool renaming and_eq_false_iff->YG9,and_eq_true->YGA,false_and->YHx,false_eq_true->YGM,false_or->YHv,not_and->YHD,not_eq_false'->YHe,not_eq_true'->YGP,not_true->YHL,or_eq_false_iff->YHA,or_eq_true->YHd,true_and->YHn
open Int renaming eq_ofNat_of_zero_le->YGT,mul_le_mul_of_nonneg_right->YGS,toNat->YHQ,toNat_natCast->YGv,toNat_zero->YHJ
open Go.IntWalk renaming i64_in->YGy,u64_in->YGR,up_tdiv->YHq
open List renaming length_cons->YHF,mem_append->YG2,mem_cons->YGQ,mem_cons_of_mem->YGK,mem_cons_self->YGI,mem_singleton->YHa,take_length->YHm
open Nat renaming add->YHG,add_mul->YG8,add_zero->YHw,div_add_mod->YG3,div_div_eq_div_mul->YGL,div_eq_of_lt->YHs,div_le_self->YHr,eq_zero_or_pos->YG7,gcd->YHO,le_div_iff_mul_le->YHg,le_of_eq->YHM,le_of_lt->YHp,le_refl->YGH,le_trans->YGF,lt_of_le_of_lt->YGU,lt_of_lt_of_le->YG1,lt_or_ge->YGN,mod_eq_of_lt->YHb,mod_lt->YG0,mul->YHS,mul_add->YHy,mul_assoc->YGE,mul_comm->YGC,mul_le_mul->YGX,mul_le_mul_left->YGO,mul_le_mul_right->YGD,mul_left_comm->YHc,mul_pos->YHP,not_lt_zero->YHH,one_mul->YHz,pow_add->YGJ,pow_le_pow_left->YHk,pow_le_pow_right->YGG,pow_mul->YHj,pow_succ->YGZ,reduceAdd->YGu,reduceEqDiff->YGs,reduceLeDiff->YGt,reduceMul->YHI,succ_mul->YHN,zero_add->YHC,zero_le->YHl
open Or renaming inr->YHT
open Go.Proofs.Tryz renaming prog->YGw
set_option linter.all false
namespace Go.Proofs.YtijadllhfgajlaaGreat
open Go Go.Vx
set_option maxRecDepth 100000
set_option maxHeartbeats 4000000
def v31:VF:=⟨37,[.cell 4 true 2,.tmp 5],(ZR [u1 2 .box [.tm 0],u1 3 .box [.tm 1],Zn 4,Zi 5 0] (.seq (ZR [Zt 7 2 2,Zt 8 2 3,u1 9 (.buildSlice 2 2 [(.int .i64 0),(.int .i64 0)] [(0,2),(2,2)]) [.tm 7,.tm 8],Zc 10 51 9,Zm 6 10] (ZR [Zm 11 6,Zq 12 .neq 11 0] (ZC 12 (ZR [u1 13 (.build [(.int .i64 0),(.int .i64 0)] []) [],Zm 14 6,Zs 2 4 13,Zm 5 14] .ret) .skip))) (.seq (ZR [Za 15 1 2,Zf 16 1 15,Zq 17 .eql 16 4611686018427387904,Zm 18 17,Zj 19 18 true 1 3,Zh 20 18 true 1 19,u2 21 18 true (.cmp .eql) [.tm 20,.cn (.int .i64 4611686018427387904)],u1 22 .and [.tm 18,.tm 21]] (ZC 22 (ZR [u1 23 (.build [(.int .i64 0),(.int .i64 0)] []) [],Zs 2 4 23,Zi 5 7] .ret) .skip)) (ZR [Za 24 0 2,Zf 25 1 24,Za 26 0 3,Zf 27 1 26,Zo 28 .add 25 27,Za 29 1 2,Zf 30 1 29,Za 31 1 3,Zf 32 1 31,Zo 33 .add 30 32,Zd 34 57 28 33,Ze 35 0 34,Ze 36 1 34,Zs 2 4 35,Zm 5 36] .ret))))⟩
theorem YFy:Yf YGw Tryz.f31=some v31:=by kernel_rfl
def v26:VF:=⟨26,[.cell 4 true 2,.tmp 5],(ZR [u1 2 .box [.tm 0],u1 3 .box [.tm 1],Zn 4,Zi 5 0] (.seq (ZR [Zt 7 2 2,Zt 8 2 3,u1 9 (.buildSlice 2 2 [(.int .i64 0),(.int .i64 0)] [(0,2),(2,2)]) [.tm 7,.tm 8],Zc 10 51 9,Zm 6 10] (ZR [Zm 11 6,Zq 12 .neq 11 0] (ZC 12 (ZR [u1 13 (.build [(.int .i64 0),(.int .i64 0)] []) [],Zm 14 6,Zs 2 4 13,Zm 5 14] .ret) .skip))) (ZR [Zt 15 2 2,Za 16 1 3,Zf 17 1 16,u1 18 .neg [.tm 17],Za 19 0 3,Zf 20 1 19,u1 21 .neg [.tm 20],u1 22 (.build [(.int .i64 0),(.int .i64 0)] [(0,1),(1,1)]) [.tm 18,.tm 21],Zd 23 31 15 22,Ze 24 0 23,Ze 25 1 23,Zs 2 4 24,Zm 5 25] .ret)))⟩
theorem YFt:Yf YGw Tryz.f26=some v26:=by kernel_rfl
def v42:VF:=⟨41,[.cell 4 true 2,.tmp 5],(ZR [u1 2 .box [.tm 0],u1 3 .box [.tm 1],Zn 4,Zi 5 0] (.seq (ZR [Zt 8 2 2,Zt 9 2 3,u1 10 (.buildSlice 2 2 [(.int .i64 0),(.int .i64 0)] [(0,2),(2,2)]) [.tm 8,.tm 9],Zc 11 51 10,Zm 6 11] (ZR [Zm 12 6,Zq 13 .neq 12 0] (ZC 13 (ZR [u1 14 (.build [(.int .i64 0),(.int .i64 0)] []) [],Zm 15 6,Zs 2 4 14,Zm 5 15] .ret) .skip))) (.seq (.draw [(7,.arr 4 3 [(.bool false),(.int .u64 0),(.int .u64 0),(.bool false),(.int .u64 0),(.int .u64 0),(.bool false),(.int .u64 0),(.int .u64 0),(.bool false),(.int .u64 0),(.int .u64 0)])] [Zy 16 0 2,Zv 17 1 16,Zy 18 0 3,Zv 19 1 18,Zy 21 0 2,Zv 22 1 21,Zy 23 1 3,Zv 24 1 23,Zy 26 1 2,Zv 27 1 26,Zy 28 0 3,Zv 29 1 28,Zy 31 1 2,Zv 32 1 31,Zy 33 1 3,Zv 34 1 33,Zz 20 52 17 19,Zz 25 52 22 24,Zz 30 52 27 29,Zz 35 52 32 34,w1 36 (.build [(.bool false),(.int .u64 0),(.int .u64 0),(.bool false),(.int .u64 0),(.int .u64 0),(.bool false),(.int .u64 0),(.int .u64 0),(.bool false),(.int .u64 0),(.int .u64 0)] [(0,3),(3,3),(6,3),(9,3)]) [.tm 20,.tm 25,.tm 30,.tm 35],ZS 12 7 36]) (ZR [u1 37 (.sliceArr 4 3 false false) [.tm 7],u1 38 (.call 66) [.cn (.int .u64 1),.tm 37],Ze 39 0 38,Ze 40 1 38,Zs 2 4 39,Zm 5 40] .ret))))⟩
theorem YFF:Yf YGw Tryz.f42=some v42:=by kernel_rfl
def v25:VF:=⟨89,[.cell 4 true 2,.tmp 5],(ZR [u1 2 .box [.tm 0],u1 3 .box [.tm 1],Zn 4,Zi 5 0] (.seq (ZR [Zt 13 2 2,Zt 14 2 3,u1 15 (.buildSlice 2 2 [(.int .i64 0),(.int .i64 0)] [(0,2),(2,2)]) [.tm 13,.tm 14],Zc 16 51 15,Zm 6 16] (ZR [Zm 17 6,Zq 18 .neq 17 0] (ZC 18 (ZR [u1 19 (.build [(.int .i64 0),(.int .i64 0)] []) [],Zm 20 6,Zs 2 4 19,Zm 5 20] .ret) .skip))) (.seq (ZR [Za 21 0 3,Zf 22 1 21,Zq 23 .leq 22 0,Zm 24 23,Zj 25 24 true 1 3,Zh 26 24 true 1 25,u2 27 24 true (.cmp .geq) [.tm 26,.cn (.int .i64 0)],u1 28 .and [.tm 24,.tm 27]] (ZC 28 (ZR [u1 29 (.build [(.int .i64 0),(.int .i64 0)] []) [],Zs 2 4 29,Zi 5 9] .ret) .skip)) (.seq (ZR [Za 30 1 3,Zf 31 1 30,Zq 32 .lss 31 0] (ZC 32 (.draw [] [Zy 33 1 2,Zv 34 1 33,w1 35 .neg [.tm 34],Zy 36 0 2,Zv 37 1 36,w1 38 .neg [.tm 37],w1 39 (.build [(.int .i64 0),(.int .i64 0)] [(0,1),(1,1)]) [.tm 35,.tm 38],Zy 40 1 3,Zv 41 1 40,w1 42 .neg [.tm 41],Zy 43 0 3,Zv 44 1 43,w1 45 .neg [.tm 44],w1 46 (.build [(.int .i64 0),(.int .i64 0)] [(0,1),(1,1)]) [.tm 42,.tm 45],⟨Zs 2 2 39,[.tm 40,.tm 43]⟩,ZS 2 3 46]) .skip)) (.seq (.draw [] [Zy 47 1 3,Zv 48 1 47,Zy 49 0 3,Zv 50 1 49,Zu 7 48,Zu 8 50]) (.seq (ZR [Za 51 0 2,Zf 52 1 51,Zq 53 .lss 52 0] (ZC 53 (.region [Za 54 0 3,Zf 55 1 54,Zm 7 55]) .skip)) (.seq (ZR [Za 56 1 2,Zf 57 1 56,Zq 58 .lss 57 0] (ZC 58 (.region [Za 59 1 3,Zf 60 1 59,Zm 8 60]) .skip)) (ZR [Za 62 0 2,Zf 63 1 62,u1 64 (.call 52) [.tm 63,.cn (.int .i64 1)],Zm 65 7,u1 66 (.conv .u64) [.tm 65],u1 67 (.call 53) [.tm 64,.tm 66,.cn (.bool false)],Zm 61 67,Ze 68 0 61,Ze 69 1 61,Zm 9 68,Zm 10 69] (ZR [Za 71 1 2,Zf 72 1 71,u1 73 (.call 52) [.tm 72,.cn (.int .i64 1)],Zm 74 8,u1 75 (.conv .u64) [.tm 74],u1 76 (.call 53) [.tm 73,.tm 75,.cn (.bool true)],Zm 70 76,Ze 77 0 70,Ze 78 1 70,Zm 11 77,Zm 12 78] (.seq (ZR [Zm 79 10,u1 80 .not [.tm 79],Zm 81 80,Zg 82 81 false 12,u2 83 81 false .not [.tm 82],u1 84 .or [.tm 81,.tm 83]] (ZC 84 (ZR [u1 85 (.build [(.int .i64 0),(.int .i64 0)] []) [],Zs 2 4 85,Zi 5 7] .ret) .skip)) (ZR [Zm 86 9,Zm 87 11,u1 88 (.build [(.int .i64 0),(.int .i64 0)] [(0,1),(1,1)]) [.tm 86,.tm 87],Zs 2 4 88,Zi 5 0] .ret)))))))))))⟩
theorem YFs:Yf YGw Tryz.f25=some v25:=by kernel_rfl
def v62:VF:=⟨45,[.cell 6 true 2,.tmp 7],(ZR [u1 3 .box [.tm 0],Zn 6,Zi 7 0] (ZR [Zt 9 2 3,u1 10 (.buildSlice 2 1 [(.int .i64 0),(.int .i64 0)] [(0,2)]) [.tm 9],Zc 11 51 10,Zm 8 11] (.seq (.block 0 (ZR [Zm 13 8,Zq 14 .neq 13 0,Zm 12 14] (ZC 12 (ZR [u1 15 (.build [(.int .i64 0),(.int .i64 0)] []) [],Zm 16 8,Zs 2 6 15,Zm 7 16] .ret) (ZR [Zm 18 2,Zq 19 .lss 18 1,Zm 20 19,Zg 21 20 false 2,u2 22 20 false (.call 81) [.tm 21],u2 23 20 false .not [.tm 22],u1 24 .or [.tm 20,.tm 23],Zm 25 24,Zg 26 25 false 1,u2 27 25 false (.call 81) [.tm 26],u2 28 25 false .not [.tm 27],u1 29 .or [.tm 25,.tm 28],Zm 17 29] (ZC 17 (ZR [u1 30 (.build [(.int .i64 0),(.int .i64 0)] []) [],Zs 2 6 30,Zi 7 2] .ret) .skip))))) (.seq (.draw [] [Zu 31 2,w1 32 (.conv .u64) [.tm 31],Zy 33 0 3,Zv 34 1 33,Zu 35 1,Zy 37 1 3,Zv 38 1 37,Zu 39 1,Zz 36 52 34 35,Zz 40 52 38 39,w1 41 (.buildSlice 3 2 [(.bool false),(.int .u64 0),(.int .u64 0)] [(0,3),(3,3)]) [.tm 36,.tm 40],Zz 42 66 32 41,ZE 43 0 42,ZE 44 1 42,ZS 2 6 43,Zu 7 44]) .ret))))⟩
theorem YFU:Yf YGw Tryz.f62=some v62:=by kernel_rfl
def v33:VF:=⟨26,[.cell 4 true 2,.tmp 5],(ZR [u1 2 .box [.tm 0],u1 3 .box [.tm 1],Zn 4,Zi 5 0] (.seq (ZR [Zt 7 2 2,Zt 8 2 3,u1 9 (.buildSlice 2 2 [(.int .i64 0),(.int .i64 0)] [(0,2),(2,2)]) [.tm 7,.tm 8],Zc 10 51 9,Zm 6 10] (ZR [Zm 11 6,Zq 12 .neq 11 0] (ZC 12 (ZR [u1 13 (.build [(.int .i64 0),(.int .i64 0)] []) [],Zm 14 6,Zs 2 4 13,Zm 5 14] .ret) .skip))) (ZR [Za 15 0 2,Zf 16 1 15,Za 17 0 3,Zf 18 1 17,u1 19 .min [.tm 16,.tm 18],Za 20 1 2,Zf 21 1 20,Za 22 1 3,Zf 23 1 22,u1 24 .max [.tm 21,.tm 23],u1 25 (.build [(.int .i64 0),(.int .i64 0)] [(0,1),(1,1)]) [.tm 19,.tm 24],Zs 2 4 25,Zi 5 0] .ret)))⟩
theorem YFA:Yf YGw Tryz.f33=some v33:=by kernel_rfl
def iv1C:Ctr:={ alias:=false,of:=fun a=>match a with| [.agg [.int .i64 x,.int .i64 y]]=> .fin (.int .i64 (ivE [(x,y)])) [] |_=>noC}
def iv2C(f:Iv->Iv->Iv×Int):Ctr:={ alias:=false,of:=fun a=>match a with
 | [.agg [.int .i64 x,.int .i64 y],.agg [.int .i64 z,.int .i64 w]]=> .fin (.tup [.agg (enc2 (f (x,y) (z,w)).1),.int .i64 (f (x,y) (z,w)).2]) []
 |_=>noC}
def ivoC(f:Iv->Iv×Int):Ctr:={ alias:=false,of:=fun a=>match a with
 | [.agg [.int .i64 x,.int .i64 y]]=> .fin (.tup [.agg (enc2 (f (x,y)).1),.int .i64 (f (x,y)).2]) []
 |_=>noC}
def addC:=iv2C addF
def subC:=iv2C subF
def mulC:=iv2C mulF
def quoC:=iv2C quoF
def hullC:=iv2C Ygp
def sclC:Ctr:={ alias:=false,of:=fun a=>match a with
 | [.agg [.int .i64 x,.int .i64 y],.int .i64 n,.int .i64 d]=> .fin (.tup [.agg (enc2 (sclF (x,y) n d).1),.int .i64 (sclF (x,y) n d).2]) []
 |_=>noC}
def P3:Env:={ ct:=fun n=>match n with|81=>some numC|51=>some ivlC|52=>some timC|53=>some overC|66=>some spanC|57=>some fitC|_=>none,fn:=fun _=>none,meth:=fun _ _=>none}
theorem Yxe:P3.ct 51=some ivlC:=rfl
theorem Yxf:P3.ct 57=some fitC:=rfl
theorem P3_ok:Yq YGw P3:=by
 refine⟨fun f c h=>?_,fun f vf h=>?_,(fun _ _ _ h=>by cases h),by kernel_rfl,(fun _ h=>by cases h)⟩
 . simp only[P3]at h
   split at h
   . cases h;exact⟨YnW,Tryz.f81,Tryz.func81,by kernel_rfl,by kernel_rfl⟩
   . cases h;exact⟨YnI,Tryz.f51,Tryz.func51,by kernel_rfl,by kernel_rfl⟩
   . cases h;exact⟨YwI,Tryz.f52,Tryz.func52,by kernel_rfl,by kernel_rfl⟩
   . cases h;exact⟨Ymu,Tryz.f53,Tryz.func53,by kernel_rfl,by kernel_rfl⟩
   . cases h;exact⟨YsD,Tryz.f66,Tryz.func66,by kernel_rfl,by kernel_rfl⟩
   . cases h;exact⟨Yv8,Tryz.f57,Tryz.func57,by kernel_rfl,by kernel_rfl⟩
   . cases h
 . cases h
theorem Yx{k:SV->List HO->Prop}{al:Bool}{hp:List HO}{r:Iv×Int}(h:k (.tup [.agg (enc2 r.1),.int .i64 r.2]) []):YI al k (.tup [.agg [.int .i64 r.1.1,.int .i64 r.1.2],.int .i64 r.2]) hp:=
 YE (show k _ []from h) (Yy (.tup [.agg (enc2 r.1),.int .i64 r.2]) ⟨⟨trivial,trivial,trivial⟩,trivial,trivial⟩) (fun _=>by simp [enc2,Yl,Yo])
theorem Yqk{a b:Int}(ha: -9223372036854775808<=a/\a<=9223372036854775808)(hb: -9223372036854775808<=b/\b<=9223372036854775808):big (a*b):=by
 unfold big
 rw[Int.natAbs_mul]
 have:=YGX (show a.natAbs<=9223372036854775808 by omega) (show b.natAbs<=9223372036854775808 by omega)
 omega
theorem big1{a:Int}(ha: -9223372036854775808<=a/\a<=9223372036854775808):big a:=by
 unfold big;omega
theorem Yiv{a:Int}(h: -4611686018427387904<=a/\a<=4611686018427387904):IntKind.i64.wrap (0-a)= -a:=by rw[YGy _ (by omega)];omega
theorem Yf5:addC.ok YGw 31:=by
 refine Yb Tryz.func31 YFy P3_ok 200 addC fun args k h=>⟨args,?_⟩
 simp only[addC,iv2C]at h
 split at h
 . rename_i x y z w
   refine⟨by simp [leL,le],?_⟩
   (try dsimp only[v31,Yxe,Yxf,ivlC,fitC,enc2,go_sem,reduceIte])
   (try simp only[Yd,YGu,YGt,reduceCtorEq,YGs])
   have h:k (.tup [.agg (enc2 (addF (x,y) (z,w)).1),.int .i64 (addF (x,y) (z,w)).2]) []:=h
   refine⟨by decide,[(x,y),(z,w)],⟨⟨rfl,rfl,fun k hk=>match k,hk with|0,_=>Ye _|1,_=>Ye _⟩,by simp⟩,fun hc=>?_,fun hc=>?_⟩
   . rw[addF,if_pos hc]at h
     exact Yx (r:=errI (ivE [(x,y),(z,w)])) h
   . obtain⟨⟨h1,h2,h3⟩,h4,h5,h6⟩:=ivE2 hc
     dsimp only at h1 h2 h3 h4 h5 h6
     rw[addF,if_neg (by rw[hc];simp)]at h
     dsimp only at h
     refine⟨fun hm=>?_,fun hm=>⟨by decide,by decide,?_⟩⟩
     . rw[YGA,decide_eq_true_eq,decide_eq_true_eq]at hm
       have:YaT (y+w)=false:=by
         rw[Bool.eq_false_iff];intro hh;have:=numOk_iff.1 hh;omega
       rw[fitF,this,Bool.and_false]at h
       exact Yx (r:=((0,0),7)) h
     . rw[YG9,decide_eq_false_iff_not,decide_eq_false_iff_not]at hm
       rw[YGy (x+z) (by omega),YGy (y+w) (by omega)]
       exact Yx h
 . exact h.1.elim
def P4:Env:={ ct:=fun n=>match n with|81=>some numC|51=>some ivlC|52=>some timC|53=>some overC|66=>some spanC|57=>some fitC|31=>some addC|_=>none,fn:=fun _=>none,meth:=fun _ _=>none}
theorem Yxi:P4.ct 81=some numC:=rfl
theorem YgR:P4.ct 51=some ivlC:=rfl
theorem YlV:P4.ct 52=some timC:=rfl
theorem Yxh:P4.ct 53=some overC:=rfl
theorem YiJ:P4.ct 66=some spanC:=rfl
theorem Yxg:P4.ct 31=some addC:=rfl
theorem Yph:Yq YGw P4:=by
 refine⟨fun f c h=>?_,fun f vf h=>?_,(fun _ _ _ h=>by cases h),by kernel_rfl,(fun _ h=>by cases h)⟩
 . simp only[P4]at h
   split at h
   . cases h;exact⟨YnW,Tryz.f81,Tryz.func81,by kernel_rfl,by kernel_rfl⟩
   . cases h;exact⟨YnI,Tryz.f51,Tryz.func51,by kernel_rfl,by kernel_rfl⟩
   . cases h;exact⟨YwI,Tryz.f52,Tryz.func52,by kernel_rfl,by kernel_rfl⟩
   . cases h;exact⟨Ymu,Tryz.f53,Tryz.func53,by kernel_rfl,by kernel_rfl⟩
   . cases h;exact⟨YsD,Tryz.f66,Tryz.func66,by kernel_rfl,by kernel_rfl⟩
   . cases h;exact⟨Yv8,Tryz.f57,Tryz.func57,by kernel_rfl,by kernel_rfl⟩
   . cases h;exact⟨Yf5,Tryz.f31,Tryz.func31,by kernel_rfl,by kernel_rfl⟩
   . cases h
 . cases h
theorem YFa:subC.ok YGw 26:=by
 refine Yb Tryz.func26 YFt Yph 200 subC fun args k h=>⟨args,?_⟩
 simp only[subC,iv2C]at h
 split at h
 . rename_i x y z w
   refine⟨by simp [leL,le],?_⟩
   (try dsimp only[v26,YgR,Yxg,ivlC,addC,iv2C,enc2,go_sem,reduceIte])
   (try simp only[Yd,YGu,YGt,reduceCtorEq,YGs])
   have h:k (.tup [.agg (enc2 (subF (x,y) (z,w)).1),.int .i64 (subF (x,y) (z,w)).2]) []:=h
   refine⟨by decide,[(x,y),(z,w)],⟨⟨rfl,rfl,fun k hk=>match k,hk with|0,_=>Ye _|1,_=>Ye _⟩,by simp⟩,fun hc=>?_,fun hc=>?_⟩
   . rw[subF,if_pos hc]at h
     exact Yx (r:=errI (ivE [(x,y),(z,w)])) h
   . obtain⟨⟨h1,h2,h3⟩,h4,h5,h6⟩:=ivE2 hc
     dsimp only at h1 h2 h3 h4 h5 h6
     rw[subF,if_neg (by rw[hc];simp)]at h
     dsimp only at h
     rw[Yiv h4,Yiv h5]
     exact⟨by decide,by decide,Yx h⟩
 . exact h.1.elim
theorem YyR:hullC.ok YGw 33:=by
 refine Yb Tryz.func33 YFA Yph 200 hullC fun args k h=>⟨args,?_⟩
 simp only[hullC,iv2C]at h
 split at h
 . rename_i x y z w
   refine⟨by simp [leL,le],?_⟩
   (try dsimp only[v33,YgR,ivlC,enc2,go_sem,reduceIte])
   (try simp only[Yd,YGu,YGt,reduceCtorEq,YGs])
   have h:k (.tup [.agg (enc2 (Ygp (x,y) (z,w)).1),.int .i64 (Ygp (x,y) (z,w)).2]) []:=h
   refine⟨by decide,[(x,y),(z,w)],⟨⟨rfl,rfl,fun k hk=>match k,hk with|0,_=>Ye _|1,_=>Ye _⟩,by simp⟩,fun hc=>?_,fun hc=>?_⟩
   . rw[Ygp,if_pos hc]at h
     exact Yx (r:=errI (ivE [(x,y),(z,w)])) h
   . obtain⟨⟨h1,h2,h3⟩,h4,h5,h6⟩:=ivE2 hc
     dsimp only at h1 h2 h3 h4 h5 h6
     rw[Ygp,if_neg (by rw[hc];simp)]at h
     exact Yx (r:=((_,_),_)) h
 . exact h.1.elim
theorem YnR:mulC.ok YGw 42:=by
 refine Yb Tryz.func42 YFF Yph 200 mulC fun args k h=>⟨args,?_⟩
 simp only[mulC,iv2C]at h
 split at h
 . rename_i x y z w
   refine⟨by simp [leL,le],?_⟩
   (try dsimp only[v42,YgR,YlV,YiJ,ivlC,timC,spanC,YfQ,enc2,go_sem,reduceIte])
   (try simp only[Yd,YGu,YGt,reduceCtorEq,YGs])
   have h:k (.tup [.agg (enc2 (mulF (x,y) (z,w)).1),.int .i64 (mulF (x,y) (z,w)).2]) []:=h
   refine⟨by decide,[(x,y),(z,w)],⟨⟨rfl,rfl,fun k hk=>match k,hk with|0,_=>Ye _|1,_=>Ye _⟩,by simp⟩,fun hc=>?_,fun hc=>?_⟩
   . rw[mulF,if_pos hc]at h
     exact Yx (r:=errI (ivE [(x,y),(z,w)])) h
   . obtain⟨⟨h1,h2,h3⟩,h4,h5,h6⟩:=ivE2 hc
     dsimp only at h1 h2 h3 h4 h5 h6
     rw[mulF,if_neg (by rw[hc];simp)]at h
     dsimp only at h
     refine⟨⟨⟨by omega,by omega⟩,by omega,by omega⟩,⟨⟨by omega,by omega⟩,by omega,by omega⟩,⟨⟨by omega,by omega⟩,by omega,by omega⟩,⟨⟨by omega,by omega⟩,by omega,by omega⟩,?_⟩
     (try dsimp only[YiJ,spanC,enc2,go_sem,reduceIte])
     (try simp only[Yd,YGu,YGt,reduceCtorEq,YGs])
     refine⟨by decide,?_⟩
     (try dsimp only[YiJ,spanC,enc2,go_sem,reduceIte])
     (try simp only[Yd,YGu,YGt,reduceCtorEq,YGs])
     refine⟨x*z,[x*w,y*z,y*w],⟨⟨rfl,rfl,fun k hk=>match k,hk with|0,_=>Ye _|1,_=>Ye _|2,_=>Ye _|3,_=>Ye _⟩,by simp,?_,by decide,by decide⟩,by decide,by decide,Yx h⟩
     intro p hp
     simp only[YGQ,List.not_mem_nil,or_false]at hp
     rcases hp with rfl|rfl|rfl|rfl <;> exact Yqk (by omega) (by omega)
 . exact h.1.elim
theorem Yws:quoC.ok YGw 25:=by
 refine Yb Tryz.func25 YFs Yph 300 quoC fun args k h=>⟨args,?_⟩
 simp only[quoC,iv2C]at h
 split at h
 . rename_i x y z w
   refine⟨by simp [leL,le],?_⟩
   (try dsimp only[v25,YgR,YlV,Yxh,ivlC,timC,overC,YfQ,enc2,go_sem,reduceIte])
   (try simp only[Yd,YGu,YGt,reduceCtorEq,YGs])
   have h:k (.tup [.agg (enc2 (quoF (x,y) (z,w)).1),.int .i64 (quoF (x,y) (z,w)).2]) []:=h
   refine⟨by decide,[(x,y),(z,w)],⟨⟨rfl,rfl,fun k hk=>match k,hk with|0,_=>Ye _|1,_=>Ye _⟩,by simp⟩,fun hc=>?_,fun hc=>?_⟩
   . rw[quoF,if_pos hc]at h
     exact Yx (r:=errI (ivE [(x,y),(z,w)])) h
   . obtain⟨⟨h1,h2,h3⟩,h4,h5,h6⟩:=ivE2 hc
     dsimp only at h1 h2 h3 h4 h5 h6
     rw[quoF,if_neg (by rw[hc];simp)]at h
     dsimp only at h
     simp only[Yiv h1,Yiv h2,Yiv h4,Yiv h5,Int.mul_one]
     refine⟨fun hm=>?_,fun hm=>⟨fun hw=>?_,fun hw=>?_⟩⟩
     . rw[YGA,decide_eq_true_eq,decide_eq_true_eq]at hm
       rw[if_pos hm]at h
       exact Yx (r:=errI 9) h
     . rw[YG9,decide_eq_false_iff_not,decide_eq_false_iff_not]at hm
       rw[if_neg (by omega),if_pos hw]at h
       unfold YeT at h
       dsimp only at h
       refine⟨fun hp=>⟨fun hq=>?_,fun hq=>?_⟩,fun hp=>⟨fun hq=>?_,fun hq=>?_⟩⟩
       . rw[if_pos hp,if_pos hq]at h
         simp (disch:=omega) only[YGR]
         refine⟨⟨⟨by omega,by omega⟩,by omega,by omega⟩,_,⟨Yv _,big1 (by omega),by omega,by omega⟩,by decide,by decide,⟨⟨by omega,by omega⟩,by omega,by omega⟩,_,⟨Yv _,big1 (by omega),by omega,by omega⟩,by decide,by decide,fun hb=>?_,fun hb=>?_⟩
         . rw[YaH,if_neg (by rw[<-YHD,YGP]at hb;rw[hb];simp)]at h
           exact Yx (r:=((0,0),7)) h
         . rw[YaH,if_pos (by rw[<-YHD,YHe]at hb;exact hb)]at h
           exact Yx (r:=((_,_),0)) h
       . rw[if_pos hp,if_neg hq]at h
         simp (disch:=omega) only[YGR]
         refine⟨⟨⟨by omega,by omega⟩,by omega,by omega⟩,_,⟨Yv _,big1 (by omega),by omega,by omega⟩,by decide,by decide,⟨⟨by omega,by omega⟩,by omega,by omega⟩,_,⟨Yv _,big1 (by omega),by omega,by omega⟩,by decide,by decide,fun hb=>?_,fun hb=>?_⟩
         . rw[YaH,if_neg (by rw[<-YHD,YGP]at hb;rw[hb];simp)]at h
           exact Yx (r:=((0,0),7)) h
         . rw[YaH,if_pos (by rw[<-YHD,YHe]at hb;exact hb)]at h
           exact Yx (r:=((_,_),0)) h
       . rw[if_neg hp,if_pos hq]at h
         simp (disch:=omega) only[YGR]
         refine⟨⟨⟨by omega,by omega⟩,by omega,by omega⟩,_,⟨Yv _,big1 (by omega),by omega,by omega⟩,by decide,by decide,⟨⟨by omega,by omega⟩,by omega,by omega⟩,_,⟨Yv _,big1 (by omega),by omega,by omega⟩,by decide,by decide,fun hb=>?_,fun hb=>?_⟩
         . rw[YaH,if_neg (by rw[<-YHD,YGP]at hb;rw[hb];simp)]at h
           exact Yx (r:=((0,0),7)) h
         . rw[YaH,if_pos (by rw[<-YHD,YHe]at hb;exact hb)]at h
           exact Yx (r:=((_,_),0)) h
       . rw[if_neg hp,if_neg hq]at h
         simp (disch:=omega) only[YGR]
         refine⟨⟨⟨by omega,by omega⟩,by omega,by omega⟩,_,⟨Yv _,big1 (by omega),by omega,by omega⟩,by decide,by decide,⟨⟨by omega,by omega⟩,by omega,by omega⟩,_,⟨Yv _,big1 (by omega),by omega,by omega⟩,by decide,by decide,fun hb=>?_,fun hb=>?_⟩
         . rw[YaH,if_neg (by rw[<-YHD,YGP]at hb;rw[hb];simp)]at h
           exact Yx (r:=((0,0),7)) h
         . rw[YaH,if_pos (by rw[<-YHD,YHe]at hb;exact hb)]at h
           exact Yx (r:=((_,_),0)) h
     . rw[YG9,decide_eq_false_iff_not,decide_eq_false_iff_not]at hm
       rw[if_neg (by omega),if_neg hw]at h
       unfold YeT at h
       dsimp only at h
       refine⟨fun hp=>⟨fun hq=>?_,fun hq=>?_⟩,fun hp=>⟨fun hq=>?_,fun hq=>?_⟩⟩
       . rw[if_pos hp,if_pos hq]at h
         simp (disch:=omega) only[YGR]
         refine⟨⟨⟨by omega,by omega⟩,by omega,by omega⟩,_,⟨Yv _,big1 (by omega),by omega,by omega⟩,by decide,by decide,⟨⟨by omega,by omega⟩,by omega,by omega⟩,_,⟨Yv _,big1 (by omega),by omega,by omega⟩,by decide,by decide,fun hb=>?_,fun hb=>?_⟩
         . rw[YaH,if_neg (by rw[<-YHD,YGP]at hb;rw[hb];simp)]at h
           exact Yx (r:=((0,0),7)) h
         . rw[YaH,if_pos (by rw[<-YHD,YHe]at hb;exact hb)]at h
           exact Yx (r:=((_,_),0)) h
       . rw[if_pos hp,if_neg hq]at h
         simp (disch:=omega) only[YGR]
         refine⟨⟨⟨by omega,by omega⟩,by omega,by omega⟩,_,⟨Yv _,big1 (by omega),by omega,by omega⟩,by decide,by decide,⟨⟨by omega,by omega⟩,by omega,by omega⟩,_,⟨Yv _,big1 (by omega),by omega,by omega⟩,by decide,by decide,fun hb=>?_,fun hb=>?_⟩
         . rw[YaH,if_neg (by rw[<-YHD,YGP]at hb;rw[hb];simp)]at h
           exact Yx (r:=((0,0),7)) h
         . rw[YaH,if_pos (by rw[<-YHD,YHe]at hb;exact hb)]at h
           exact Yx (r:=((_,_),0)) h
       . rw[if_neg hp,if_pos hq]at h
         simp (disch:=omega) only[YGR]
         refine⟨⟨⟨by omega,by omega⟩,by omega,by omega⟩,_,⟨Yv _,big1 (by omega),by omega,by omega⟩,by decide,by decide,⟨⟨by omega,by omega⟩,by omega,by omega⟩,_,⟨Yv _,big1 (by omega),by omega,by omega⟩,by decide,by decide,fun hb=>?_,fun hb=>?_⟩
         . rw[YaH,if_neg (by rw[<-YHD,YGP]at hb;rw[hb];simp)]at h
           exact Yx (r:=((0,0),7)) h
         . rw[YaH,if_pos (by rw[<-YHD,YHe]at hb;exact hb)]at h
           exact Yx (r:=((_,_),0)) h
       . rw[if_neg hp,if_neg hq]at h
         simp (disch:=omega) only[YGR]
         refine⟨⟨⟨by omega,by omega⟩,by omega,by omega⟩,_,⟨Yv _,big1 (by omega),by omega,by omega⟩,by decide,by decide,⟨⟨by omega,by omega⟩,by omega,by omega⟩,_,⟨Yv _,big1 (by omega),by omega,by omega⟩,by decide,by decide,fun hb=>?_,fun hb=>?_⟩
         . rw[YaH,if_neg (by rw[<-YHD,YGP]at hb;rw[hb];simp)]at h
           exact Yx (r:=((0,0),7)) h
         . rw[YaH,if_pos (by rw[<-YHD,YHe]at hb;exact hb)]at h
           exact Yx (r:=((_,_),0)) h
 . exact h.1.elim
theorem YwC:sclC.ok YGw 62:=by
 refine Yb Tryz.func62 YFU Yph 200 sclC fun args k h=>⟨args,?_⟩
 simp only[sclC]at h
 split at h
 . rename_i x y n d
   refine⟨by simp [leL,le],?_⟩
   (try dsimp only[v62,YgR,Yxi,YlV,YiJ,ivlC,numC,timC,spanC,YfQ,enc2,go_sem,reduceIte])
   (try simp only[Yd,YGu,YGt,reduceCtorEq,YGs])
   have h:k (.tup [.agg (enc2 (sclF (x,y) n d).1),.int .i64 (sclF (x,y) n d).2]) []:=h
   refine⟨by decide,[(x,y)],⟨⟨rfl,rfl,fun k hk=>match k,hk with|0,_=>Ye _⟩,by simp⟩,?_⟩
   refine⟨fun hc=>?_,fun hc=>?_⟩
   . rw[sclF,if_pos hc]at h
     exact Yx (r:=errI (ivE [(x,y)])) h
   . obtain⟨h1,h2,h3⟩:=ivE1 hc
     dsimp only at h1 h2 h3
     rw[sclF,if_neg (by rw[hc];simp)]at h
     dsimp only at h
     have hnd:=numOk_iff (x:=d)
     have hnn:=numOk_iff (x:=n)
     have hcond:(decide (d<1) || !YaT d|| !YaT n)=true↔(d<1\/4611686018427387904<d\/n< -4611686018427387904\/4611686018427387904<n):=by
       rw[YHd,YHd,decide_eq_true_eq,YGP,YGP,Bool.eq_false_iff,Bool.eq_false_iff,ne_eq,ne_eq,hnd,hnn]
       omega
     refine⟨fun hb=>?_,fun hb=>?_⟩
     . rw[if_pos (hcond.1 hb)]at h
       exact Yx (r:=errI 2) h
     . have hb':¬(d<1\/4611686018427387904<d\/n< -4611686018427387904\/4611686018427387904<n):=fun hh=>by
         have:=hcond.2 hh
         rw[hb]at this;cases this
       rw[if_neg hb']at h
       rw[YGR d (by omega)]
       refine⟨⟨⟨by omega,by omega⟩,by omega,by omega⟩,⟨⟨by omega,by omega⟩,by omega,by omega⟩,by decide,
         x*n,[y*n],⟨⟨rfl,rfl,fun k hk=>match k,hk with|0,_=>Ye _|1,_=>Ye _⟩,by simp,?_,by omega,by omega⟩,by decide,by decide,Yx h⟩
       intro p hp
       simp only[YGQ,List.not_mem_nil,or_false]at hp
       rcases hp with rfl|rfl <;> exact Yqk (by omega) (by omega)
 . exact h.1.elim
def v100:VF:=⟨34,[.tmp 4,.tmp 5],(ZR [u1 4 .mov [.cn (.int .u64 0)],u1 5 .mov [.cn (.bool false)]] (ZR [u1 6 .mov [.cn (.int .u64 1)]] (.seq (ZR [Zm 9 0,u1 10 (.cmp .lss) [.tm 9,.cn (.int .u64 2)],Zm 11 10,Zg 12 11 true 1,u2 13 11 true (.cmp .gtr) [.tm 12,.cn (.int .i64 0)],u1 14 .and [.tm 11,.tm 13]] (ZC 14 (ZR [Zm 15 0,Zm 4 15,u1 5 .mov [.cn (.bool true)]] .ret) .skip)) (.seq (ZR [Zm 16 1,Zi 17 0] (.block 0 (.loop (ZR [Zr 18 .lss 17 16] (.seq (ZC 18 .skip (.exit 0)) (.seq (.block 1 (ZR [Zm 20 6,Zm 21 0,Zd 22 82 20 21,Zm 19 22,Ze 23 0 19,Ze 24 1 19,Zm 7 23,Zm 8 24] (.seq (ZR [Zm 25 7,u1 26 (.cmp .neq) [.tm 25,.cn (.int .u64 0)],Zm 27 26,Zg 28 27 false 8,u2 29 27 false (.cmp .gtr) [.tm 28,.cn (.int .u64 4611686018427387904)],u1 30 .or [.tm 27,.tm 29]] (ZC 30 (ZR [u1 4 .mov [.cn (.int .u64 0)],u1 5 .mov [.cn (.bool false)]] .ret) .skip)) (.region [Zm 31 8,Zm 6 31])))) (.region [Zp 32 17 1,Zm 17 32]))))))) (ZR [Zm 33 6,Zm 4 33,u1 5 .mov [.cn (.bool true)]] .ret)))))⟩
theorem YAC:Yf YGw Tryz.f100=some v100:=by kernel_rfl
def v99:VF:=⟨45,[.tmp 4],(ZR [u1 4 .mov [.cn (.int .u64 0)]] (ZR [Zm 10 0,u1 11 (.ari .add) [.tm 10,.cn (.int .u64 1)],u1 5 .mov [.cn (.int .u64 0)],Zm 6 11] (.seq (ZR [Zm 12 1,Zq 13 .gtr 12 1] (ZC 13 (.region [Zm 14 6,Zm 15 1,u1 16 .quo [.cn (.int .i64 62),.tm 15],Zp 17 16 1,u1 18 .shl [.cn (.int .u64 1),.tm 17],u1 19 .min [.tm 14,.tm 18],Zm 6 19]) .skip)) (.seq (.block 0 (.loop (.seq (ZR [Zm 20 6,Zm 21 5,Zo 22 .sub 20 21,u1 23 (.cmp .gtr) [.tm 22,.cn (.int .u64 1)]] (ZC 23 .skip (.exit 0))) (.block 1 (ZR [Zm 24 5,Zm 25 6,Zm 26 5,Zo 27 .sub 25 26,u1 28 .quo [.tm 27,.cn (.int .u64 2)],Zo 29 .add 24 28,Zm 7 29] (ZR [Zm 31 7,Zm 32 1,Zd 33 100 31 32,Zm 30 33,Ze 34 0 30,Ze 35 1 30,Zm 8 34,Zm 9 35] (ZR [Zm 36 9,Zm 37 36,Zg 38 37 true 8,Zg 39 37 true 0,u2 40 37 true (.cmp .leq) [.tm 38,.tm 39],u1 41 .and [.tm 37,.tm 40]] (ZC 41 (.region [Zm 42 7,Zm 5 42]) (.region [Zm 43 7,Zm 6 43]))))))))) (ZR [Zm 44 5,Zm 4 44] .ret)))))⟩
theorem YGl:Yf YGw Tryz.f99=some v99:=by kernel_rfl
def v67:VF:=⟨58,[.cell 4 true 2,.tmp 5],(ZR [u1 2 .box [.tm 0],Zn 4,Zi 5 0] (ZR [Zt 10 2 2,u1 11 (.buildSlice 2 1 [(.int .i64 0),(.int .i64 0)] [(0,2)]) [.tm 10],Zc 12 51 11,Zm 6 12] (.seq (.block 0 (ZR [Zm 14 6,Zq 15 .neq 14 0,Zm 13 15] (ZC 13 (ZR [u1 16 (.build [(.int .i64 0),(.int .i64 0)] []) [],Zm 17 6,Zs 2 4 16,Zm 5 17] .ret) (ZR [Zm 19 1,Zq 20 .lss 19 1,Zm 21 20,Zg 22 21 false 1,u2 23 21 false (.cmp .gtr) [.tm 22,.cn (.int .i64 62)],u1 24 .or [.tm 21,.tm 23],Zm 18 24] (ZC 18 (ZR [u1 25 (.build [(.int .i64 0),(.int .i64 0)] []) [],Zs 2 4 25,Zi 5 2] .ret) (ZR [Za 27 0 2,Zf 28 1 27,Zq 29 .lss 28 0,Zm 26 29] (ZC 26 (ZR [u1 30 (.build [(.int .i64 0),(.int .i64 0)] []) [],Zs 2 4 30,Zi 5 9] .ret) .skip))))))) (ZR [Za 31 1 2,Zf 32 1 31,u1 33 (.conv .u64) [.tm 32],Zm 34 1,Zd 35 99 33 34,Zm 7 35] (.seq (ZR [Zm 37 7,Zm 38 1,Zd 39 100 37 38,Zm 36 39,Ze 40 0 36,Ze 41 1 36,Zm 8 40,Zm 9 41] (ZR [Zm 42 8,Za 43 1 2,Zf 44 1 43,u1 45 (.conv .u64) [.tm 44],Zr 46 .lss 42 45] (ZC 46 (.region [Zm 47 7,u1 48 (.ari .add) [.tm 47,.cn (.int .u64 1)],Zm 7 48]) .skip))) (ZR [Za 49 0 2,Zf 50 1 49,u1 51 (.conv .u64) [.tm 50],Zm 52 1,Zd 53 99 51 52,u1 54 (.conv .i64) [.tm 53],Zm 55 7,u1 56 (.conv .i64) [.tm 55],u1 57 (.build [(.int .i64 0),(.int .i64 0)] [(0,1),(1,1)]) [.tm 54,.tm 56],Zs 2 4 57,Zi 5 0] .ret))))))⟩
theorem YFW:Yf YGw Tryz.f67=some v67:=by kernel_rfl
def powP(n k:Nat):Nat×Bool:=if n^k<=4611686018427387904 then(n^k,true)else(0,false)
def powpC:Ctr:={ alias:=false,of:=fun l=>match l with
 | [.int .u64 n,.int .i64 k]=> .pre ((0<=n/\n<=18446744073709551615)/\0<=k/\k<=1000) (.fin (.tup [.int .u64 (powP n.toNat k.toNat).1,.bool (powP n.toNat k.toNat).2]) [])
 |_=>noC}
def rootpC:Ctr:={ alias:=false,of:=fun l=>match l with
 | [.int .u64 n,.int .i64 k]=> .pre ((0<=n/\n<=4611686018427387904)/\1<=k/\k<=62) (.fin (.int .u64 (Yc2 n.toNat k.toNat)) [])
 |_=>noC}
def rootC:Ctr:={ alias:=false,of:=fun a=>match a with
 | [.agg [.int .i64 x,.int .i64 y],.int .i64 k]=> .fin (.tup [.agg (enc2 (YfY (x,y) k).1),.int .i64 (YfY (x,y) k).2]) []
 |_=>noC}
def P5:Env:={ ct:=fun n=>match n with|82=>some mul64C|84=>some div64C|_=>none,fn:=fun _=>none,meth:=fun _ _=>none}
theorem Yxj:P5.ct 82=some mul64C:=rfl
theorem P5_ok:Yq YGw P5:=by
 refine⟨fun f c h=>?_,fun f vf h=>?_,(fun _ _ _ h=>by cases h),by kernel_rfl,(fun _ h=>by cases h)⟩
 . simp only[P5]at h
   split at h
   . cases h;exact⟨Yfa,Tryz.f82,Tryz.func82,by kernel_rfl,by kernel_rfl⟩
   . cases h;exact⟨Yjj,Tryz.f84,Tryz.func84,by kernel_rfl,by kernel_rfl⟩
   . cases h
 . cases h
theorem Yp7{k:SV->List HO->Prop}{al:Bool}{hp:List HO}{κ:IntKind}{x:Int}{b:Bool}(h:k (.tup [.int κ x,.bool b]) []):YI al k (.tup [.int κ x,.bool b]) hp:=
 YE (show k _ []from h) (Yy (.tup [.int κ x,.bool b]) ⟨trivial,trivial,trivial⟩) (fun _=>by simp [Yl,Yo])
theorem YrU:powpC.ok YGw 100:=by
 refine Yb Tryz.func100 YAC P5_ok 300 powpC fun args k h=>⟨args,?_⟩
 simp only[powpC]at h
 split at h
 . rename_i n e
   obtain⟨⟨⟨h0,h1⟩,h2,h3⟩,h⟩:=h
   obtain⟨n,rfl⟩:=YGT h0
   obtain⟨e,rfl⟩:=YGT h2
   refine⟨by simp [leL,le],?_⟩
   (try dsimp only[v100,go_sem,reduceIte])
   (try simp only[Yd,YGu,YGt,reduceCtorEq,YGs])
   have h:k (.tup [.int .u64 (powP n e).1,.bool (powP n e).2]) []:=h
   refine⟨fun hc=>?_,fun hc=>?_⟩
   . rw[YGA,decide_eq_true_eq,decide_eq_true_eq]at hc
     have:n^e=n:=by
       rcases(by omega:n=0\/n=1)with rfl|rfl
       . exact Nat.zero_pow (by omega)
       . exact Nat.one_pow _
     rw[powP,this,if_pos (by omega)]at h
     exact Yp7 h
   . rw[YG9,decide_eq_false_iff_not,decide_eq_false_iff_not]at hc
     refine Loop.keep [0,15] Nat (fun i=>[(6,.int .u64 ((n^i:Nat):Int)),(17,.int .i64 i)]) (fun _=>[]) [] (fun i=>i<=e/\n^i<=4611686018427387904) (fun i=>e-i) ?_ ?_
     . refine⟨0,⟨YHl _,by simp⟩,?_⟩
       (try dsimp only[go_sem,reduceIte])
       simp only[Ya] <;> simp
     . rintro i ⟨hi,hp⟩
       (try dsimp only[Yxj,mul64C,go_sem,reduceIte])
       (try simp only[Yd,YGu,YGt,reduceCtorEq,YGs])
       have e0:((n^i:Nat):Int)*(n:Int)=((n^(i+1):Nat):Int):=by rw[YGZ];exact(Int.natCast_mul _ _).symm
       rw[e0]
       refine⟨fun hlt=>⟨⟨⟨by omega,by omega⟩,by omega,by omega⟩,by decide,by decide,fun hb=>?_,fun hb=>⟨i+1,⟨by omega,?_⟩,by omega,?_⟩⟩,fun hge=>?_⟩
       . have hbig:4611686018427387904<n^(i+1):=by
           rw[YHd,YGP,decide_eq_false_iff_not,decide_eq_true_eq]at hb
           generalize n^(i+1)=t at*
           omega
         have hle:n^(i+1)<=n^e:=YGG (by omega) (by omega)
         rw[powP,if_neg (by omega)]at h
         exact Yp7 h
       . rw[YHA,YHe,decide_eq_true_eq,decide_eq_false_iff_not]at hb
         generalize n^(i+1)=t at*
         omega
       . have hm:((n^(i+1):Nat):Int)%18446744073709551616=((n^(i+1):Nat):Int):=by
           rw[YHA,YHe,decide_eq_true_eq,decide_eq_false_iff_not]at hb
           generalize n^(i+1)=t at*
           omega
         rw[hm,Yeb (n:=e) (by omega) (by omega)]
         simp only[Ya] <;> simp
       . obtain rfl:i=e:=by omega
         rw[powP,if_pos hp]at h
         exact Yp7 h
 . exact h.1.elim
def P6:Env:={ ct:=fun n=>match n with|82=>some mul64C|84=>some div64C|100=>some powpC|83=>some sizC|51=>some ivlC|_=>none,fn:=fun _=>none,meth:=fun _ _=>none}
theorem YmW:P6.ct 100=some powpC:=rfl
theorem P6_ok:Yq YGw P6:=by
 refine⟨fun f c h=>?_,fun f vf h=>?_,(fun _ _ _ h=>by cases h),by kernel_rfl,(fun _ h=>by cases h)⟩
 . simp only[P6]at h
   split at h
   . cases h;exact⟨Yfa,Tryz.f82,Tryz.func82,by kernel_rfl,by kernel_rfl⟩
   . cases h;exact⟨Yjj,Tryz.f84,Tryz.func84,by kernel_rfl,by kernel_rfl⟩
   . cases h;exact⟨YrU,Tryz.f100,Tryz.func100,by kernel_rfl,by kernel_rfl⟩
   . cases h;exact⟨YwF,Tryz.f83,Tryz.func83,by kernel_rfl,by kernel_rfl⟩
   . cases h;exact⟨YnI,Tryz.f51,Tryz.func51,by kernel_rfl,by kernel_rfl⟩
   . cases h
 . cases h
theorem Yvz:rootpC.ok YGw 99:=by
 refine Yb Tryz.func99 YGl P6_ok 300 rootpC fun args k h=>⟨args,?_⟩
 simp only[rootpC]at h
 split at h
 . rename_i n e
   obtain⟨⟨⟨h0,h1⟩,h2,h3⟩,h⟩:=h
   obtain⟨n,rfl⟩:=YGT h0
   obtain⟨e,rfl⟩:=YGT (by omega:0<=e)
   refine⟨by simp [leL,le],?_⟩
   (try dsimp only[v99,go_sem,reduceIte])
   (try simp only[Yd,YGu,YGt,reduceCtorEq,YGs])
   have h:k (.int .u64 (Yc2 n e)) []:=h
   have e1:IntKind.i64.wrap (IntKind.i64.wrap (Int.tdiv 62 (e:Int))+1)=((62/e+1:Nat):Int):=by
     have:Int.tdiv 62 (e:Int)=((62/e:Nat):Int):=YHq (x:=62) rfl rfl
     have hle:62/e<=62:=YHr _ _
     generalize 62/e=t at*
     rw[this,YGy (t:Int) (by omega),YGy _ (by omega)];omega
   have e2:IntKind.u64.wrap ((n:Int)+1)=((n+1:Nat):Int):=by rw[YGR _ (by omega)];omega
   refine⟨fun hgt=>⟨by omega,?_⟩,fun hle=>?_⟩
   . have hq:62/e<=31:=by
       have:62/e<=62/2:=Nat.div_le_div_left (by omega) (by decide)
       omega
     have e3:IntKind.u64.wrap (1*2^min (62/e+1) 64)=((2^(62/e+1):Nat):Int):=by
       have h1:=Yf1 (x:=1) (s:=62/e+1) (by omega) (by
         rw[YHz]
         exact YGU (YGG (by decide) (by omega:62/e+1<=32)) (by decide))
       rw[YHz]at h1
       exact h1
     rw[e1,e2]
     simp only[YGv]
     rw[e3]
     refine⟨Int.natCast_nonneg _,?_⟩
     have hhigh:n<(min (n+1) (2^(62/e+1)))^e:=by
       rcases Nat.le_total (n+1) (2^(62/e+1))with hm|hm
       . rw[Nat.min_eq_left hm]
         exact YG1 (Nat.lt_succ_self n) (YGF (YHM (Nat.pow_one _).symm) (YGG (by omega) (by omega)))
       . rw[Nat.min_eq_right hm,<-YHj]
         have h63:63<=(62/e+1)*e:=by
           have:=YG3 62 e
           have:=YG0 62 (by omega:e>0)
           rw[YHN,YGC];omega
         exact YG1 (by omega:n<2^63) (YGG (by decide) h63)
     have hm:min ((n+1:Nat):Int) ((2^(62/e+1):Nat):Int)=((min (n+1) (2^(62/e+1)):Nat):Int):=by omega
     rw[hm]
     have hmb:min (n+1) (2^(62/e+1))<=n+1:=Nat.min_le_left _ _
     generalize min (n+1) (2^(62/e+1))=H at hhigh hmb⊢
     refine Loop.keep [0,0] (Nat×Nat) (fun x=>[(5,.int .u64 x.1),(6,.int .u64 x.2)]) (fun _=>[]) [] (fun x=>x.1^e<=n/\n<x.2^e/\x.1<x.2/\x.2<=n+1) (fun x=>x.2-x.1) ?_ ?_
     . refine⟨(0,H),⟨by rw[Nat.zero_pow (by omega)];exact YHl _,hhigh,?_,by omega⟩,?_⟩
       . refine Nat.pos_of_ne_zero fun h0=>?_
         have h0:H=0:=h0
         rw[h0,Nat.zero_pow (by omega)]at hhigh
         exact absurd hhigh (YHH _)
       . (try dsimp only[go_sem,reduceIte])
         simp only[Ya] <;> simp
     . rintro⟨l,u⟩ ⟨hl,hu,hlu,hun⟩
       dsimp only at hl hu hlu hun
       (try dsimp only[YmW,powpC,go_sem,reduceIte])
       (try simp only[Yd,YGu,YGt,reduceCtorEq,YGs])
       have w1:IntKind.u64.wrap ((u:Int)-(l:Int))=((u-l:Nat):Int):=YsT (by omega) (by omega)
       have w2:IntKind.u64.wrap (((u-l:Nat):Int).tdiv 2)=(((u-l)/2:Nat):Int):=by
         have:((u-l:Nat):Int).tdiv 2=(((u-l)/2:Nat):Int):=YHq (y:=2) rfl rfl
         rw[this];exact Ybd (by omega)
       have w3:IntKind.u64.wrap ((l:Int)+(((u-l)/2:Nat):Int))=((l+(u-l)/2:Nat):Int):=Yd4 (by omega)
       rw[w1,w2,w3]
       simp only[YGv]
       refine⟨fun hgt=>⟨by decide,⟨⟨by omega,by omega⟩,by omega,by omega⟩,by decide,by decide,?_⟩,fun hle=>?_⟩
       . generalize hM:l+(u-l)/2=M
         have hM1:l<M:=by omega
         have hM2:M<u:=by omega
         have hcond:((powP M e).2&&decide (((powP M e).1:Int)<=(n:Int)))=true↔M^e<=n:=by
           unfold powP
           split
           . simp only[YHn,decide_eq_true_eq]
             generalize M^e=t
             omega
           . simp only[YHx,YGM,false_iff]
             generalize M^e=t at*
             omega
         refine⟨fun hb=>⟨(M,u),⟨hcond.1 hb,hu,hM2,hun⟩,by simp only;omega,?_⟩,fun hb=>⟨(l,M),⟨hl,?_,hM1,by simp only;omega⟩,by simp only;omega,?_⟩⟩
         . simp only[Ya]
         . refine Nat.lt_of_not_le fun hh=>?_
           have:=hcond.2 hh
           rw[hb]at this;cases this
         . simp only[Ya]
       . obtain rfl:u=l+1:=by omega
         rw[Yfj (by omega) hl hu]at h
         exact Yh h
   . have hhigh:n<(n+1)^e:=YG1 (Nat.lt_succ_self n) (YGF (YHM (Nat.pow_one _).symm) (YGG (by omega) (by omega)))
     rw[e2]
     have hmb:n+1<=n+1:=YGH _
     generalize hH:n+1=H at hhigh⊢
     rw[hH]at hmb
     refine Loop.keep [0,0] (Nat×Nat) (fun x=>[(5,.int .u64 x.1),(6,.int .u64 x.2)]) (fun _=>[]) [] (fun x=>x.1^e<=n/\n<x.2^e/\x.1<x.2/\x.2<=n+1) (fun x=>x.2-x.1) ?_ ?_
     . refine⟨(0,H),⟨by rw[Nat.zero_pow (by omega)];exact YHl _,hhigh,?_,by omega⟩,?_⟩
       . refine Nat.pos_of_ne_zero fun h0=>?_
         have h0:H=0:=h0
         rw[h0,Nat.zero_pow (by omega)]at hhigh
         exact absurd hhigh (YHH _)
       . (try dsimp only[go_sem,reduceIte])
         simp only[Ya] <;> simp
     . rintro⟨l,u⟩ ⟨hl,hu,hlu,hun⟩
       dsimp only at hl hu hlu hun
       (try dsimp only[YmW,powpC,go_sem,reduceIte])
       (try simp only[Yd,YGu,YGt,reduceCtorEq,YGs])
       have w1:IntKind.u64.wrap ((u:Int)-(l:Int))=((u-l:Nat):Int):=YsT (by omega) (by omega)
       have w2:IntKind.u64.wrap (((u-l:Nat):Int).tdiv 2)=(((u-l)/2:Nat):Int):=by
         have:((u-l:Nat):Int).tdiv 2=(((u-l)/2:Nat):Int):=YHq (y:=2) rfl rfl
         rw[this];exact Ybd (by omega)
       have w3:IntKind.u64.wrap ((l:Int)+(((u-l)/2:Nat):Int))=((l+(u-l)/2:Nat):Int):=Yd4 (by omega)
       rw[w1,w2,w3]
       simp only[YGv]
       refine⟨fun hgt=>⟨by decide,⟨⟨by omega,by omega⟩,by omega,by omega⟩,by decide,by decide,?_⟩,fun hle=>?_⟩
       . generalize hM:l+(u-l)/2=M
         have hM1:l<M:=by omega
         have hM2:M<u:=by omega
         have hcond:((powP M e).2&&decide (((powP M e).1:Int)<=(n:Int)))=true↔M^e<=n:=by
           unfold powP
           split
           . simp only[YHn,decide_eq_true_eq]
             generalize M^e=t
             omega
           . simp only[YHx,YGM,false_iff]
             generalize M^e=t at*
             omega
         refine⟨fun hb=>⟨(M,u),⟨hcond.1 hb,hu,hM2,hun⟩,by simp only;omega,?_⟩,fun hb=>⟨(l,M),⟨hl,?_,hM1,by simp only;omega⟩,by simp only;omega,?_⟩⟩
         . simp only[Ya]
         . refine Nat.lt_of_not_le fun hh=>?_
           have:=hcond.2 hh
           rw[hb]at this;cases this
         . simp only[Ya]
       . obtain rfl:u=l+1:=by omega
         rw[Yfj (by omega) hl hu]at h
         exact Yh h
 . exact h.1.elim
def P7:Env:={ ct:=fun n=>match n with|100=>some powpC|99=>some rootpC|51=>some ivlC|_=>none,fn:=fun _=>none,meth:=fun _ _=>none}
theorem Yta:P7.ct 100=some powpC:=rfl
theorem Yxl:P7.ct 99=some rootpC:=rfl
theorem Yxk:P7.ct 51=some ivlC:=rfl
theorem P7_ok:Yq YGw P7:=by
 refine⟨fun f c h=>?_,fun f vf h=>?_,(fun _ _ _ h=>by cases h),by kernel_rfl,(fun _ h=>by cases h)⟩
 . simp only[P7]at h
   split at h
   . cases h;exact⟨YrU,Tryz.f100,Tryz.func100,by kernel_rfl,by kernel_rfl⟩
   . cases h;exact⟨Yvz,Tryz.f99,Tryz.func99,by kernel_rfl,by kernel_rfl⟩
   . cases h;exact⟨YnI,Tryz.f51,Tryz.func51,by kernel_rfl,by kernel_rfl⟩
   . cases h
 . cases h
theorem Yod{n k:Nat}(hk:0<k):Yc2 n k<=n:=by
 have h:=(YfZ (n:=n) hk).1
 generalize Yc2 n k=r at*
 cases r with
 |zero=>exact YHl _
 |succ r=>exact YGF (YGF (YHM (Nat.pow_one _).symm) (YGG (by omega) hk)) h
theorem YAc:rootC.ok YGw 67:=by
 refine Yb Tryz.func67 YFW P7_ok 300 rootC fun args k h=>⟨args,?_⟩
 simp only[rootC]at h
 split at h
 . rename_i x y e
   refine⟨by simp [leL,le],?_⟩
   (try dsimp only[v67,Yxk,Yta,Yxl,ivlC,powpC,rootpC,enc2,go_sem,reduceIte])
   (try simp only[Yd,YGu,YGt,reduceCtorEq,YGs])
   have h:k (.tup [.agg (enc2 (YfY (x,y) e).1),.int .i64 (YfY (x,y) e).2]) []:=h
   refine⟨by decide,[(x,y)],⟨⟨rfl,rfl,fun k hk=>match k,hk with|0,_=>Ye _⟩,by simp⟩,fun hc=>?_,fun hc=>?_⟩
   . rw[YfY,if_pos hc]at h
     exact Yx (r:=errI (ivE [(x,y)])) h
   . obtain⟨h1,h2,h3⟩:=ivE1 hc
     dsimp only at h1 h2 h3
     rw[YfY,if_neg (by rw[hc];simp)]at h
     dsimp only at h
     refine⟨fun hb=>?_,fun hb=>⟨fun hx=>?_,fun hx=>?_⟩⟩
     . rw[YHd,decide_eq_true_eq,decide_eq_true_eq]at hb
       rw[if_pos hb]at h
       exact Yx (r:=errI 2) h
     . rw[YHA,decide_eq_false_iff_not,decide_eq_false_iff_not]at hb
       rw[if_neg (by omega),if_pos hx]at h
       exact Yx (r:=errI 9) h
     . rw[YHA,decide_eq_false_iff_not,decide_eq_false_iff_not]at hb
       rw[if_neg (by omega),if_neg hx]at h
       obtain⟨x,rfl⟩:=YGT (by omega:0<=x)
       obtain⟨y,rfl⟩:=YGT (by omega:0<=y)
       obtain⟨e,rfl⟩:=YGT (by omega:0<=e)
       rw[YGR (x:Int) (by omega),YGR (y:Int) (by omega)]
       simp only[YGv]at h⊢
       have sx:=YfZ (n:=x) (k:=e) (by omega)
       have sy:=YfZ (n:=y) (k:=e) (by omega)
       have lx:=Yod (n:=x) (k:=e) (by omega)
       have ly:=Yod (n:=y) (k:=e) (by omega)
       have hp:powP (Yc2 y e) e=(Yc2 y e^e,true):=by unfold powP;rw[if_pos (by omega)]
       rw[hp]
       unfold Ysp at h
       generalize Yc2 x e=rx at*
       generalize Yc2 y e=ry at*
       rw[YGy (rx:Int) (by omega),YGy (ry:Int) (by omega),YGR ((ry:Int)+1) (by omega),YGy ((ry:Int)+1) (by omega)]
       refine⟨⟨⟨by omega,by omega⟩,by omega,by omega⟩,⟨⟨by omega,by omega⟩,by omega,by omega⟩,by decide,by decide,fun hc=>⟨⟨⟨by omega,by omega⟩,by omega,by omega⟩,?_⟩,fun hc=>⟨⟨⟨by omega,by omega⟩,by omega,by omega⟩,?_⟩⟩
       . rw[if_pos (by omega)]at h
         exact Yx (r:=((_,_),0)) h
       . rw[if_neg (by omega)]at h
         exact Yx (r:=((_,_),0)) h
 . exact h.1.elim
def v7:VF:=⟨59,[.tmp 2],(ZR [u1 1 .box [.tm 0],Zi 2 0] (ZR [Za 4 2 1,Zf 5 1 4,Za 6 1 1,Zf 7 1 6,Zr 8 .eql 5 7,Za 9 2 1,Zf 10 1 9,Za 11 1 1,Zf 12 1 11,Zr 13 .eql 10 12,Za 14 2 1,Zf 15 1 14,Za 16 1 1,Zf 17 1 16,Zr 18 .lss 15 17,u1 19 (.build [(.bool false),(.bool false),(.bool false),(.bool false)] [(1,1),(2,1),(3,1)]) [.tm 8,.tm 13,.tm 18],u1 3 (.allocArr 4 1 [(.bool false),(.bool false),(.bool false),(.bool false)]) [],Zs 4 3 19] (.seq (ZR [Za 20 0 1,Zf 21 1 20,u1 22 (.call 20) [.tm 21,.cn (.int .i64 1),.cn (.int .i64 3)],u1 23 .not [.tm 22],Zm 24 23,Zj 25 24 false 0 1,Zh 26 24 false 1 25,u2 27 24 false (.idxArr 4 1) [.tm 3,.tm 26],Zh 28 24 false 1 27,u2 29 24 false .not [.tm 28],u1 30 .or [.tm 24,.tm 29]] (ZC 30 (ZR [Zi 2 2] .ret) .skip)) (.seq (ZR [Za 31 1 1,Zf 32 1 31,u1 33 (.call 20) [.tm 32,.cn (.int .i64 1000),.cn (.int .i64 500000)],u1 34 .not [.tm 33],Zm 35 34,Zj 36 35 false 2 1,Zh 37 35 false 1 36,u2 38 35 false (.call 20) [.tm 37,.cn (.int .i64 1000),.cn (.int .i64 500000)],u2 39 35 false .not [.tm 38],u1 40 .or [.tm 35,.tm 39],Zm 41 40,Zj 42 41 false 3 1,Zh 43 41 false 1 42,Zj 44 41 false 1 1,Zh 45 41 false 1 44,u2 46 41 false (.ari .mul) [.cn (.int .i64 4),.tm 45],u2 47 41 false (.call 20) [.tm 43,.cn (.int .i64 1),.tm 46],u2 48 41 false .not [.tm 47],u1 49 .or [.tm 41,.tm 48],Zm 50 49,Zj 51 50 false 4 1,Zh 52 50 false 1 51,Zj 53 50 false 1 1,Zh 54 50 false 1 53,u2 55 50 false (.ari .mul) [.cn (.int .i64 4),.tm 54],u2 56 50 false (.call 20) [.tm 52,.cn (.int .i64 1),.tm 55],u2 57 50 false .not [.tm 56],u1 58 .or [.tm 50,.tm 57]] (ZC 58 (ZR [Zi 2 2] .ret) .skip)) (ZR [Zi 2 0] .ret)))))⟩
theorem v7_is:Yf YGw Tryz.f7=some v7:=by kernel_rfl
def v20:VF:=⟨15,[.tmp 6],(ZR [u1 6 .mov [.cn (.bool false)]] (ZR [Zm 7 0,Zm 8 1,Zr 9 .geq 7 8,Zm 10 9,Zg 11 10 true 0,Zg 12 10 true 2,u2 13 10 true (.cmp .leq) [.tm 11,.tm 12],u1 14 .and [.tm 10,.tm 13],Zm 6 14] .ret))⟩
theorem YFo:Yf YGw Tryz.f20=some v20:=by kernel_rfl
def encY(b:Bdy):List SV:=[.int .i64 b.kind,.int .i64 b.bottom,.int .i64 b.top,.int .i64 b.mouth,.int .i64 b.cut]
def chkBC:Ctr:={ alias:=false,of:=fun l=>match l with
 | [.agg [.int .i64 a,.int .i64 b,.int .i64 c,.int .i64 d,.int .i64 e]]=> .fin (.int .i64 (chkB ⟨a,b,c,d,e⟩)) []
 |_=>noC}
def inC:Ctr:={ alias:=false,of:=fun l=>match l with
 | [.int .i64 n,.int .i64 a,.int .i64 b]=> .fin (.bool (inF n a b)) []
 |_=> .pre False (.fin (.bool false) [])}
def L00:Env:={ ct:=fun _=>none,fn:=fun _=>none,meth:=fun _ _=>none}
theorem YB9:Yq YGw L00:=by
 refine⟨fun f c h=>?_,fun f vf h=>?_,(fun _ _ _ h=>by cases h),by kernel_rfl,(fun _ h=>by cases h)⟩
 . cases h
 . cases h
theorem in_c:inC.ok YGw 20:=by
 refine Yb Tryz.func20 YFo YB9 100 inC fun args k h=>?_
 simp only[inC]at h
 split at h
 . rename_i n a b
   refine⟨[.int .i64 n,.int .i64 a,.int .i64 b],by simp [leL,le],?_⟩
   dsimp only[v20,go_sem,reduceIte]
   simp only[Yd,YGu,YGt,reduceCtorEq,YGs]
   exact YW h
 . exact h.1.elim
def L0:Env:={ ct:=fun n=>match n with|20=>some inC|_=>none,fn:=fun _=>none,meth:=fun _ _=>none}
theorem Yec:L0.ct 20=some inC:=rfl
theorem L0_ok:Yq YGw L0:=by
 refine⟨fun f c h=>?_,fun f vf h=>?_,(fun _ _ _ h=>by cases h),by kernel_rfl,(fun _ h=>by cases h)⟩
 . simp only[L0]at h
   split at h
   . cases h;exact⟨in_c,Tryz.f20,Tryz.func20,by kernel_rfl,by kernel_rfl⟩
   . cases h
 . cases h
theorem Yqy:chkBC.ok YGw 7:=by
 refine Yb Tryz.func7 v7_is L0_ok 300 chkBC fun args k h=>?_
 simp only[chkBC]at h
 split at h
 . rename_i a b c d e
   refine⟨[.agg [.int .i64 a,.int .i64 b,.int .i64 c,.int .i64 d,.int .i64 e]],by simp [leL,le],?_⟩
   by_cases h1:a=1
   . subst h1
     have hin:inF 1 1 3=true:=by decide
     have hsh:YlG ⟨1,b,c,d,e⟩=decide (c=b):=rfl
     dsimp only[v7,Yec,inC,Int.reduceToNat,YHI,YHJ,Int.toNat_one,go_sem,reduceIte]
     simp only[Yd,YGu,YGt,reduceCtorEq,YGs]
     simp only[chkB,hin,hsh,YHn]at h
     refine⟨by decide,by decide,by decide,fun hc=>?_,fun hc=>?_⟩
     . rw[hin,YHL,YHv,YGP]at hc
       rw[hc,if_neg (by decide)]at h
       exact Yh h
     . rw[hin,YHL,YHv,YHe]at hc
       rw[hc,if_pos rfl]at h
       refine⟨fun hd=>?_,fun hd=>?_⟩
       . rw[if_neg (fun hh=>by
           simp only[YGA]at hh
           rw[hh.1.1.1,hh.1.1.2,hh.1.2,hh.2]at hd
           cases hd)]at h
         exact Yh h
       . simp only[YHA,YHe]at hd
         rw[if_pos (by simp only[YGA];exact hd)]at h
         exact Yh h
   by_cases h2:a=2
   . subst h2
     have hin:inF 2 1 3=true:=by decide
     have hsh:YlG ⟨2,b,c,d,e⟩=decide (c=b):=rfl
     dsimp only[v7,Yec,inC,Int.reduceToNat,YHI,YHJ,Int.toNat_one,go_sem,reduceIte]
     simp only[Yd,YGu,YGt,reduceCtorEq,YGs]
     simp only[chkB,hin,hsh,YHn]at h
     refine⟨by decide,by decide,by decide,fun hc=>?_,fun hc=>?_⟩
     . rw[hin,YHL,YHv,YGP]at hc
       rw[hc,if_neg (by decide)]at h
       exact Yh h
     . rw[hin,YHL,YHv,YHe]at hc
       rw[hc,if_pos rfl]at h
       refine⟨fun hd=>?_,fun hd=>?_⟩
       . rw[if_neg (fun hh=>by
           simp only[YGA]at hh
           rw[hh.1.1.1,hh.1.1.2,hh.1.2,hh.2]at hd
           cases hd)]at h
         exact Yh h
       . simp only[YHA,YHe]at hd
         rw[if_pos (by simp only[YGA];exact hd)]at h
         exact Yh h
   by_cases h3:a=3
   . subst h3
     have hin:inF 3 1 3=true:=by decide
     have hsh:YlG ⟨3,b,c,d,e⟩=decide (c<b):=rfl
     dsimp only[v7,Yec,inC,Int.reduceToNat,YHI,YHJ,Int.toNat_one,go_sem,reduceIte]
     simp only[Yd,YGu,YGt,reduceCtorEq,YGs]
     simp only[chkB,hin,hsh,YHn]at h
     refine⟨by decide,by decide,by decide,fun hc=>?_,fun hc=>?_⟩
     . rw[hin,YHL,YHv,YGP]at hc
       rw[hc,if_neg (by decide)]at h
       exact Yh h
     . rw[hin,YHL,YHv,YHe]at hc
       rw[hc,if_pos rfl]at h
       refine⟨fun hd=>?_,fun hd=>?_⟩
       . rw[if_neg (fun hh=>by
           simp only[YGA]at hh
           rw[hh.1.1.1,hh.1.1.2,hh.1.2,hh.2]at hd
           cases hd)]at h
         exact Yh h
       . simp only[YHA,YHe]at hd
         rw[if_pos (by simp only[YGA];exact hd)]at h
         exact Yh h
   have hin:inF a 1 3=false:=by
     unfold inF
     rw[YG9,decide_eq_false_iff_not,decide_eq_false_iff_not]
     omega
   dsimp only[v7,Yec,inC,go_sem,reduceIte]
   simp only[Yd,YGu,YGt,reduceCtorEq,YGs]
   rw[hin]
   have hch:chkB ⟨a,b,c,d,e⟩=2:=by
     rw[chkB,if_neg (by simp [hin])]
   rw[hch]at h
   by_cases h4:a<=0
   . rw[show a.toNat=0 by omega]
     dsimp only[YHI,Yec,inC,go_sem,reduceIte]
     simp only[Yd,YGu,YGt,reduceCtorEq,YGs]
     refine⟨by decide,fun _=>Yh h,fun hh=>by cases hh⟩
   . obtain⟨m,hm⟩:∃m,a.toNat=m+4:=⟨a.toNat-4,by omega⟩
     rw[hm,Nat.mul_one]
     have hdn:YJ m []=[]:=by cases m <;> rfl
     dsimp only[go_sem,reduceIte]
     rw[hdn]
     dsimp only[Yec,inC,go_sem,reduceIte]
     simp only[Yd,YGu,YGt,reduceCtorEq,YGs]
     refine⟨by decide,.bool false,?_⟩
     dsimp only[Yec,inC,go_sem,reduceIte]
     simp only[Yd,YGu,YGt,reduceCtorEq,YGs]
     exact⟨fun _=>Yh h,fun hh=>by cases hh⟩
 . exact h.1.elim
def v41:VF:=⟨8,[.tmp 2],(ZR [u1 2 .mov [.cn (.val (.pointer none))]] (ZR [Zm 3 0,Zm 4 0,u1 5 (.build [(.int .i64 0),(.int .i64 0)] [(0,1),(1,1)]) [.tm 3,.tm 4],u1 6 (.build [(.int .i64 0),(.int .i64 0),(.int .i64 0)] [(0,2)]) [.tm 5],u1 7 .box [.tm 6],Zm 2 7] .ret))⟩
theorem YFE:Yf YGw Tryz.f41=some v41:=by kernel_rfl
def v24:VF:=⟨29,[.tmp 6],(ZR [u1 5 .box [.tm 2],u1 6 .mov [.cn (.val (.pointer none))]] (.seq (.draw [(7,.box [(.int .i64 0),(.int .i64 0)])] [Zu 10 1,Zu 11 0,w1 12 .nilCheck [.tm 11],Zy 13 0 12,Zw 14 2 13,Zw 15 2 5,w1 16 .callv [.tm 10,.tm 14,.tm 15],Zu 9 16,ZE 17 0 9,ZE 18 1 9,ZS 2 7 17,Zu 8 18]) (ZR [Zm 19 0,u1 20 .nilCheck [.tm 19],Za 21 2 20,Zm 22 8,Zd 23 50 21 22] (ZR [Zm 24 0,Zt 25 2 7,u1 26 .nilCheck [.tm 24],Za 27 0 26,Zs 2 27 25] (ZR [Zm 28 0,Zm 6 28] .ret)))))⟩
theorem YsX:Yf YGw Tryz.f24=some v24:=by kernel_rfl
def v44:VF:=⟨29,[.tmp 6],(ZR [u1 6 .mov [.cn (.val (.pointer none))]] (ZR [Zm 10 0,u1 11 .nilCheck [.tm 10],Za 12 0 11,Zt 13 2 12,Zm 14 1,Zm 15 2,u1 16 (.call 62) [.tm 13,.tm 14,.tm 15],Zm 9 16,Ze 17 0 9,Ze 18 1 9,Zn 7,Zs 2 7 17,Zm 8 18] (ZR [Zm 19 0,u1 20 .nilCheck [.tm 19],Za 21 2 20,Zm 22 8,Zd 23 50 21 22] (ZR [Zm 24 0,Zt 25 2 7,u1 26 .nilCheck [.tm 24],Za 27 0 26,Zs 2 27 25] (ZR [Zm 28 0,Zm 6 28] .ret)))))⟩
theorem YwK:Yf YGw Tryz.f44=some v44:=by kernel_rfl
def v43:VF:=⟨23,[.tmp 2],(ZR [u1 2 .mov [.cn (.val (.pointer none))]] (ZR [Zm 6 0,u1 7 .nilCheck [.tm 6],Za 8 0 7,Zt 9 2 8,u1 10 (.call 67) [.tm 9,.cn (.int .i64 2)],Zm 5 10,Ze 11 0 5,Ze 12 1 5,Zn 3,Zs 2 3 11,Zm 4 12] (ZR [Zm 13 0,u1 14 .nilCheck [.tm 13],Za 15 2 14,Zm 16 4,Zd 17 50 15 16] (ZR [Zm 18 0,Zt 19 2 3,u1 20 .nilCheck [.tm 18],Za 21 0 20,Zs 2 21 19] (ZR [Zm 22 0,Zm 2 22] .ret)))))⟩
theorem YFG:Yf YGw Tryz.f43=some v43:=by kernel_rfl
def v50:VF:=⟨13,[],(ZR [Zm 4 0,u1 5 .nilCheck [.tm 4],Za 6 0 5,Zf 7 1 6,Zq 8 .eql 7 0] (ZC 8 (.region [Zm 9 0,Zm 10 1,u1 11 .nilCheck [.tm 9],Za 12 0 11,Zs 1 12 10]) .skip))⟩
theorem YsY:Yf YGw Tryz.f50=some v50:=by kernel_rfl
def v18:VF:=⟨49,[.cell 2 true 2,.cell 3 true 2],(ZR [u1 1 .box [.tm 0],Zn 2,Zn 3] (ZR [Za 6 1 1,Zf 7 1 6,Zc 8 41 7,u1 9 .nilCheck [.tm 8],Za 10 0 9,Zt 11 2 10,Zn 4,Zs 2 4 11] (.seq (.draw [] [Zy 12 3 1,Zv 13 1 12,Zy 15 4 1,Zv 16 1 15,w1 14 (.call 41) [.tm 13],w1 17 (.call 41) [.tm 16],w1 18 .nilCheck [.tm 17],Zy 19 0 18,Zw 20 2 19,w1 21 (.call 24) [.tm 14,.cn (.fn (.func 42) [] []),.tm 20],w1 22 (.call 43) [.tm 21],Zu 5 22]) (.seq (.drawT [] (.ops [Zy 23 1 1] (.ops [Zv 24 1 23] (.ops [Zw 26 2 4] (.br (.ops [w1 25 (.call 41) [.tm 24]] (.br (.ops [w1 27 (.call 24) [.tm 25,.cn (.fn (.func 42) [] []),.tm 26]] (.br (.ops [w1 28 (.call 44) [.tm 27,.cn (.int .i64 575),.cn (.int .i64 1000)]] (.ops [Zu 29 5] (.ops [w1 30 .nilCheck [.tm 29]] (.ops [Zy 31 0 30] (.ops [Zw 32 2 31] (.ops [w1 33 (.call 24) [.tm 28,.cn (.fn (.func 25) [] []),.tm 32]] (.ops [w1 34 .nilCheck [.tm 33]] (.ops [Zy 35 0 34] (.ops [Zw 36 2 35] (.ops [ZS 2 2 36] .leaf)))))))))) (.ops [Zu 29 5] (.br (.ops [w1 28 (.call 44) [.tm 27,.cn (.int .i64 575),.cn (.int .i64 1000)]] (.ops [w1 30 .nilCheck [.tm 29]] (.ops [Zy 31 0 30] (.ops [Zw 32 2 31] (.ops [w1 33 (.call 24) [.tm 28,.cn (.fn (.func 25) [] []),.tm 32]] (.ops [w1 34 .nilCheck [.tm 33]] (.ops [Zy 35 0 34] (.ops [Zw 36 2 35] (.ops [ZS 2 2 36] .leaf))))))))) (.ops [w1 30 .nilCheck [.tm 29]] (.br (.ops [w1 28 (.call 44) [.tm 27,.cn (.int .i64 575),.cn (.int .i64 1000)]] (.ops [Zy 31 0 30] (.ops [Zw 32 2 31] (.ops [w1 33 (.call 24) [.tm 28,.cn (.fn (.func 25) [] []),.tm 32]] (.ops [w1 34 .nilCheck [.tm 33]] (.ops [Zy 35 0 34] (.ops [Zw 36 2 35] (.ops [ZS 2 2 36] .leaf)))))))) (.ops [Zy 31 0 30] (.br (.ops [w1 28 (.call 44) [.tm 27,.cn (.int .i64 575),.cn (.int .i64 1000)]] (.ops [Zw 32 2 31] (.ops [w1 33 (.call 24) [.tm 28,.cn (.fn (.func 25) [] []),.tm 32]] (.ops [w1 34 .nilCheck [.tm 33]] (.ops [Zy 35 0 34] (.ops [Zw 36 2 35] (.ops [ZS 2 2 36] .leaf))))))) (.ops [Zw 32 2 31] (.ops [w1 28 (.call 44) [.tm 27,.cn (.int .i64 575),.cn (.int .i64 1000)]] (.ops [w1 33 (.call 24) [.tm 28,.cn (.fn (.func 25) [] []),.tm 32]] (.ops [w1 34 .nilCheck [.tm 33]] (.ops [Zy 35 0 34] (.ops [Zw 36 2 35] (.ops [ZS 2 2 36] .leaf))))))))))))))) (.ops [Zu 29 5] (.br (.ops [w1 27 (.call 24) [.tm 25,.cn (.fn (.func 42) [] []),.tm 26]] (.br (.ops [w1 28 (.call 44) [.tm 27,.cn (.int .i64 575),.cn (.int .i64 1000)]] (.ops [w1 30 .nilCheck [.tm 29]] (.ops [Zy 31 0 30] (.ops [Zw 32 2 31] (.ops [w1 33 (.call 24) [.tm 28,.cn (.fn (.func 25) [] []),.tm 32]] (.ops [w1 34 .nilCheck [.tm 33]] (.ops [Zy 35 0 34] (.ops [Zw 36 2 35] (.ops [ZS 2 2 36] .leaf))))))))) (.ops [w1 30 .nilCheck [.tm 29]] (.br (.ops [w1 28 (.call 44) [.tm 27,.cn (.int .i64 575),.cn (.int .i64 1000)]] (.ops [Zy 31 0 30] (.ops [Zw 32 2 31] (.ops [w1 33 (.call 24) [.tm 28,.cn (.fn (.func 25) [] []),.tm 32]] (.ops [w1 34 .nilCheck [.tm 33]] (.ops [Zy 35 0 34] (.ops [Zw 36 2 35] (.ops [ZS 2 2 36] .leaf)))))))) (.ops [Zy 31 0 30] (.br (.ops [w1 28 (.call 44) [.tm 27,.cn (.int .i64 575),.cn (.int .i64 1000)]] (.ops [Zw 32 2 31] (.ops [w1 33 (.call 24) [.tm 28,.cn (.fn (.func 25) [] []),.tm 32]] (.ops [w1 34 .nilCheck [.tm 33]] (.ops [Zy 35 0 34] (.ops [Zw 36 2 35] (.ops [ZS 2 2 36] .leaf))))))) (.ops [Zw 32 2 31] (.ops [w1 28 (.call 44) [.tm 27,.cn (.int .i64 575),.cn (.int .i64 1000)]] (.ops [w1 33 (.call 24) [.tm 28,.cn (.fn (.func 25) [] []),.tm 32]] (.ops [w1 34 .nilCheck [.tm 33]] (.ops [Zy 35 0 34] (.ops [Zw 36 2 35] (.ops [ZS 2 2 36] .leaf))))))))))))) (.ops [w1 30 .nilCheck [.tm 29]] (.br (.ops [w1 27 (.call 24) [.tm 25,.cn (.fn (.func 42) [] []),.tm 26]] (.br (.ops [w1 28 (.call 44) [.tm 27,.cn (.int .i64 575),.cn (.int .i64 1000)]] (.ops [Zy 31 0 30] (.ops [Zw 32 2 31] (.ops [w1 33 (.call 24) [.tm 28,.cn (.fn (.func 25) [] []),.tm 32]] (.ops [w1 34 .nilCheck [.tm 33]] (.ops [Zy 35 0 34] (.ops [Zw 36 2 35] (.ops [ZS 2 2 36] .leaf)))))))) (.ops [Zy 31 0 30] (.br (.ops [w1 28 (.call 44) [.tm 27,.cn (.int .i64 575),.cn (.int .i64 1000)]] (.ops [Zw 32 2 31] (.ops [w1 33 (.call 24) [.tm 28,.cn (.fn (.func 25) [] []),.tm 32]] (.ops [w1 34 .nilCheck [.tm 33]] (.ops [Zy 35 0 34] (.ops [Zw 36 2 35] (.ops [ZS 2 2 36] .leaf))))))) (.ops [Zw 32 2 31] (.ops [w1 28 (.call 44) [.tm 27,.cn (.int .i64 575),.cn (.int .i64 1000)]] (.ops [w1 33 (.call 24) [.tm 28,.cn (.fn (.func 25) [] []),.tm 32]] (.ops [w1 34 .nilCheck [.tm 33]] (.ops [Zy 35 0 34] (.ops [Zw 36 2 35] (.ops [ZS 2 2 36] .leaf))))))))))) (.ops [Zy 31 0 30] (.br (.ops [w1 27 (.call 24) [.tm 25,.cn (.fn (.func 42) [] []),.tm 26]] (.br (.ops [w1 28 (.call 44) [.tm 27,.cn (.int .i64 575),.cn (.int .i64 1000)]] (.ops [Zw 32 2 31] (.ops [w1 33 (.call 24) [.tm 28,.cn (.fn (.func 25) [] []),.tm 32]] (.ops [w1 34 .nilCheck [.tm 33]] (.ops [Zy 35 0 34] (.ops [Zw 36 2 35] (.ops [ZS 2 2 36] .leaf))))))) (.ops [Zw 32 2 31] (.ops [w1 28 (.call 44) [.tm 27,.cn (.int .i64 575),.cn (.int .i64 1000)]] (.ops [w1 33 (.call 24) [.tm 28,.cn (.fn (.func 25) [] []),.tm 32]] (.ops [w1 34 .nilCheck [.tm 33]] (.ops [Zy 35 0 34] (.ops [Zw 36 2 35] (.ops [ZS 2 2 36] .leaf))))))))) (.ops [Zw 32 2 31] (.ops [w1 27 (.call 24) [.tm 25,.cn (.fn (.func 42) [] []),.tm 26]] (.ops [w1 28 (.call 44) [.tm 27,.cn (.int .i64 575),.cn (.int .i64 1000)]] (.ops [w1 33 (.call 24) [.tm 28,.cn (.fn (.func 25) [] []),.tm 32]] (.ops [w1 34 .nilCheck [.tm 33]] (.ops [Zy 35 0 34] (.ops [Zw 36 2 35] (.ops [ZS 2 2 36] .leaf)))))))))))))))) (.ops [Zu 29 5] (.br (.ops [w1 25 (.call 41) [.tm 24]] (.br (.ops [w1 27 (.call 24) [.tm 25,.cn (.fn (.func 42) [] []),.tm 26]] (.br (.ops [w1 28 (.call 44) [.tm 27,.cn (.int .i64 575),.cn (.int .i64 1000)]] (.ops [w1 30 .nilCheck [.tm 29]] (.ops [Zy 31 0 30] (.ops [Zw 32 2 31] (.ops [w1 33 (.call 24) [.tm 28,.cn (.fn (.func 25) [] []),.tm 32]] (.ops [w1 34 .nilCheck [.tm 33]] (.ops [Zy 35 0 34] (.ops [Zw 36 2 35] (.ops [ZS 2 2 36] .leaf))))))))) (.ops [w1 30 .nilCheck [.tm 29]] (.br (.ops [w1 28 (.call 44) [.tm 27,.cn (.int .i64 575),.cn (.int .i64 1000)]] (.ops [Zy 31 0 30] (.ops [Zw 32 2 31] (.ops [w1 33 (.call 24) [.tm 28,.cn (.fn (.func 25) [] []),.tm 32]] (.ops [w1 34 .nilCheck [.tm 33]] (.ops [Zy 35 0 34] (.ops [Zw 36 2 35] (.ops [ZS 2 2 36] .leaf)))))))) (.ops [Zy 31 0 30] (.br (.ops [w1 28 (.call 44) [.tm 27,.cn (.int .i64 575),.cn (.int .i64 1000)]] (.ops [Zw 32 2 31] (.ops [w1 33 (.call 24) [.tm 28,.cn (.fn (.func 25) [] []),.tm 32]] (.ops [w1 34 .nilCheck [.tm 33]] (.ops [Zy 35 0 34] (.ops [Zw 36 2 35] (.ops [ZS 2 2 36] .leaf))))))) (.ops [Zw 32 2 31] (.ops [w1 28 (.call 44) [.tm 27,.cn (.int .i64 575),.cn (.int .i64 1000)]] (.ops [w1 33 (.call 24) [.tm 28,.cn (.fn (.func 25) [] []),.tm 32]] (.ops [w1 34 .nilCheck [.tm 33]] (.ops [Zy 35 0 34] (.ops [Zw 36 2 35] (.ops [ZS 2 2 36] .leaf))))))))))))) (.ops [w1 30 .nilCheck [.tm 29]] (.br (.ops [w1 27 (.call 24) [.tm 25,.cn (.fn (.func 42) [] []),.tm 26]] (.br (.ops [w1 28 (.call 44) [.tm 27,.cn (.int .i64 575),.cn (.int .i64 1000)]] (.ops [Zy 31 0 30] (.ops [Zw 32 2 31] (.ops [w1 33 (.call 24) [.tm 28,.cn (.fn (.func 25) [] []),.tm 32]] (.ops [w1 34 .nilCheck [.tm 33]] (.ops [Zy 35 0 34] (.ops [Zw 36 2 35] (.ops [ZS 2 2 36] .leaf)))))))) (.ops [Zy 31 0 30] (.br (.ops [w1 28 (.call 44) [.tm 27,.cn (.int .i64 575),.cn (.int .i64 1000)]] (.ops [Zw 32 2 31] (.ops [w1 33 (.call 24) [.tm 28,.cn (.fn (.func 25) [] []),.tm 32]] (.ops [w1 34 .nilCheck [.tm 33]] (.ops [Zy 35 0 34] (.ops [Zw 36 2 35] (.ops [ZS 2 2 36] .leaf))))))) (.ops [Zw 32 2 31] (.ops [w1 28 (.call 44) [.tm 27,.cn (.int .i64 575),.cn (.int .i64 1000)]] (.ops [w1 33 (.call 24) [.tm 28,.cn (.fn (.func 25) [] []),.tm 32]] (.ops [w1 34 .nilCheck [.tm 33]] (.ops [Zy 35 0 34] (.ops [Zw 36 2 35] (.ops [ZS 2 2 36] .leaf))))))))))) (.ops [Zy 31 0 30] (.br (.ops [w1 27 (.call 24) [.tm 25,.cn (.fn (.func 42) [] []),.tm 26]] (.br (.ops [w1 28 (.call 44) [.tm 27,.cn (.int .i64 575),.cn (.int .i64 1000)]] (.ops [Zw 32 2 31] (.ops [w1 33 (.call 24) [.tm 28,.cn (.fn (.func 25) [] []),.tm 32]] (.ops [w1 34 .nilCheck [.tm 33]] (.ops [Zy 35 0 34] (.ops [Zw 36 2 35] (.ops [ZS 2 2 36] .leaf))))))) (.ops [Zw 32 2 31] (.ops [w1 28 (.call 44) [.tm 27,.cn (.int .i64 575),.cn (.int .i64 1000)]] (.ops [w1 33 (.call 24) [.tm 28,.cn (.fn (.func 25) [] []),.tm 32]] (.ops [w1 34 .nilCheck [.tm 33]] (.ops [Zy 35 0 34] (.ops [Zw 36 2 35] (.ops [ZS 2 2 36] .leaf))))))))) (.ops [Zw 32 2 31] (.ops [w1 27 (.call 24) [.tm 25,.cn (.fn (.func 42) [] []),.tm 26]] (.ops [w1 28 (.call 44) [.tm 27,.cn (.int .i64 575),.cn (.int .i64 1000)]] (.ops [w1 33 (.call 24) [.tm 28,.cn (.fn (.func 25) [] []),.tm 32]] (.ops [w1 34 .nilCheck [.tm 33]] (.ops [Zy 35 0 34] (.ops [Zw 36 2 35] (.ops [ZS 2 2 36] .leaf)))))))))))))) (.ops [w1 30 .nilCheck [.tm 29]] (.br (.ops [w1 25 (.call 41) [.tm 24]] (.br (.ops [w1 27 (.call 24) [.tm 25,.cn (.fn (.func 42) [] []),.tm 26]] (.br (.ops [w1 28 (.call 44) [.tm 27,.cn (.int .i64 575),.cn (.int .i64 1000)]] (.ops [Zy 31 0 30] (.ops [Zw 32 2 31] (.ops [w1 33 (.call 24) [.tm 28,.cn (.fn (.func 25) [] []),.tm 32]] (.ops [w1 34 .nilCheck [.tm 33]] (.ops [Zy 35 0 34] (.ops [Zw 36 2 35] (.ops [ZS 2 2 36] .leaf)))))))) (.ops [Zy 31 0 30] (.br (.ops [w1 28 (.call 44) [.tm 27,.cn (.int .i64 575),.cn (.int .i64 1000)]] (.ops [Zw 32 2 31] (.ops [w1 33 (.call 24) [.tm 28,.cn (.fn (.func 25) [] []),.tm 32]] (.ops [w1 34 .nilCheck [.tm 33]] (.ops [Zy 35 0 34] (.ops [Zw 36 2 35] (.ops [ZS 2 2 36] .leaf))))))) (.ops [Zw 32 2 31] (.ops [w1 28 (.call 44) [.tm 27,.cn (.int .i64 575),.cn (.int .i64 1000)]] (.ops [w1 33 (.call 24) [.tm 28,.cn (.fn (.func 25) [] []),.tm 32]] (.ops [w1 34 .nilCheck [.tm 33]] (.ops [Zy 35 0 34] (.ops [Zw 36 2 35] (.ops [ZS 2 2 36] .leaf))))))))))) (.ops [Zy 31 0 30] (.br (.ops [w1 27 (.call 24) [.tm 25,.cn (.fn (.func 42) [] []),.tm 26]] (.br (.ops [w1 28 (.call 44) [.tm 27,.cn (.int .i64 575),.cn (.int .i64 1000)]] (.ops [Zw 32 2 31] (.ops [w1 33 (.call 24) [.tm 28,.cn (.fn (.func 25) [] []),.tm 32]] (.ops [w1 34 .nilCheck [.tm 33]] (.ops [Zy 35 0 34] (.ops [Zw 36 2 35] (.ops [ZS 2 2 36] .leaf))))))) (.ops [Zw 32 2 31] (.ops [w1 28 (.call 44) [.tm 27,.cn (.int .i64 575),.cn (.int .i64 1000)]] (.ops [w1 33 (.call 24) [.tm 28,.cn (.fn (.func 25) [] []),.tm 32]] (.ops [w1 34 .nilCheck [.tm 33]] (.ops [Zy 35 0 34] (.ops [Zw 36 2 35] (.ops [ZS 2 2 36] .leaf))))))))) (.ops [Zw 32 2 31] (.ops [w1 27 (.call 24) [.tm 25,.cn (.fn (.func 42) [] []),.tm 26]] (.ops [w1 28 (.call 44) [.tm 27,.cn (.int .i64 575),.cn (.int .i64 1000)]] (.ops [w1 33 (.call 24) [.tm 28,.cn (.fn (.func 25) [] []),.tm 32]] (.ops [w1 34 .nilCheck [.tm 33]] (.ops [Zy 35 0 34] (.ops [Zw 36 2 35] (.ops [ZS 2 2 36] .leaf)))))))))))) (.ops [Zy 31 0 30] (.br (.ops [w1 25 (.call 41) [.tm 24]] (.br (.ops [w1 27 (.call 24) [.tm 25,.cn (.fn (.func 42) [] []),.tm 26]] (.br (.ops [w1 28 (.call 44) [.tm 27,.cn (.int .i64 575),.cn (.int .i64 1000)]] (.ops [Zw 32 2 31] (.ops [w1 33 (.call 24) [.tm 28,.cn (.fn (.func 25) [] []),.tm 32]] (.ops [w1 34 .nilCheck [.tm 33]] (.ops [Zy 35 0 34] (.ops [Zw 36 2 35] (.ops [ZS 2 2 36] .leaf))))))) (.ops [Zw 32 2 31] (.ops [w1 28 (.call 44) [.tm 27,.cn (.int .i64 575),.cn (.int .i64 1000)]] (.ops [w1 33 (.call 24) [.tm 28,.cn (.fn (.func 25) [] []),.tm 32]] (.ops [w1 34 .nilCheck [.tm 33]] (.ops [Zy 35 0 34] (.ops [Zw 36 2 35] (.ops [ZS 2 2 36] .leaf))))))))) (.ops [Zw 32 2 31] (.ops [w1 27 (.call 24) [.tm 25,.cn (.fn (.func 42) [] []),.tm 26]] (.ops [w1 28 (.call 44) [.tm 27,.cn (.int .i64 575),.cn (.int .i64 1000)]] (.ops [w1 33 (.call 24) [.tm 28,.cn (.fn (.func 25) [] []),.tm 32]] (.ops [w1 34 .nilCheck [.tm 33]] (.ops [Zy 35 0 34] (.ops [Zw 36 2 35] (.ops [ZS 2 2 36] .leaf)))))))))) (.ops [Zw 32 2 31] (.ops [w1 25 (.call 41) [.tm 24]] (.ops [w1 27 (.call 24) [.tm 25,.cn (.fn (.func 42) [] []),.tm 26]] (.ops [w1 28 (.call 44) [.tm 27,.cn (.int .i64 575),.cn (.int .i64 1000)]] (.ops [w1 33 (.call 24) [.tm 28,.cn (.fn (.func 25) [] []),.tm 32]] (.ops [w1 34 .nilCheck [.tm 33]] (.ops [Zy 35 0 34] (.ops [Zw 36 2 35] (.ops [ZS 2 2 36] .leaf)))))))))))))))))))) (.seq (ZR [Za 37 0 1,Zf 38 1 37,Zq 39 .neq 38 2] (ZC 39 (.region [Za 40 2 1,Zf 41 1 40,Zc 42 41 41,u1 43 (.call 44) [.tm 42,.cn (.int .i64 30665),.cn (.int .i64 100000)],u1 44 .nilCheck [.tm 43],Za 45 0 44,Zt 46 2 45,Zs 2 3 46]) .skip)) (.seq (.draw [] [Zw 47 2 2,Zw 48 2 3,⟨Zs 2 2 47,[.tm 3]⟩,ZS 2 3 48]) .ret))))))⟩
theorem YFm:Yf YGw Tryz.f18=some v18:=by kernel_rfl
def ofSC:Ctr:={ alias:=false,of:=fun l=>match l with
 | [.int .i64 n]=> .fin (.ptr 0 0) [.box [.int .i64 n,.int .i64 n,.int .i64 0]]
 |_=>noC}
def L2:Env:={ ct:=fun _=>none,fn:=fun _=>none,meth:=fun _ _=>none}
theorem L2_ok:Yq YGw L2:=by
 refine⟨fun f c h=>?_,fun f vf h=>?_,(fun _ _ _ h=>by cases h),by kernel_rfl,(fun _ h=>by cases h)⟩
 . cases h
 . cases h
theorem ofS_c:ofSC.ok YGw 41:=by
 refine Yf9 Tryz.func41 YFE L2_ok 100 ofSC fun args k h=>?_
 simp only[ofSC]at h
 split at h
 . rename_i n
   refine⟨[.int .i64 n],by simp [leL,le],?_⟩
   dsimp only[v41,go_sem,reduceIte]
   simp only[Yd,YGu,YGt,reduceCtorEq,YGs]
   exact⟨h,trivial,⟨trivial,trivial,trivial,trivial⟩,trivial⟩
 . exact h.1.elim
def corC:Ctr:={ alias:=false,of:=fun l=>match l with
 | [.agg [.int .i64 a,.int .i64 b,.int .i64 c,.int .i64 d,.int .i64 e]]=> .pre (chkB ⟨a,b,c,d,e⟩=0) (.fin (.tup [.agg (enc2 (YcY ⟨a,b,c,d,e⟩)),.agg (enc2 (endF ⟨a,b,c,d,e⟩))]) [])
 |_=>noC}
theorem YiV{k:SV->List HO->Prop}{al:Bool}{hp:List HO}{p q:Iv}(h:k (.tup [.agg (enc2 p),.agg (enc2 q)]) []):YI al k (.tup [.agg [.int .i64 p.1,.int .i64 p.2],.agg [.int .i64 q.1,.int .i64 q.2]]) hp:=
 YE (show k _ []from h) (Yy (.tup [.agg [.int .i64 p.1,.int .i64 p.2],.agg [.int .i64 q.1,.int .i64 q.2]]) ⟨⟨trivial,trivial,trivial⟩,⟨trivial,trivial,trivial⟩,trivial⟩) (fun _=>by simp [enc2,Yl,Yo])
def L1:Env:={ ct:=fun n=>match n with|42=>some mulC|25=>some quoC|62=>some sclC|67=>some rootC|41=>some ofSC|_=>none,fn:=fun n=>match n with|24=>some v24|44=>some v44|43=>some v43|50=>some v50|_=>none,meth:=fun _ _=>none,lo:=fun n=>match n with|24=>true|44=>true|43=>true|_=>false}
theorem Yeg:L1.ct 42=some mulC:=rfl
theorem Yee:L1.ct 25=some quoC:=rfl
theorem Yek:L1.ct 62=some sclC:=rfl
theorem Yel:L1.ct 67=some rootC:=rfl
theorem Yef:L1.ct 41=some ofSC:=rfl
theorem Yed:L1.ct 24=none:=rfl
theorem Yem:L1.fn 24=some v24:=rfl
theorem Yei:L1.ct 44=none:=rfl
theorem Yeo:L1.fn 44=some v44:=rfl
theorem Yeh:L1.ct 43=none:=rfl
theorem Yen:L1.fn 43=some v43:=rfl
theorem Yej:L1.ct 50=none:=rfl
theorem Yep:L1.fn 50=some v50:=rfl
theorem L1_ok:Yq YGw L1:=by
 refine⟨fun f c h=>?_,fun f vf h=>?_,(fun _ _ _ h=>by cases h),by kernel_rfl,fun f h=>?_⟩
 . simp only[L1]at h
   split at h
   . cases h;exact⟨YnR,Tryz.f42,Tryz.func42,by kernel_rfl,by kernel_rfl⟩
   . cases h;exact⟨Yws,Tryz.f25,Tryz.func25,by kernel_rfl,by kernel_rfl⟩
   . cases h;exact⟨YwC,Tryz.f62,Tryz.func62,by kernel_rfl,by kernel_rfl⟩
   . cases h;exact⟨YAc,Tryz.f67,Tryz.func67,by kernel_rfl,by kernel_rfl⟩
   . cases h;exact⟨ofS_c,Tryz.f41,Tryz.func41,by kernel_rfl,by kernel_rfl⟩
   . cases h
 . simp only[L1]at h
   split at h
   . cases h;exact⟨Tryz.f24,Tryz.func24,YsX,Tryz.f24,Tryz.func24,by kernel_rfl,by kernel_rfl⟩
   . cases h;exact⟨Tryz.f44,Tryz.func44,YwK,Tryz.f44,Tryz.func44,by kernel_rfl,by kernel_rfl⟩
   . cases h;exact⟨Tryz.f43,Tryz.func43,YFG,Tryz.f43,Tryz.func43,by kernel_rfl,by kernel_rfl⟩
   . cases h;exact⟨Tryz.f50,Tryz.func50,YsY,Tryz.f50,Tryz.func50,by kernel_rfl,by kernel_rfl⟩
   . cases h
 . simp only[L1]at h
   split at h
   . kernel_rfl
   . kernel_rfl
   . kernel_rfl
   . cases h
theorem Yeq:L1.lo 24=true:=rfl
theorem Yes:L1.lo 44=true:=rfl
theorem Yer:L1.lo 43=true:=rfl
theorem YC2:corC.ok YGw 18:=by
 refine Yb Tryz.func18 YFm L1_ok 600 corC fun args k h=>?_
 simp only[corC]at h
 split at h
 . rename_i a b c d e
   obtain⟨hchk,h⟩:=h
   obtain⟨_,⟨b0,b1⟩,⟨c0,c1⟩,⟨d0,d1⟩,e0,e1⟩:=Yqz hchk
   dsimp only at b0 b1 c0 c1 d0 d1 e0 e1
   have M1:(mulF (d,d) (e,e)).2=0:=by rw[YrF (by omega) d1 (by omega) e1]
   have M2:(mulF (b,b) (b,b)).2=0:=by rw[YrF (by omega) (by omega) (by omega) (by omega)]
   have M3:(sclF ((mulF (b,b) (b,b)).1.1,(mulF (b,b) (b,b)).1.2) 575 1000).2=0:=by
     have hb1:b*b<=500000*500000:=Yhq b1 b1 (by omega) (by decide)
     have hb0:0<=b*b:=Int.mul_nonneg (by omega) (by omega)
     rw[YrF (by omega) (by omega) (by omega) (by omega)]
     exact YwB hb0 (Int.le_refl _) (by simp only;omega) (by decide) (by decide) (by decide) (by decide)
   have hN:¬a=2->k (.tup [.agg (enc2 (YcY ⟨a,b,c,d,e⟩)),.agg (enc2 (sclF (c,c) 30665 100000).1)]) []:=fun hc=>by
     have h:k (.tup [.agg (enc2 (YcY ⟨a,b,c,d,e⟩)),.agg (enc2 (endF ⟨a,b,c,d,e⟩))]) []:=h
     rw[endF,if_neg hc]at h;exact h
   have hY:a=2->k (.tup [.agg (enc2 (YcY ⟨a,b,c,d,e⟩)),.agg (enc2 ((0,0):Iv))]) []:=fun hc=>by
     have h:k (.tup [.agg (enc2 (YcY ⟨a,b,c,d,e⟩)),.agg (enc2 (endF ⟨a,b,c,d,e⟩))]) []:=h
     rw[endF,if_pos hc]at h;exact h
   refine⟨[.agg [.int .i64 a,.int .i64 b,.int .i64 c,.int .i64 d,.int .i64 e]],by simp [leL,le],?_⟩
   dsimp only[v18,Yeg,Yee,Yek,Yel,Yef,ofSC,mulC,quoC,sclC,rootC,iv2C,ivoC,enc2,Yed,Yem,Yeq,v24,Yei,Yeo,Yes,v44,Yeh,Yen,Yer,v43,Yej,Yep,v50,go_sem,reduceIte]
   simp only[Yd,YGu,YGt,reduceCtorEq,YGs]
   (refine YbU _ (by((try dsimp only[Yeg,Yee,Yek,Yel,Yef,ofSC,mulC,quoC,sclC,rootC,iv2C,ivoC,enc2,Yed,Yem,Yeq,v24,Yei,Yeo,Yes,v44,Yeh,Yen,Yer,v43,Yej,Yep,v50,go_sem,reduceIte]);(try simp only[Yd,YGu,YGt,reduceCtorEq,YGs]));exact⟨by decide,by decide,rfl,fun hh=>absurd trivial hh⟩) ?_;(try simp only[M1,M2,M3]);((try dsimp only[Yeg,Yee,Yek,Yel,Yef,ofSC,mulC,quoC,sclC,rootC,iv2C,ivoC,enc2,Yed,Yem,Yeq,v24,Yei,Yeo,Yes,v44,Yeh,Yen,Yer,v43,Yej,Yep,v50,go_sem,reduceIte]);(try simp only[Yd,YGu,YGt,reduceCtorEq,YGs])))
   (refine YbU _ (by((try dsimp only[Yeg,Yee,Yek,Yel,Yef,ofSC,mulC,quoC,sclC,rootC,iv2C,ivoC,enc2,Yed,Yem,Yeq,v24,Yei,Yeo,Yes,v44,Yeh,Yen,Yer,v43,Yej,Yep,v50,go_sem,reduceIte]);(try simp only[Yd,YGu,YGt,reduceCtorEq,YGs]));exact⟨by decide,by decide,rfl,fun hh=>absurd trivial hh⟩) ?_;(try simp only[M1,M2,M3]);((try dsimp only[Yeg,Yee,Yek,Yel,Yef,ofSC,mulC,quoC,sclC,rootC,iv2C,ivoC,enc2,Yed,Yem,Yeq,v24,Yei,Yeo,Yes,v44,Yeh,Yen,Yer,v43,Yej,Yep,v50,go_sem,reduceIte]);(try simp only[Yd,YGu,YGt,reduceCtorEq,YGs])))
   repeat' (first|apply YGV| (refine YbU _ (by((try dsimp only[Yeg,Yee,Yek,Yel,Yef,ofSC,mulC,quoC,sclC,rootC,iv2C,ivoC,enc2,Yed,Yem,Yeq,v24,Yei,Yeo,Yes,v44,Yeh,Yen,Yer,v43,Yej,Yep,v50,go_sem,reduceIte]);(try simp only[Yd,YGu,YGt,reduceCtorEq,YGs]));exact⟨by decide,by decide,rfl,fun hh=>absurd trivial hh⟩) ?_;(try simp only[M1,M2,M3]);((try dsimp only[Yeg,Yee,Yek,Yel,Yef,ofSC,mulC,quoC,sclC,rootC,iv2C,ivoC,enc2,Yed,Yem,Yeq,v24,Yei,Yeo,Yes,v44,Yeh,Yen,Yer,v43,Yej,Yep,v50,go_sem,reduceIte]);(try simp only[Yd,YGu,YGt,reduceCtorEq,YGs]))))
   all_goals first
     |exact fun hc=>⟨by decide,by decide,YiV (hN hc),fun hh=>absurd trivial hh⟩
     |exact fun hc=>YiV (hY hc)
 . exact h.1.elim
theorem Yi6{t:Int->Bool}:∀(f:Nat)(a b:Int),a<b->a<=bisL f t a b/\bisL f t a b<b
 |0,a,b,h=>⟨Int.le_refl _,h⟩
 |f+1,a,b,h=>by
   rw[bisL]
   split
   . split
     . have:=Yi6 (t:=t) f (a+(b-a)/2) b (by omega);omega
     . have:=Yi6 (t:=t) f a (a+(b-a)/2) (by omega);omega
   . exact⟨Int.le_refl _,h⟩
theorem Yvj(s:Int)(l:List (Int×Int))(den:Int):0<=(YeM s l den).1/\(YeM s l den).1<=1000000000000:=by
 unfold YeM
 split
 . exact⟨Int.le_refl _,by decide⟩
 . have:=Yi6 (t:=isF (l++[(s,den)]) den) 64 0 1000000000001 (by decide)
   simp only;omega
theorem Yzz(s:Int)(l:List (Int×Int))(den:Int):0<=(pspF s l den).1/\(pspF s l den).1<=(pspF s l den).2/\(pspF s l den).2<=1000000000001:=by
 obtain⟨h0,h1⟩:=Yvj s l den
 unfold pspF
 split
 . exact⟨h0,Int.le_refl _,by simp only;omega⟩
 . rw[YGy _ (by omega)]
   simp only;omega
theorem YlJ(t:Int):0<=(YY t).1.1/\(YY t).1.1<=(YY t).1.2/\(YY t).1.2<=1000000000001:=by
 unfold YY
 split
 . exact Yzz _ _ _
 . decide
theorem Ylo(b:Bdy):0<=Yd9 b/\Yd9 b<=100000:=by unfold Yd9;split <;> decide
theorem YlR(b:Bdy)(t:Int):(wayF b t).2=0:=by
 obtain⟨h0,h1,h2⟩:=YlJ t
 obtain⟨p0,p1⟩:=Ylo b
 exact YwB h0 h1 (by omega) p0 p1 (by decide) (by decide)
theorem YwL(b:Bdy)(t:Int):0<=(wayF b t).1.1/\(wayF b t).1.1<=(wayF b t).1.2/\(wayF b t).1.2<=1000000000001*500:=by
 obtain⟨h0,h1,h2⟩:=YlJ t
 obtain⟨p0,p1⟩:=Ylo b
 have e:=(scl_1 p0 (YlR b t)).1
 have e:(wayF b t).1=((YY t).1.1*Yd9 b,(YY t).1.2*Yd9 b):=e
 rw[e]
 have hp:Yd9 b<=500:=by unfold Yd9;split <;> decide
 exact⟨Int.mul_nonneg h0 p0,YGS h1 p0,Yhq h2 hp (by omega) (by decide)⟩
theorem Ywr{a b:Iv}(h0:0<=a.1)(h1:a.1<=a.2)(h2:a.2<=4000000000000000)(k0:1<=b.1)(k1:b.1<=b.2)(k2:b.2<=4000000000000000):(quoF a b).2=0:=by
 have q:∀x d:Int,1<=d->0<=x->x<=400000000000000000->rndB (x/d)=(x/d,true)/\rndB (-((-x)/d))=(-((-x)/d),true):=fun x d hd hx hx1=>by
   have m1:x/d<=x:=Int.ediv_le_self _ hx
   have m0:0<=x/d:=Int.ediv_nonneg hx (by omega)
   have m2: -x<=(-x)/d:=by
     rw[Int.le_ediv_iff_mul_le (by omega)]
     have:x*1<=x*d:=Int.mul_le_mul_of_nonneg_left hd hx
     rw[Int.neg_mul];omega
   have m3:(-x)/d<=0:=Int.ediv_nonpos_of_nonpos_of_neg (by omega) (by omega)
   exact⟨YhB (by omega) (by omega),YhB (by omega) (by omega)⟩
 rw[quoF,if_neg (by rw[okE2 (by omega) h1 (by omega) (by omega) k1 (by omega)];decide),if_neg (by omega),if_neg (by omega)]
 unfold YeT rndF rndT
 rw[if_neg (show¬a.1<0 by omega),if_neg (show¬a.2<0 by omega)]
 simp only[if_true,YGM,if_false]
 rw[(q a.1 b.2 (by omega) h0 (by omega)).1,(q a.2 b.1 k0 (by omega) (by omega)).2]
 rfl
theorem beg_0{b:Bdy}{x:Iv}{least most t:Int}(h:begE b x least most t=0):chkB b=0/\(YY t).2=0/\least<=x.1/\x.1<=x.2/\x.2<=most:=by
 unfold begE at h
 split at h
 . exact absurd h ‹_›
 . rename_i h1
   split at h
   . cases h
   . exact⟨by omega,by omega,by omega,by omega,by omega⟩
def v22:VF:=⟨75,[.tmp 10,.cell 11 true 2,.tmp 12],(ZR [u1 5 .box [.tm 0],u1 6 .box [.tm 1],u1 10 .mov [.cn (.val (.pointer none))],Zn 11,Zi 12 0] (.seq (ZR [Zt 19 5 5,Zc 20 7 19,Zm 13 20] (ZR [Zm 21 13,Zq 22 .neq 21 0] (ZC 22 (ZR [u1 23 (.build [(.int .i64 0),(.int .i64 0)] []) [],Zm 24 13,u1 10 .mov [.cn (.val (.pointer none))],Zs 2 11 23,Zm 12 24] .ret) .skip))) (ZR [Zm 26 4,Zc 27 49 26,Zm 25 27,Ze 28 0 25,Ze 29 1 25,Zn 14,Zs 2 14 28,Zm 12 29] (.seq (ZR [Zm 30 12,Zq 31 .neq 30 0,Zm 32 31,Zj 33 32 false 0 6,Zh 34 32 false 1 33,Zg 35 32 false 2,u2 36 32 false (.cmp .lss) [.tm 34,.tm 35],u1 37 .or [.tm 32,.tm 36],Zm 38 37,Zj 39 38 false 0 6,Zh 40 38 false 1 39,Zj 41 38 false 1 6,Zh 42 38 false 1 41,u2 43 38 false (.cmp .gtr) [.tm 40,.tm 42],u1 44 .or [.tm 38,.tm 43],Zm 45 44,Zj 46 45 false 1 6,Zh 47 45 false 1 46,Zg 48 45 false 3,u2 49 45 false (.cmp .gtr) [.tm 47,.tm 48],u1 50 .or [.tm 45,.tm 49]] (ZC 50 (ZR [u1 51 (.build [(.int .i64 0),(.int .i64 0)] []) [],u1 10 .mov [.cn (.val (.pointer none))],Zs 2 11 51,Zi 12 2] .ret) .skip)) (ZR [u1 52 (.build [(.int .i64 0),(.int .i64 0),(.int .i64 0),(.int .i64 0)] [(1,1),(2,1),(3,1)]) [.cn (.int .i64 500),.cn (.int .i64 250),.cn (.int .i64 500)],u1 15 (.allocArr 4 1 [(.int .i64 0),(.int .i64 0),(.int .i64 0),(.int .i64 0)]) [],Zs 4 15 52] (ZR [Zt 54 5 5,Zc 55 18 54,Zm 53 55,Ze 56 0 53,Ze 57 1 53,Zn 16,Zn 17,Zs 2 16 56,Zs 2 17 57] (ZR [Zt 58 2 16,u1 59 (.build [(.int .i64 0),(.int .i64 0),(.int .i64 0)] [(0,2)]) [.tm 58],u1 60 .box [.tm 59],Zm 18 60] (.seq (.drawT [] (.ops [Zw 61 2 14] (.ops [w1 62 (.build [(.int .i64 0),(.int .i64 0),(.int .i64 0)] [(0,2)]) [.tm 61]] (.ops [Zy 64 0 5] (.ops [Zv 65 1 64] (.ops [w1 66 (.idxArr 4 1) [.tm 15,.tm 65]] (.ops [Zv 67 1 66] (.br (.ops [w1 63 .box [.tm 62]] (.br (.ops [w1 68 (.call 44) [.tm 63,.tm 67,.cn (.int .i64 1)]] (.br (.ops [Zu 69 18] (.ops [Zw 70 2 17] (.ops [w1 71 (.call 24) [.tm 69,.cn (.fn (.func 31) [] []),.tm 70]] (.ops [w1 72 .nilCheck [.tm 71]] (.ops [Zy 73 0 72] (.ops [Zw 74 2 73] (.ops [Zu 10 68] (.ops [ZS 2 11 74] (.ops [w1 12 .mov [.cn (.int .i64 0)]] .leaf))))))))) (.ops [Zw 70 2 17] (.ops [Zu 69 18] (.ops [w1 71 (.call 24) [.tm 69,.cn (.fn (.func 31) [] []),.tm 70]] (.ops [w1 72 .nilCheck [.tm 71]] (.ops [Zy 73 0 72] (.ops [Zw 74 2 73] (.ops [Zu 10 68] (.ops [ZS 2 11 74] (.ops [w1 12 .mov [.cn (.int .i64 0)]] .leaf))))))))))) (.br (.ops [Zu 69 18] (.br (.ops [w1 68 (.call 44) [.tm 63,.tm 67,.cn (.int .i64 1)]] (.ops [Zw 70 2 17] (.ops [w1 71 (.call 24) [.tm 69,.cn (.fn (.func 31) [] []),.tm 70]] (.ops [w1 72 .nilCheck [.tm 71]] (.ops [Zy 73 0 72] (.ops [Zw 74 2 73] (.ops [Zu 10 68] (.ops [ZS 2 11 74] (.ops [w1 12 .mov [.cn (.int .i64 0)]] .leaf))))))))) (.ops [Zw 70 2 17] (.ops [w1 68 (.call 44) [.tm 63,.tm 67,.cn (.int .i64 1)]] (.ops [w1 71 (.call 24) [.tm 69,.cn (.fn (.func 31) [] []),.tm 70]] (.ops [w1 72 .nilCheck [.tm 71]] (.ops [Zy 73 0 72] (.ops [Zw 74 2 73] (.ops [Zu 10 68] (.ops [ZS 2 11 74] (.ops [w1 12 .mov [.cn (.int .i64 0)]] .leaf))))))))))) (.ops [Zw 70 2 17] (.br (.ops [w1 68 (.call 44) [.tm 63,.tm 67,.cn (.int .i64 1)]] (.ops [Zu 69 18] (.ops [w1 71 (.call 24) [.tm 69,.cn (.fn (.func 31) [] []),.tm 70]] (.ops [w1 72 .nilCheck [.tm 71]] (.ops [Zy 73 0 72] (.ops [Zw 74 2 73] (.ops [Zu 10 68] (.ops [ZS 2 11 74] (.ops [w1 12 .mov [.cn (.int .i64 0)]] .leaf))))))))) (.ops [Zu 69 18] (.ops [w1 68 (.call 44) [.tm 63,.tm 67,.cn (.int .i64 1)]] (.ops [w1 71 (.call 24) [.tm 69,.cn (.fn (.func 31) [] []),.tm 70]] (.ops [w1 72 .nilCheck [.tm 71]] (.ops [Zy 73 0 72] (.ops [Zw 74 2 73] (.ops [Zu 10 68] (.ops [ZS 2 11 74] (.ops [w1 12 .mov [.cn (.int .i64 0)]] .leaf)))))))))))))) (.br (.ops [Zu 69 18] (.br (.ops [w1 63 .box [.tm 62]] (.br (.ops [w1 68 (.call 44) [.tm 63,.tm 67,.cn (.int .i64 1)]] (.ops [Zw 70 2 17] (.ops [w1 71 (.call 24) [.tm 69,.cn (.fn (.func 31) [] []),.tm 70]] (.ops [w1 72 .nilCheck [.tm 71]] (.ops [Zy 73 0 72] (.ops [Zw 74 2 73] (.ops [Zu 10 68] (.ops [ZS 2 11 74] (.ops [w1 12 .mov [.cn (.int .i64 0)]] .leaf))))))))) (.ops [Zw 70 2 17] (.ops [w1 68 (.call 44) [.tm 63,.tm 67,.cn (.int .i64 1)]] (.ops [w1 71 (.call 24) [.tm 69,.cn (.fn (.func 31) [] []),.tm 70]] (.ops [w1 72 .nilCheck [.tm 71]] (.ops [Zy 73 0 72] (.ops [Zw 74 2 73] (.ops [Zu 10 68] (.ops [ZS 2 11 74] (.ops [w1 12 .mov [.cn (.int .i64 0)]] .leaf))))))))))) (.ops [Zw 70 2 17] (.ops [w1 63 .box [.tm 62]] (.ops [w1 68 (.call 44) [.tm 63,.tm 67,.cn (.int .i64 1)]] (.ops [w1 71 (.call 24) [.tm 69,.cn (.fn (.func 31) [] []),.tm 70]] (.ops [w1 72 .nilCheck [.tm 71]] (.ops [Zy 73 0 72] (.ops [Zw 74 2 73] (.ops [Zu 10 68] (.ops [ZS 2 11 74] (.ops [w1 12 .mov [.cn (.int .i64 0)]] .leaf)))))))))))) (.ops [Zw 70 2 17] (.br (.ops [w1 63 .box [.tm 62]] (.br (.ops [w1 68 (.call 44) [.tm 63,.tm 67,.cn (.int .i64 1)]] (.ops [Zu 69 18] (.ops [w1 71 (.call 24) [.tm 69,.cn (.fn (.func 31) [] []),.tm 70]] (.ops [w1 72 .nilCheck [.tm 71]] (.ops [Zy 73 0 72] (.ops [Zw 74 2 73] (.ops [Zu 10 68] (.ops [ZS 2 11 74] (.ops [w1 12 .mov [.cn (.int .i64 0)]] .leaf))))))))) (.ops [Zu 69 18] (.ops [w1 68 (.call 44) [.tm 63,.tm 67,.cn (.int .i64 1)]] (.ops [w1 71 (.call 24) [.tm 69,.cn (.fn (.func 31) [] []),.tm 70]] (.ops [w1 72 .nilCheck [.tm 71]] (.ops [Zy 73 0 72] (.ops [Zw 74 2 73] (.ops [Zu 10 68] (.ops [ZS 2 11 74] (.ops [w1 12 .mov [.cn (.int .i64 0)]] .leaf))))))))))) (.ops [Zu 69 18] (.ops [w1 63 .box [.tm 62]] (.ops [w1 68 (.call 44) [.tm 63,.tm 67,.cn (.int .i64 1)]] (.ops [w1 71 (.call 24) [.tm 69,.cn (.fn (.func 31) [] []),.tm 70]] (.ops [w1 72 .nilCheck [.tm 71]] (.ops [Zy 73 0 72] (.ops [Zw 74 2 73] (.ops [Zu 10 68] (.ops [ZS 2 11 74] (.ops [w1 12 .mov [.cn (.int .i64 0)]] .leaf))))))))))))))))))))) .ret))))))))⟩
theorem YFq:Yf YGw Tryz.f22=some v22:=by kernel_rfl
def v23:VF:=⟨34,[.cell 4 true 2,.tmp 5],(ZR [Zn 4,Zi 5 0] (.seq (ZR [Zm 6 0,u1 7 .nilCheck [.tm 6],Za 8 2 7,Za 9 0 8,Zf 10 1 9,Zq 11 .neq 10 0,Zm 12 11,Zg 13 12 false 0,u2 14 12 false .nilCheck [.tm 13],Zj 15 12 false 0 14,Zj 16 12 false 0 15,Zh 17 12 false 1 16,u2 18 12 false (.cmp .lss) [.tm 17,.cn (.int .i64 1)],u1 19 .or [.tm 12,.tm 18],Zm 20 19,Zg 21 20 false 0,u2 22 20 false .nilCheck [.tm 21],Zj 23 20 false 0 22,Zj 24 20 false 1 23,Zh 25 20 false 1 24,Zg 26 20 false 1,u2 27 20 false (.cmp .gtr) [.tm 25,.tm 26],u1 28 .or [.tm 20,.tm 27]] (ZC 28 (ZR [u1 29 (.build [(.int .i64 0),(.int .i64 0)] []) [],Zs 2 4 29,Zi 5 7] .ret) .skip)) (ZR [Zm 30 0,u1 31 .nilCheck [.tm 30],Za 32 0 31,Zt 33 2 32,Zs 2 4 33,Zi 5 0] .ret)))⟩
theorem YFr:Yf YGw Tryz.f23=some v23:=by kernel_rfl
def begH(B:Bdy)(x:Iv)(t:Int):List HO:=[.box [.int .i64 B.kind,.int .i64 B.bottom,.int .i64 B.top,.int .i64 B.mouth,.int .i64 B.cut],.box [.int .i64 x.1,.int .i64 x.2],.box [.int .i64 (Ybg B).1,.int .i64 (Ybg B).2],.box [.int .i64 (YY t).1.1,.int .i64 (YY t).1.2],.own false 1 4 (YaS 1 [.int .i64 0,.int .i64 500,.int .i64 250,.int .i64 500]),.box [.int .i64 (YcY B).1,.int .i64 (YcY B).2],.box [.int .i64 (endF B).1,.int .i64 (endF B).2],.box [.int .i64 (Ybg B).1,.int .i64 (Ybg B).2,.int .i64 (addF (YcY B) (endF B)).2],.box [.int .i64 (wayF B t).1.1,.int .i64 (wayF B t).1.2,.int .i64 (wayF B t).2],.box [.int .i64 (wayF B t).1.1,.int .i64 (wayF B t).1.2],.box [.int .i64 (endF B).1,.int .i64 (endF B).2],.box [.int .i64 (Ybg B).1,.int .i64 (Ybg B).2]]
def begC:Ctr:={ alias:=false,of:=fun l=>match l with
 | [.agg [.int .i64 a,.int .i64 b,.int .i64 c,.int .i64 d,.int .i64 e],.agg [.int .i64 x0,.int .i64 x1],.int .i64 least,.int .i64 most,.int .i64 t]=>
   if chkB ⟨a,b,c,d,e⟩=0 then
     if(YY t).2≠0\/x0<least\/x1<x0\/most<x1 then
       .fin (.tup [.val (.pointer none),.agg [.int .i64 0,.int .i64 0],.int .i64 2]) [.box [.int .i64 a,.int .i64 b,.int .i64 c,.int .i64 d,.int .i64 e],.box [.int .i64 x0,.int .i64 x1],.box [.int .i64 0,.int .i64 0],.box [.int .i64 (YY t).1.1,.int .i64 (YY t).1.2]]
     else .fin (.tup [.ptr 8 0,.agg [.int .i64 (Ybg ⟨a,b,c,d,e⟩).1,.int .i64 (Ybg ⟨a,b,c,d,e⟩).2],.int .i64 0]) (begH ⟨a,b,c,d,e⟩ (x0,x1) t)
   else .fin (.tup [.val (.pointer none),.agg [.int .i64 0,.int .i64 0],.int .i64 (chkB ⟨a,b,c,d,e⟩)]) [.box [.int .i64 a,.int .i64 b,.int .i64 c,.int .i64 d,.int .i64 e],.box [.int .i64 x0,.int .i64 x1],.box [.int .i64 0,.int .i64 0]]
 |_=>noC}
theorem Yqj(B:Bdy)(x:Iv)(t:Int):Yl (.tup [.ptr 8 0,.agg [.int .i64 (Ybg B).1,.int .i64 (Ybg B).2],.int .i64 0])/\Ybm (begH B x t):=by
 refine⟨by simp [Yl,Yo],?_⟩
 simp only[begH,Ybm,Yo,Yl,true_and,and_true]
 intro k hk
 match k,hk with
 |0,_=>exact⟨trivial,trivial⟩
 |1,_=>exact⟨trivial,trivial⟩
 |2,_=>exact⟨trivial,trivial⟩
 |3,_=>exact⟨trivial,trivial⟩
def L3:Env:={ ct:=fun n=>match n with|7=>some chkBC|49=>some speedC|18=>some corC|31=>some addC|62=>some sclC|_=>none,fn:=fun n=>match n with|24=>some v24|44=>some v44|50=>some v50|_=>none,meth:=fun _ _=>none,lo:=fun n=>match n with|24=>true|44=>true|_=>false}
theorem Yd5:L3.ct 7=some chkBC:=rfl
theorem Yb2:L3.ct 49=some speedC:=rfl
theorem YbY:L3.ct 18=some corC:=rfl
theorem Yb0:L3.ct 31=some addC:=rfl
theorem Yb4:L3.ct 62=some sclC:=rfl
theorem YbZ:L3.ct 24=none:=rfl
theorem Yb5:L3.fn 24=some v24:=rfl
theorem Yb1:L3.ct 44=none:=rfl
theorem Yb6:L3.fn 44=some v44:=rfl
theorem Yb3:L3.ct 50=none:=rfl
theorem Yb7:L3.fn 50=some v50:=rfl
theorem L3_ok:Yq YGw L3:=by
 refine⟨fun f c h=>?_,fun f vf h=>?_,(fun _ _ _ h=>by cases h),by kernel_rfl,fun f h=>?_⟩
 . simp only[L3]at h
   split at h
   . cases h;exact⟨Yqy,Tryz.f7,Tryz.func7,by kernel_rfl,by kernel_rfl⟩
   . cases h;exact⟨YAp,Tryz.f49,Tryz.func49,by kernel_rfl,by kernel_rfl⟩
   . cases h;exact⟨YC2,Tryz.f18,Tryz.func18,by kernel_rfl,by kernel_rfl⟩
   . cases h;exact⟨Yf5,Tryz.f31,Tryz.func31,by kernel_rfl,by kernel_rfl⟩
   . cases h;exact⟨YwC,Tryz.f62,Tryz.func62,by kernel_rfl,by kernel_rfl⟩
   . cases h
 . simp only[L3]at h
   split at h
   . cases h;exact⟨Tryz.f24,Tryz.func24,YsX,Tryz.f24,Tryz.func24,by kernel_rfl,by kernel_rfl⟩
   . cases h;exact⟨Tryz.f44,Tryz.func44,YwK,Tryz.f44,Tryz.func44,by kernel_rfl,by kernel_rfl⟩
   . cases h;exact⟨Tryz.f50,Tryz.func50,YsY,Tryz.f50,Tryz.func50,by kernel_rfl,by kernel_rfl⟩
   . cases h
 . simp only[L3]at h
   split at h
   . kernel_rfl
   . kernel_rfl
   . cases h
theorem Yb8:L3.lo 24=true:=rfl
theorem Yb9:L3.lo 44=true:=rfl
theorem beg_c:begC.ok YGw 22:=by
 refine Yf9 Tryz.func22 YFq L3_ok 600 begC fun args k h=>?_
 simp only[begC]at h
 split at h
 . rename_i a b c d e x0 x1 least most t
   refine⟨[.agg [.int .i64 a,.int .i64 b,.int .i64 c,.int .i64 d,.int .i64 e],.agg [.int .i64 x0,.int .i64 x1],.int .i64 least,.int .i64 most,.int .i64 t],by simp [leL,le],?_⟩
   dsimp only[v22,Yd5,Yb2,YbY,Yb0,Yb4,chkBC,speedC,corC,sclC,addC,iv2C,ivoC,enc2,YbZ,Yb5,Yb8,v24,Yb1,Yb6,Yb9,v44,Yb3,Yb7,v50,go_sem,reduceIte]
   simp only[Yd,YGu,YGt,reduceCtorEq,YGs]
   refine⟨fun hc=>?_,fun hc=>⟨by decide,by decide,fun hg=>?_,fun hg=>⟨by decide,hc,by decide,by decide,?_⟩⟩⟩
   . rw[if_neg hc]at h
     exact⟨h,by simp [Yl,Yo],by simp [Ybm,Yo,Yl]⟩
   . rw[if_pos hc,if_pos (by simpa [or_assoc]using hg)]at h
     exact⟨h,by simp [Yl,Yo],by simp [Ybm,Yo,Yl]⟩
   . have hgood:k (.tup [.ptr 8 0,.agg [.int .i64 (Ybg ⟨a,b,c,d,e⟩).1,.int .i64 (Ybg ⟨a,b,c,d,e⟩).2],.int .i64 0]) (begH ⟨a,b,c,d,e⟩ (x0,x1) t):=by
       rw[if_pos hc,if_neg (fun hh=>by
         simp only[YHA,YHe,decide_eq_true_eq,decide_eq_false_iff_not]at hg
         omega)]at h
       exact h
     have hfr:=Yqj ⟨a,b,c,d,e⟩ (x0,x1) t
     have ha:a=1\/a=2\/a=3:=by
       obtain⟨⟨h1,h2⟩,_⟩:=Yqz hc
       dsimp only at h1 h2;omega
     rcases ha with rfl|rfl|rfl
     . refine⟨by decide,by decide,?_,?_⟩
       all_goals ((try dsimp only[Int.reduceToNat,YHI,YHJ,Int.toNat_one,Yd5,Yb2,YbY,Yb0,Yb4,chkBC,speedC,corC,sclC,addC,iv2C,ivoC,enc2,YbZ,Yb5,Yb8,v24,Yb1,Yb6,Yb9,v44,Yb3,Yb7,v50,go_sem,reduceIte]);(try simp only[Yd,YGu,YGt,reduceCtorEq,YGs]))
       all_goals repeat' (first|exact⟨hgood,hfr⟩ |apply YGV| (refine YbU _ (by((try dsimp only[Int.reduceToNat,YHI,YHJ,Int.toNat_one,Yd5,Yb2,YbY,Yb0,Yb4,chkBC,speedC,corC,sclC,addC,iv2C,ivoC,enc2,YbZ,Yb5,Yb8,v24,Yb1,Yb6,Yb9,v44,Yb3,Yb7,v50,go_sem,reduceIte]);(try simp only[Yd,YGu,YGt,reduceCtorEq,YGs]));exact⟨by decide,by decide,rfl,fun hh=>absurd trivial hh⟩) ?_;((try dsimp only[Int.reduceToNat,YHI,YHJ,Int.toNat_one,Yd5,Yb2,YbY,Yb0,Yb4,chkBC,speedC,corC,sclC,addC,iv2C,ivoC,enc2,YbZ,Yb5,Yb8,v24,Yb1,Yb6,Yb9,v44,Yb3,Yb7,v50,go_sem,reduceIte]);(try simp only[Yd,YGu,YGt,reduceCtorEq,YGs]))))
     . refine⟨by decide,by decide,?_,?_⟩
       all_goals ((try dsimp only[Int.reduceToNat,YHI,YHJ,Int.toNat_one,Yd5,Yb2,YbY,Yb0,Yb4,chkBC,speedC,corC,sclC,addC,iv2C,ivoC,enc2,YbZ,Yb5,Yb8,v24,Yb1,Yb6,Yb9,v44,Yb3,Yb7,v50,go_sem,reduceIte]);(try simp only[Yd,YGu,YGt,reduceCtorEq,YGs]))
       all_goals repeat' (first|exact⟨hgood,hfr⟩ |apply YGV| (refine YbU _ (by((try dsimp only[Int.reduceToNat,YHI,YHJ,Int.toNat_one,Yd5,Yb2,YbY,Yb0,Yb4,chkBC,speedC,corC,sclC,addC,iv2C,ivoC,enc2,YbZ,Yb5,Yb8,v24,Yb1,Yb6,Yb9,v44,Yb3,Yb7,v50,go_sem,reduceIte]);(try simp only[Yd,YGu,YGt,reduceCtorEq,YGs]));exact⟨by decide,by decide,rfl,fun hh=>absurd trivial hh⟩) ?_;((try dsimp only[Int.reduceToNat,YHI,YHJ,Int.toNat_one,Yd5,Yb2,YbY,Yb0,Yb4,chkBC,speedC,corC,sclC,addC,iv2C,ivoC,enc2,YbZ,Yb5,Yb8,v24,Yb1,Yb6,Yb9,v44,Yb3,Yb7,v50,go_sem,reduceIte]);(try simp only[Yd,YGu,YGt,reduceCtorEq,YGs]))))
     . refine⟨by decide,by decide,?_,?_⟩
       all_goals ((try dsimp only[Int.reduceToNat,YHI,YHJ,Int.toNat_one,Yd5,Yb2,YbY,Yb0,Yb4,chkBC,speedC,corC,sclC,addC,iv2C,ivoC,enc2,YbZ,Yb5,Yb8,v24,Yb1,Yb6,Yb9,v44,Yb3,Yb7,v50,go_sem,reduceIte]);(try simp only[Yd,YGu,YGt,reduceCtorEq,YGs]))
       all_goals repeat' (first|exact⟨hgood,hfr⟩ |apply YGV| (refine YbU _ (by((try dsimp only[Int.reduceToNat,YHI,YHJ,Int.toNat_one,Yd5,Yb2,YbY,Yb0,Yb4,chkBC,speedC,corC,sclC,addC,iv2C,ivoC,enc2,YbZ,Yb5,Yb8,v24,Yb1,Yb6,Yb9,v44,Yb3,Yb7,v50,go_sem,reduceIte]);(try simp only[Yd,YGu,YGt,reduceCtorEq,YGs]));exact⟨by decide,by decide,rfl,fun hh=>absurd trivial hh⟩) ?_;((try dsimp only[Int.reduceToNat,YHI,YHJ,Int.toNat_one,Yd5,Yb2,YbY,Yb0,Yb4,chkBC,speedC,corC,sclC,addC,iv2C,ivoC,enc2,YbZ,Yb5,Yb8,v24,Yb1,Yb6,Yb9,v44,Yb3,Yb7,v50,go_sem,reduceIte]);(try simp only[Yd,YGu,YGt,reduceCtorEq,YGs]))))
 . exact h.1.elim
def v9:VF:=⟨31,[.cell 6 true 2,.tmp 7],(ZR [u1 3 .box [.tm 0],u1 4 .box [.tm 1],Zn 6,Zi 7 0] (ZR [Zt 12 5 3,Zt 13 2 4,Zm 14 2,u1 15 (.call 22) [.tm 12,.tm 13,.cn (.int .i64 1000),.cn (.int .i64 20000000),.tm 14],Zm 11 15,Ze 16 0 11,Ze 17 1 11,Ze 18 2 11,Zn 9,Zm 8 16,Zs 2 9 17,Zm 10 18] (.seq (ZR [Zm 19 10,Zq 20 .neq 19 0] (ZC 20 (ZR [u1 21 (.build [(.int .i64 0),(.int .i64 0)] []) [],Zm 22 10,Zs 2 6 21,Zm 7 22] .ret) .skip)) (.seq (.drawT [] (.ops [Zu 23 8] (.ops [Zw 24 2 4] (.br (.ops [w1 25 (.call 24) [.tm 23,.cn (.fn (.func 25) [] []),.tm 24]] (.ops [Zw 26 2 9] (.ops [w1 27 (.call 24) [.tm 25,.cn (.fn (.func 26) [] []),.tm 26]] (.ops [w1 28 (.call 23) [.tm 27,.cn (.int .i64 12000000)]] (.ops [ZE 29 0 28] (.ops [ZE 30 1 28] (.ops [ZS 2 6 29] (.ops [Zu 7 30] .leaf)))))))) (.ops [Zw 26 2 9] (.ops [w1 25 (.call 24) [.tm 23,.cn (.fn (.func 25) [] []),.tm 24]] (.ops [w1 27 (.call 24) [.tm 25,.cn (.fn (.func 26) [] []),.tm 26]] (.ops [w1 28 (.call 23) [.tm 27,.cn (.int .i64 12000000)]] (.ops [ZE 29 0 28] (.ops [ZE 30 1 28] (.ops [ZS 2 6 29] (.ops [Zu 7 30] .leaf)))))))))))) .ret))))⟩
theorem v9_is:Yf YGw Tryz.f9=some v9:=by kernel_rfl
def v11:VF:=⟨38,[.cell 6 true 2,.tmp 7],(ZR [u1 3 .box [.tm 0],u1 4 .box [.tm 1],Zn 6,Zi 7 0] (ZR [Zt 13 5 3,Zt 14 2 4,Zm 15 2,u1 16 (.call 22) [.tm 13,.tm 14,.cn (.int .i64 1),.cn (.int .i64 12000000),.tm 15],Zm 12 16,Ze 17 0 12,Ze 18 1 12,Ze 19 2 12,Zn 9,Zm 8 17,Zs 2 9 18,Zm 10 19] (.seq (ZR [Zm 20 10,Zq 21 .neq 20 0] (ZC 21 (ZR [u1 22 (.build [(.int .i64 0),(.int .i64 0)] []) [],Zm 23 10,Zs 2 6 22,Zm 7 23] .ret) .skip)) (ZR [Zt 24 2 4,u1 25 (.build [(.int .i64 0),(.int .i64 0),(.int .i64 0)] [(0,2)]) [.tm 24],u1 26 .box [.tm 25],Zt 27 2 9,u1 28 (.call 24) [.tm 26,.cn (.fn (.func 31) [] []),.tm 27],Zm 11 28] (ZR [Zm 29 8,Zm 30 11,u1 31 .nilCheck [.tm 30],Za 32 0 31,Zt 33 2 32,u1 34 (.call 24) [.tm 29,.cn (.fn (.func 25) [] []),.tm 33],u1 35 (.call 23) [.tm 34,.cn (.int .i64 200000000)],Ze 36 0 35,Ze 37 1 35,Zs 2 6 36,Zm 7 37] .ret)))))⟩
theorem YFh:Yf YGw Tryz.f11=some v11:=by kernel_rfl
def lenC:Ctr:={ alias:=false,of:=fun l=>match l with
 | [.agg [.int .i64 a,.int .i64 b,.int .i64 c,.int .i64 d,.int .i64 e],.agg [.int .i64 x0,.int .i64 x1],.int .i64 t]=>
   .fin (.tup [.agg (enc2 (lenF ⟨a,b,c,d,e⟩ (x0,x1) t).1),.int .i64 (lenF ⟨a,b,c,d,e⟩ (x0,x1) t).2]) []
 |_=>noC}
def pitC:Ctr:={ alias:=false,of:=fun l=>match l with
 | [.agg [.int .i64 a,.int .i64 b,.int .i64 c,.int .i64 d,.int .i64 e],.agg [.int .i64 x0,.int .i64 x1],.int .i64 t]=>
   .fin (.tup [.agg (enc2 (pitF ⟨a,b,c,d,e⟩ (x0,x1) t).1),.int .i64 (pitF ⟨a,b,c,d,e⟩ (x0,x1) t).2]) []
 |_=>noC}
theorem Y1{k:SV->List HO->Prop}{al:Bool}{hp:List HO}{p:Iv}{e:Int}(h:k (.tup [.agg (enc2 p),.int .i64 e]) []):YI al k (.tup [.agg [.int .i64 p.1,.int .i64 p.2],.int .i64 e]) hp:=
 YE (show k _ []from h) (Yy (.tup [.agg [.int .i64 p.1,.int .i64 p.2],.int .i64 e]) ⟨⟨trivial,trivial,trivial⟩,trivial,trivial⟩) (fun _=>by simp [enc2,Yl,Yo])
def fitsC:Ctr:={ alias:=false,of:=fun l=>match l with
 | [.xp _ [.int .i64 lo,.int .i64 hi,.int .i64 e],.int .i64 most]=> .fin (.tup [.agg (enc2 (Ygn (lo,hi) e most).1),.int .i64 (Ygn (lo,hi) e most).2]) []
 |_=>noC}
def L40:Env:={ ct:=fun _=>none,fn:=fun _=>none,meth:=fun _ _=>none}
theorem YCa:Yq YGw L40:=by
 refine⟨fun f c h=>?_,fun f vf h=>?_,(fun _ _ _ h=>by cases h),by kernel_rfl,(fun _ h=>by cases h)⟩
 . cases h
 . cases h
theorem YDg:fitsC.ok YGw 23:=by
 refine Yb Tryz.func23 YFr YCa 200 fitsC fun args k h=>?_
 simp only[fitsC]at h
 split at h
 . rename_i tt lo hi e most
   refine⟨[.xp tt [.int .i64 lo,.int .i64 hi,.int .i64 e],.int .i64 most],⟨⟨id,Ye _⟩,⟨rfl,rfl⟩,trivial⟩,?_⟩
   dsimp only[v23,go_sem,reduceIte]
   simp only[Yd,YGu,YGt,reduceCtorEq,YGs]
   refine⟨fun hc=>?_,fun hc=>?_⟩
   . rw[show Ygn (lo,hi) e most=((0,0),7)by
       rw[Ygn,if_pos]
       simp only[YHd,YGP,decide_eq_true_eq,decide_eq_false_iff_not]at hc
       simp only;omega]at h
     exact Y1 (p:=(0,0)) h
   . rw[show Ygn (lo,hi) e most=((lo,hi),0)by
       rw[Ygn,if_neg]
       simp only[YHA,YHe,decide_eq_true_eq,decide_eq_false_iff_not]at hc
       simp only;omega]at h
     exact Y1 (p:=(lo,hi)) h
 . exact h.1.elim
def L4:Env:={ ct:=fun n=>match n with|22=>some begC|25=>some quoC|26=>some subC|31=>some addC|23=>some fitsC|_=>none,fn:=fun n=>match n with|24=>some v24|50=>some v50|_=>none,meth:=fun _ _=>none,lo:=fun n=>match n with|24=>true|_=>false}
theorem Yan:L4.ct 22=some begC:=rfl
theorem Yaq:L4.ct 25=some quoC:=rfl
theorem Yar:L4.ct 26=some subC:=rfl
theorem Yas:L4.ct 31=some addC:=rfl
theorem Yao:L4.ct 23=some fitsC:=rfl
theorem Yap:L4.ct 24=none:=rfl
theorem Yau:L4.fn 24=some v24:=rfl
theorem Yat:L4.ct 50=none:=rfl
theorem Yav:L4.fn 50=some v50:=rfl
theorem YCb:Yq YGw L4:=by
 refine⟨fun f c h=>?_,fun f vf h=>?_,(fun _ _ _ h=>by cases h),by kernel_rfl,fun f h=>?_⟩
 . simp only[L4]at h
   split at h
   . cases h;exact⟨beg_c,Tryz.f22,Tryz.func22,by kernel_rfl,by kernel_rfl⟩
   . cases h;exact⟨Yws,Tryz.f25,Tryz.func25,by kernel_rfl,by kernel_rfl⟩
   . cases h;exact⟨YFa,Tryz.f26,Tryz.func26,by kernel_rfl,by kernel_rfl⟩
   . cases h;exact⟨Yf5,Tryz.f31,Tryz.func31,by kernel_rfl,by kernel_rfl⟩
   . cases h;exact⟨YDg,Tryz.f23,Tryz.func23,by kernel_rfl,by kernel_rfl⟩
   . cases h
 . simp only[L4]at h
   split at h
   . cases h;exact⟨Tryz.f24,Tryz.func24,YsX,Tryz.f24,Tryz.func24,by kernel_rfl,by kernel_rfl⟩
   . cases h;exact⟨Tryz.f50,Tryz.func50,YsY,Tryz.f50,Tryz.func50,by kernel_rfl,by kernel_rfl⟩
   . cases h
 . simp only[L4]at h
   split at h
   . kernel_rfl
   . cases h
theorem Yaw:L4.lo 24=true:=rfl
theorem Yzb:lenC.ok YGw 9:=by
 refine Yb Tryz.func9 v9_is YCb 600 lenC fun args k h=>?_
 simp only[lenC]at h
 split at h
 . rename_i a b c d e x0 x1 t
   refine⟨[.agg [.int .i64 a,.int .i64 b,.int .i64 c,.int .i64 d,.int .i64 e],.agg [.int .i64 x0,.int .i64 x1],.int .i64 t],by simp [leL,le],?_⟩
   by_cases hc:chkB ⟨a,b,c,d,e⟩=0
   . by_cases hg:(YY t).2≠0\/x0<1000\/x1<x0\/20000000<x1
     . dsimp only[v9,begC,Yan,Yaq,Yar,Yas,quoC,subC,addC,iv2C,ivoC,enc2,Yap,Yau,Yaw,v24,Yat,Yav,v50,Yao,fitsC,go_sem,reduceIte]
       simp only[if_pos hc,if_pos hg]
       ((try dsimp only[Yan,Yaq,Yar,Yas,quoC,subC,addC,iv2C,ivoC,enc2,Yap,Yau,Yaw,v24,Yat,Yav,v50,Yao,fitsC,go_sem,reduceIte]);(try simp only[Yd,YGu,YGt,reduceCtorEq,YGs]))
       refine⟨by decide,by decide,by decide,fun _=>?_,fun hh=>absurd hh (by decide)⟩
       rw[show lenF ⟨a,b,c,d,e⟩ (x0,x1) t=((0,0),2)by rw[lenF,show begE ⟨a,b,c,d,e⟩ (x0,x1) 1000 20000000 t=2 by rw[begE,if_neg (fun hh=>hh hc),if_pos hg],if_pos (by decide)]]at h
       exact Y1 (p:=(0,0)) h
     . have hB:begE ⟨a,b,c,d,e⟩ (x0,x1) 1000 20000000 t=0:=by rw[begE,if_neg (fun hh=>hh hc),if_neg hg]
       have MW:(wayF ⟨a,b,c,d,e⟩ t).2=0:=YlR _ _
       have MQ:(quoF ((wayF ⟨a,b,c,d,e⟩ t).1.1,(wayF ⟨a,b,c,d,e⟩ t).1.2) (x0,x1)).2=0:=by
         obtain⟨w0,w1,w2⟩:=YwL ⟨a,b,c,d,e⟩ t
         exact Ywr w0 w1 (by omega) (by simp only;omega) (by simp only;omega) (by simp only;omega)
       have hL:lenF ⟨a,b,c,d,e⟩ (x0,x1) t=Ygn (subF (quoF (wayF ⟨a,b,c,d,e⟩ t).1 (x0,x1)).1 (Ybg ⟨a,b,c,d,e⟩)).1 (subF (quoF (wayF ⟨a,b,c,d,e⟩ t).1 (x0,x1)).1 (Ybg ⟨a,b,c,d,e⟩)).2 12000000:=by
         rw[lenF,hB,if_neg (by decide),MW,show(quoF (wayF ⟨a,b,c,d,e⟩ t).1 (x0,x1)).2=0 from MQ]
         rfl
       rw[hL]at h
       dsimp only[v9,begC,Yan,Yaq,Yar,Yas,quoC,subC,addC,iv2C,ivoC,enc2,Yap,Yau,Yaw,v24,Yat,Yav,v50,Yao,fitsC,go_sem,reduceIte]
       simp only[if_pos hc,if_neg hg,begH,Yd,YGu,YGt,reduceCtorEq,YGs]
       simp only[MW]
       ((try dsimp only[Yan,Yaq,Yar,Yas,quoC,subC,addC,iv2C,ivoC,enc2,Yap,Yau,Yaw,v24,Yat,Yav,v50,Yao,fitsC,go_sem,reduceIte]);(try simp only[Yd,YGu,YGt,reduceCtorEq,YGs]))
       refine⟨by decide,by decide,by decide,fun hh=>absurd trivial hh,?_⟩
       repeat' (first|exact Y1 h| (first|apply YGV| (refine YbU _ (by((try dsimp only[Yan,Yaq,Yar,Yas,quoC,subC,addC,iv2C,ivoC,enc2,Yap,Yau,Yaw,v24,Yat,Yav,v50,Yao,fitsC,go_sem,reduceIte]);(try simp only[Yd,YGu,YGt,reduceCtorEq,YGs]));exact⟨by decide,by decide,rfl,fun hh=>absurd trivial hh⟩) ?_;(try simp only[MW,MQ]);((try dsimp only[Yan,Yaq,Yar,Yas,quoC,subC,addC,iv2C,ivoC,enc2,Yap,Yau,Yaw,v24,Yat,Yav,v50,Yao,fitsC,go_sem,reduceIte]);(try simp only[Yd,YGu,YGt,reduceCtorEq,YGs])))) |decide)
   . dsimp only[v9,begC,Yan,Yaq,Yar,Yas,quoC,subC,addC,iv2C,ivoC,enc2,Yap,Yau,Yaw,v24,Yat,Yav,v50,Yao,fitsC,go_sem,reduceIte]
     simp only[if_neg hc]
     ((try dsimp only[Yan,Yaq,Yar,Yas,quoC,subC,addC,iv2C,ivoC,enc2,Yap,Yau,Yaw,v24,Yat,Yav,v50,Yao,fitsC,go_sem,reduceIte]);(try simp only[Yd,YGu,YGt,reduceCtorEq,YGs]))
     refine⟨by decide,by decide,by decide,fun _=>?_,fun hh=>absurd hh hc⟩
     rw[show lenF ⟨a,b,c,d,e⟩ (x0,x1) t=((0,0),chkB ⟨a,b,c,d,e⟩)by rw[lenF,show begE ⟨a,b,c,d,e⟩ (x0,x1) 1000 20000000 t=chkB ⟨a,b,c,d,e⟩by rw[begE,if_pos hc],if_pos hc]]at h
     exact Y1 (p:=(0,0)) h
 . exact h.1.elim
theorem YD0:pitC.ok YGw 11:=by
 refine Yb Tryz.func11 YFh YCb 600 pitC fun args k h=>?_
 simp only[pitC]at h
 split at h
 . rename_i a b c d e x0 x1 t
   refine⟨[.agg [.int .i64 a,.int .i64 b,.int .i64 c,.int .i64 d,.int .i64 e],.agg [.int .i64 x0,.int .i64 x1],.int .i64 t],by simp [leL,le],?_⟩
   by_cases hc:chkB ⟨a,b,c,d,e⟩=0
   . by_cases hg:(YY t).2≠0\/x0<1\/x1<x0\/12000000<x1
     . dsimp only[v11,begC,Yan,Yaq,Yar,Yas,quoC,subC,addC,iv2C,ivoC,enc2,Yap,Yau,Yaw,v24,Yat,Yav,v50,Yao,fitsC,go_sem,reduceIte]
       simp only[if_pos hc,if_pos hg]
       ((try dsimp only[Yan,Yaq,Yar,Yas,quoC,subC,addC,iv2C,ivoC,enc2,Yap,Yau,Yaw,v24,Yat,Yav,v50,Yao,fitsC,go_sem,reduceIte]);(try simp only[Yd,YGu,YGt,reduceCtorEq,YGs]))
       refine⟨by decide,by decide,by decide,fun _=>?_,fun hh=>absurd hh (by decide)⟩
       rw[show pitF ⟨a,b,c,d,e⟩ (x0,x1) t=((0,0),2)by rw[pitF,show begE ⟨a,b,c,d,e⟩ (x0,x1) 1 12000000 t=2 by rw[begE,if_neg (fun hh=>hh hc),if_pos hg],if_pos (by decide)]]at h
       exact Y1 (p:=(0,0)) h
     . have hB:begE ⟨a,b,c,d,e⟩ (x0,x1) 1 12000000 t=0:=by rw[begE,if_neg (fun hh=>hh hc),if_neg hg]
       have MW:(wayF ⟨a,b,c,d,e⟩ t).2=0:=YlR _ _
       have hL:pitF ⟨a,b,c,d,e⟩ (x0,x1) t=Ygn (quoF (wayF ⟨a,b,c,d,e⟩ t).1 (addF (x0,x1) (Ybg ⟨a,b,c,d,e⟩)).1).1 (quoF (wayF ⟨a,b,c,d,e⟩ t).1 (addF (x0,x1) (Ybg ⟨a,b,c,d,e⟩)).1).2 200000000:=by
         rw[pitF,hB,if_neg (by decide),MW]
         rfl
       rw[hL]at h
       dsimp only[v11,begC,Yan,Yaq,Yar,Yas,quoC,subC,addC,iv2C,ivoC,enc2,Yap,Yau,Yaw,v24,Yat,Yav,v50,Yao,fitsC,go_sem,reduceIte]
       simp only[if_pos hc,if_neg hg,begH,Yd,YGu,YGt,reduceCtorEq,YGs]
       simp only[MW]
       ((try dsimp only[Yan,Yaq,Yar,Yas,quoC,subC,addC,iv2C,ivoC,enc2,Yap,Yau,Yaw,v24,Yat,Yav,v50,Yao,fitsC,go_sem,reduceIte]);(try simp only[Yd,YGu,YGt,reduceCtorEq,YGs]))
       refine⟨by decide,by decide,by decide,fun hh=>absurd trivial hh,?_⟩
       repeat' (first|exact Y1 h|exact fun hh=>absurd trivial hh| (first|apply YGV| (refine YbU _ (by((try dsimp only[Yan,Yaq,Yar,Yas,quoC,subC,addC,iv2C,ivoC,enc2,Yap,Yau,Yaw,v24,Yat,Yav,v50,Yao,fitsC,go_sem,reduceIte]);(try simp only[Yd,YGu,YGt,reduceCtorEq,YGs]));exact⟨by decide,by decide,rfl,fun hh=>absurd trivial hh⟩) ?_;(try simp only[MW]);((try dsimp only[Yan,Yaq,Yar,Yas,quoC,subC,addC,iv2C,ivoC,enc2,Yap,Yau,Yaw,v24,Yat,Yav,v50,Yao,fitsC,go_sem,reduceIte]);(try simp only[Yd,YGu,YGt,reduceCtorEq,YGs])))) |decide)
   . dsimp only[v11,begC,Yan,Yaq,Yar,Yas,quoC,subC,addC,iv2C,ivoC,enc2,Yap,Yau,Yaw,v24,Yat,Yav,v50,Yao,fitsC,go_sem,reduceIte]
     simp only[if_neg hc]
     ((try dsimp only[Yan,Yaq,Yar,Yas,quoC,subC,addC,iv2C,ivoC,enc2,Yap,Yau,Yaw,v24,Yat,Yav,v50,Yao,fitsC,go_sem,reduceIte]);(try simp only[Yd,YGu,YGt,reduceCtorEq,YGs]))
     refine⟨by decide,by decide,by decide,fun _=>?_,fun hh=>absurd hh hc⟩
     rw[show pitF ⟨a,b,c,d,e⟩ (x0,x1) t=((0,0),chkB ⟨a,b,c,d,e⟩)by rw[pitF,show begE ⟨a,b,c,d,e⟩ (x0,x1) 1 12000000 t=chkB ⟨a,b,c,d,e⟩by rw[begE,if_pos hc],if_pos hc]]at h
     exact Y1 (p:=(0,0)) h
 . exact h.1.elim
def cdiv(x d:Nat):Nat:=if x/d*d<x then x/d+1 else x/d
theorem Ybo(x d:Nat)(hd:0<d):x<=cdiv x d*d:=by
 have h:=YG3 x d
 have h2:=YG0 x hd
 rw[YGC]at h
 unfold cdiv
 split
 . rw[YG8,YHz];omega
 . omega
theorem YaB{x d k:Nat}(h:x<=k*d):cdiv x d<=k:=by
 unfold cdiv
 rcases YG7 d with h0|h0
 . subst h0
   simp only[Nat.mul_zero,Nat.div_zero]at*
   split <;> omega
 split
 . rename_i h1
   rw[Nat.lt_iff_add_one_le]at*
   refine Nat.lt_of_mul_lt_mul_right (a:=d) ?_
   omega
 . exact Nat.div_le_of_le_mul (by rw[YGC];exact h)
theorem Yrm(x d:Nat):x/d<=cdiv x d:=by
 unfold cdiv
 split <;> omega
theorem YdH{x y d:Nat}(h:x<=y):x/d<=cdiv y d:=YGF (Nat.div_le_div_right h) (Yrm y d)
theorem Yqw{x d:Nat}(hd:0<d):cdiv (cdiv x d) 2=cdiv x (d*2):=by
 refine Nat.le_antisymm (YaB (YaB ?_)) (YaB ?_)
 . have:=Ybo x (d*2) (by omega)
   rw[YGE,YGC 2 d];exact this
 . have h1:=Ybo x d hd
   have h2:=YGD d (Ybo (cdiv x d) 2 (by decide))
   rw[YGC d 2,<-YGE];omega
def gl(M:Nat)(t:Bool):Nat->Nat->Nat->Nat->Nat×Nat
 |0,_,_,S=>(S,S+1)
 |f+1,A,B,S=>
   if A*A/M<2*M then
     if cdiv (B*B) M<2*M then gl M t f (A*A/M) (cdiv (B*B) M) (2*S)
     else(S*2^(f+1),(S+1)*2^(f+1))
   else
     if(t&&decide (2*M<=cdiv (cdiv (B*B) M) 2))=true then(S*2^(f+1),(S+1)*2^(f+1))
     else gl M t f (A*A/M/2) (cdiv (cdiv (B*B) M) 2) (2*S+1)
theorem YeZ(M:Nat)(t:Bool):∀(f A B S:Nat),S*2^f<=(gl M t f A B S).1/\(gl M t f A B S).2<=(S+1)*2^f
 |0,A,B,S=>by simp [gl]
 |f+1,A,B,S=>by
   have e1:∀x,x*2^(f+1)=x*2*2^f:=fun x=>by rw[YGZ,YGE,YGC 2 (2^f)]
   have m:∀x y,x<=y->x*2^f<=y*2^f:=fun x y h=>YGD _ h
   rw[gl]
   split
   . split
     . obtain⟨h1,h2⟩:=YeZ M t f (A*A/M) (cdiv (B*B) M) (2*S)
       rw[e1,e1]
       exact⟨YGF (m _ _ (by omega)) h1,YGF h2 (m _ _ (by omega))⟩
     . exact⟨YGH _,YGH _⟩
   . split
     . exact⟨YGH _,YGH _⟩
     . obtain⟨h1,h2⟩:=YeZ M t f (A*A/M/2) (cdiv (cdiv (B*B) M) 2) (2*S+1)
       rw[e1,e1]
       exact⟨YGF (m _ _ (by omega)) h1,YGF h2 (m _ _ (by omega))⟩
theorem YwH{P A N M A1:Nat}(hM:0<M)(h:P*A<=N*M)(h1:A1*M<=A*A):P*P*A1<=N*N*M:=by
 refine Nat.le_of_mul_le_mul_right (c:=M) ?_ hM
 have k1:P*P*(A1*M)<=P*P*(A*A):=YGO _ h1
 have k2:(P*A)*(P*A)<=(N*M)*(N*M):=YGX h h
 have e1:P*P*A1*M=P*P*(A1*M):=YGE ..
 have e2:P*P*(A*A)=(P*A)*(P*A):=by simp only[YGE,YHc]
 have e3:(N*M)*(N*M)=N*N*M*M:=by simp only[YGE,YHc]
 omega
theorem YsH{P B N M B1:Nat}(hM:0<M)(h:N*M<=P*B)(h1:B*B<=B1*M):N*N*M<=P*P*B1:=by
 refine Nat.le_of_mul_le_mul_right (c:=M) ?_ hM
 have k1:P*P*(B*B)<=P*P*(B1*M):=YGO _ h1
 have k2:(N*M)*(N*M)<=(P*B)*(P*B):=YGX h h
 have e1:P*P*B1*M=P*P*(B1*M):=YGE ..
 have e2:P*P*(B*B)=(P*B)*(P*B):=by simp only[YGE,YHc]
 have e3:(N*M)*(N*M)=N*N*M*M:=by simp only[YGE,YHc]
 omega
theorem Ydr(S:Nat):2^(2*S)=2^S*2^S:=by rw[<-YGJ];congr 1;omega
theorem YrT(N f:Nat):N^(2^(f+1))=(N*N)^(2^f):=by
 rw[YGZ,YGC (2^f) 2,YHj,Nat.pow_two]
theorem Yjx(M:Nat)(t:Bool)(hM:0<M):∀(f A B S N:Nat),2^S*A<=N*M->N*M<=2^S*B->M<=A->B<=2*M->2^(gl M t f A B S).1<=N^(2^f)/\N^(2^f)<=2^(gl M t f A B S).2:=by
 have stop:∀(f A B S N:Nat),2^S*A<=N*M->N*M<=2^S*B->M<=A->B<=2*M->2^S<=N/\N<=2^(S+1):=by
   intro f A B S N h1 h2 ha hb
   constructor
   . refine Nat.le_of_mul_le_mul_right (c:=M) ?_ hM
     have:=YGO (2^S) ha
     omega
   . refine Nat.le_of_mul_le_mul_right (c:=M) ?_ hM
     have:=YGO (2^S) hb
     rw[YGZ,YGE]
     omega
 have stop2:∀(f S N:Nat),2^S<=N/\N<=2^(S+1)->2^(S*2^f)<=N^(2^f)/\N^(2^f)<=2^((S+1)*2^f):=fun f S N h=>by
   rw[YHj,YHj]
   exact⟨YHk h.1 _,YHk h.2 _⟩
 intro f
 induction f with
 |zero=>
   intro A B S N h1 h2 ha hb
   have:=stop 0 A B S N h1 h2 ha hb
   simpa [gl]using this
 |succ f ih=>
   intro A B S N h1 h2 ha hb
   have hs:=stop2 (f+1) S N (stop f A B S N h1 h2 ha hb)
   have hA:A*A/M*M<=A*A:=Nat.div_mul_le_self _ _
   have hB:B*B<=cdiv (B*B) M*M:=Ybo _ _ hM
   have k1:=YwH hM h1 hA
   have k2:=YsH hM h2 hB
   have hA1:M<=A*A/M:=(YHg hM).2 (YGX ha ha)
   have hB1:cdiv (B*B) M<=4*M:=YaB (by
     have:=YGX hb hb
     have e:4*M*M=2*M*(2*M):=by rw[Nat.mul_mul_mul_comm,YGE]
     omega)
   rw[gl,YrT]
   rw[YrT]at hs
   split
   . split
     . refine ih _ _ _ _ ?_ ?_ hA1 (by omega)
       . rw[Ydr];exact k1
       . rw[Ydr];exact k2
     . exact hs
   . rename_i hge
     split
     . exact hs
     . have hB2:cdiv (B*B) M<=cdiv (cdiv (B*B) M) 2*2:=Ybo _ _ (by decide)
       have hA2:A*A/M/2*2<=A*A/M:=Nat.div_mul_le_self _ _
       have e3:∀x,2^(2*S+1)*x=2^S*2^S*(x*2):=fun x=>by rw[YGZ,Ydr,YGE,YGC 2 x]
       refine ih _ _ _ _ ?_ ?_ (by omega) (YaB (by omega))
       . rw[e3]
         exact YGF (YGO _ hA2) k1
       . rw[e3]
         exact YGF k2 (YGO _ hB2)
theorem YqZ(M E:Nat)(t:Bool)(hM:0<M)(hE:0<E)(g:Nat):∀(f A B S A' B':Nat),E*A<=A'->A'<=B'->B'<=E*B->
   (gl M t f A B S).1*2^g<=(gl (M*E) false (f+g) A' B' S).1/\(gl (M*E) false (f+g) A' B' S).2<=(gl M t f A B S).2*2^g:=by
 intro f
 induction f with
 |zero=>
   intro A B S A' B' _ _ _
   have:=YeZ (M*E) false (0+g) A' B' S
   simpa [gl]using this
 |succ f ih=>
   intro A B S A' B' ha hab hb
   have stop:S*2^(f+1)*2^g<=(gl (M*E) false (f+1+g) A' B' S).1/\(gl (M*E) false (f+1+g) A' B' S).2<=(S+1)*2^(f+1)*2^g:=by
     have:=YeZ (M*E) false (f+1+g) A' B' S
     rw[YGE,YGE,<-YGJ]
     exact this
   have hME:0<M*E:=YHP hM hE
   have q1:E*(A*A/M)<=A'*A'/(M*E):=by
     rw[YHg hME]
     have h1:A*A/M*M<=A*A:=Nat.div_mul_le_self _ _
     have h2:=YGO (E*E) h1
     have h3:=YGX ha ha
     have e1:E*(A*A/M)*(M*E)=E*E*(A*A/M*M):=by simp only[YGE,YHc,YGC]
     have e2:E*A*(E*A)=E*E*(A*A):=by simp only[YGE,YHc,YGC]
     omega
   have q2:cdiv (B'*B') (M*E)<=E*cdiv (B*B) M:=YaB (by
     have h1:B*B<=cdiv (B*B) M*M:=Ybo _ _ hM
     have h2:=YGO (E*E) h1
     have h3:=YGX hb hb
     have e1:E*cdiv (B*B) M*(M*E)=E*E*(cdiv (B*B) M*M):=by simp only[YGE,YHc,YGC]
     have e2:E*B*(E*B)=E*E*(B*B):=by simp only[YGE,YHc,YGC]
     omega)
   have q3:A'*A'/(M*E)<=cdiv (B'*B') (M*E):=YdH (YGX hab hab)
   have e2M:2*(M*E)=E*(2*M):=by rw[<-YGE,YGC]
   by_cases c1:A*A/M<2*M
   . by_cases c2:cdiv (B*B) M<2*M
     . have d2:cdiv (B'*B') (M*E)<2*(M*E):=by
         rw[e2M]
         exact YGU q2 (Nat.mul_lt_mul_of_pos_left c2 hE)
       have d1:A'*A'/(M*E)<2*(M*E):=by omega
       rw[show f+1+g=(f+g)+1 by omega,gl,if_pos c1,if_pos c2,gl,if_pos d1,if_pos d2]
       exact ih _ _ _ _ _ q1 q3 q2
     . rw[gl.eq_def M t (f+1)]
       simp only
       rw[if_pos c1,if_neg c2]
       exact stop
   . have d1:¬A'*A'/(M*E)<2*(M*E):=by
       have:E*(2*M)<=E*(A*A/M):=YGO _ (by omega)
       omega
     by_cases c2:(t&&decide (2*M<=cdiv (cdiv (B*B) M) 2))=true
     . rw[gl.eq_def M t (f+1)]
       simp only
       rw[if_neg c1,if_pos c2]
       exact stop
     . rw[show f+1+g=(f+g)+1 by omega,gl,if_neg c1,if_neg c2,gl,if_neg d1,if_neg (by simp)]
       refine ih _ _ _ _ _ ?_ (YdH q3) (YaB ?_)
       . rw[YHg (by decide)]
         have h1:A*A/M/2*2<=A*A/M:=Nat.div_mul_le_self _ _
         have h2:=YGO E h1
         rw[YGE];omega
       . have h1:cdiv (B*B) M<=cdiv (cdiv (B*B) M) 2*2:=Ybo _ _ (by decide)
         have h2:=YGO E h1
         rw[YGE];omega
theorem Yhi(a:Nat):hiW (a:Int)=((a*a/18446744073709551616:Nat):Int):=by
 show(a:Int)*a/18446744073709551616=_
 rw[Int.natCast_ediv,Int.natCast_mul];rfl
theorem Ymi(a:Nat):loW (a:Int)=((a*a%18446744073709551616:Nat):Int):=by
 show(a:Int)*a%18446744073709551616=_
 rw[Int.natCast_emod,Int.natCast_mul];rfl
theorem Yj7(x:Nat):sr63 (x:Int)=((x/9223372036854775808:Nat):Int):=YbO (s:=63) (by decide)
theorem YmE(x:Nat):sl1 (x:Int)=((x*2%18446744073709551616:Nat):Int):=by
 show IntKind.u64.wrap ((x:Int)*2^min (YHQ 1) 64)=_
 rw[show(2:Int)^min (YHQ 1) 64=2 from rfl,YmP,Int.natCast_emod,Int.natCast_mul];rfl
theorem Yyl{M x:Nat}(hM:0<M):x/(2*M)*2+x%(2*M)/M=x/M:=by
 have e1:x/(2*M)=x/M/2:=by rw[YGC,YGL]
 have e2:x%(2*M)/M=x/M%2:=by
   rw[YGC,Nat.mod_mul_right_div_self]
 rw[e1,e2];omega
theorem Ywm{h b:Nat}(hb:b<2):(h*2||| b)=h*2+b:=by
 have:=Nat.two_pow_add_eq_or_of_lt (i:=1) (b:=b) (by simpa using hb) h
 rw[Nat.pow_one]at this
 rw[YGC h 2,this]
theorem Yno{a:Nat}(ha:a*a<18446744073709551616*9223372036854775808):dblW (hiW (a:Int)) (loW (a:Int))=((a*a/9223372036854775808:Nat):Int):=by
 show bitI .or .u64 (sl1 (hiW (a:Int))) (sr63 (loW (a:Int)))=_
 rw[Yhi,Ymi,YmE,Yj7]
 generalize a*a=x at*
 have h1:x/18446744073709551616<9223372036854775808:=Nat.div_lt_of_lt_mul ha
 have h2:x%18446744073709551616/9223372036854775808<2:=Nat.div_lt_of_lt_mul (YG0 _ (by decide))
 have h3:=Yyl (M:=9223372036854775808) (x:=x) (by decide)
 rw[show 2*9223372036854775808=18446744073709551616 from rfl]at h3
 generalize x/18446744073709551616=h at*
 generalize x%18446744073709551616/9223372036854775808=l at*
 rw[YHb (by omega),Yup (by omega) (by omega),Ywm h2,h3]
theorem Yif{x d:Nat}(hd:0<d)(h:x%d=0):cdiv x d=x/d:=by
 unfold cdiv
 rw[if_neg]
 have:=YG3 x d
 rw[YGC]at this
 omega
theorem YkJ{x d:Nat}(hd:0<d)(h:x%d≠0):cdiv x d=x/d+1:=by
 unfold cdiv
 rw[if_pos]
 have:=YG3 x d
 rw[YGC]at this
 omega
theorem Yu3{x M:Nat}(hM:0<M):x%(2*M)*2%(2*M)=x%M*2:=by
 have e:x%(2*M)%M=x%M:=Nat.mod_mul_left_mod ..
 rw[<-e]
 generalize x%(2*M)=y at*
 rw[YGC y 2,Nat.mul_mod_mul_left,YGC]
theorem YsA(b:Nat):(0<sl1 (loW (b:Int)))↔b*b%9223372036854775808≠0:=by
 rw[Ymi,YmE]
 have h:=Yu3 (x:=b*b) (M:=9223372036854775808) (by decide)
 rw[show 2*9223372036854775808=18446744073709551616 from rfl]at h
 rw[h]
 omega
theorem YFe{z:Nat}(h:z<18446744073709551616):(IntKind.u64.wrap ((z:Int)+1)=0↔z+1=18446744073709551616)/\(z+1<18446744073709551616->IntKind.u64.wrap ((z:Int)+1)=((z+1:Nat):Int)):=by
 rw[YmP]
 constructor <;> omega
theorem bitS{S b:Nat}(hS:S<9223372036854775808)(hb:b<2):bitI .or .u64 (sl1 (S:Int)) ((b:Nat):Int)=((2*S+b:Nat):Int):=by
 rw[YmE,YHb (by omega),Yup (by omega) (by omega),Ywm hb,YGC]
theorem Yj4{S f:Nat}(hf:f<=64)(h:S*2^f<18446744073709551616):shW (S:Int) f=((S*2^f:Nat):Int):=Yf1 hf h
theorem uS{S:Nat}(hS:S<18446744073709551615):IntKind.u64.wrap ((S:Int)+1)=((S+1:Nat):Int):=by rw[YGR _ (by omega)];rfl
def Yqv(p:Nat×Nat):Int×Int:=((p.1:Int),(p.2:Int))
theorem Ysc:∀(f S a b:Nat),f<=28->S<2^(34-f)->9223372036854775808<=a->a<=b->b<18446744073709551616->
   YaU f (S:Int) (a:Int) (b:Int)=Yqv (gl 9223372036854775808 true f a b S):=by
 intro f
 induction f with
 |zero=>
   intro S a b _ hS _ _ _
   rw[show(2:Nat)^(34-0)=17179869184 from rfl]at hS
   rw[YaU,gl,Yqv,uS (by omega)]
 |succ f ih=>
   intro S a b hf hS ha hab hb
   have e34:(2:Nat)^(34-f)=2*2^(34-(f+1)):=by rw[show 34-f=34-(f+1)+1 by omega,YGZ,YGC]
   have hS2:S<17179869184:=YG1 hS (by rw[show 17179869184=2^34 from rfl];exact YGG (by decide) (by omega))
   have stop:(shW (S:Int) (f+1),shW (IntKind.u64.wrap ((S:Int)+1)) (f+1))=Yqv (S*2^(f+1),(S+1)*2^(f+1)):=by
     have hp:(2:Nat)^(34-(f+1))*2^(f+1)=17179869184:=by rw[<-YGJ,show 34-(f+1)+(f+1)=34 by omega]
     have h1:S*2^(f+1)<=2^(34-(f+1))*2^(f+1):=YGD _ (YHp hS)
     have h2:(S+1)*2^(f+1)<=2^(34-(f+1))*2^(f+1):=YGD _ hS
     rw[uS (by omega),Yj4 (by omega) (by omega),Yj4 (by omega) (by omega)];rfl
   have haa:9223372036854775808*9223372036854775808<=a*a:=YGX ha ha
   have hbb:b*b<18446744073709551616*18446744073709551616:=Nat.mul_lt_mul_of_lt_of_le hb (YHp hb) (by decide)
   have hab2:a*a<=b*b:=YGX hab hab
   have kA:sr63 (hiW (a:Int))=((a*a/170141183460469231731687303715884105728:Nat):Int):=by rw[Yhi,Yj7,YGL]
   have kB:sr63 (hiW (b:Int))=((b*b/170141183460469231731687303715884105728:Nat):Int):=by rw[Yhi,Yj7,YGL]
   have hS0:=bitS (S:=S) (b:=0) (by omega) (by decide)
   have hS1:=bitS (S:=S) (b:=1) (by omega) (by decide)
   have eb:IntKind.u64.wrap (dblW (hiW (b:Int)) (loW (b:Int))+1)=IntKind.u64.wrap (dblW (hiW (b:Int)) (loW (b:Int))+1):=rfl
   rw[YaU,gl,kA,kB]
   by_cases c1:a*a<170141183460469231731687303715884105728
   . have z1:a*a/170141183460469231731687303715884105728=0:=YHs c1
     have c1':a*a/9223372036854775808<2*9223372036854775808:=Nat.div_lt_of_lt_mul c1
     have la:9223372036854775808<=a*a/9223372036854775808:=(YHg (by decide)).2 haa
     rw[if_pos c1',z1,if_pos (by rfl),Yno c1,hS0]
     by_cases c2:b*b<170141183460469231731687303715884105728
     . have z2:b*b/170141183460469231731687303715884105728=0:=YHs c2
       have c2':b*b/9223372036854775808<18446744073709551616:=Nat.div_lt_of_lt_mul c2
       have hq:a*a/9223372036854775808<=b*b/9223372036854775808:=Nat.div_le_div_right hab2
       rw[z2,Yno c2]
       obtain⟨u1,u2⟩:=YFe c2'
       by_cases c3:b*b%9223372036854775808≠0
       . rw[if_pos ((YsA b).2 c3),YkJ (by decide) c3]
         by_cases c4:b*b/9223372036854775808+1=18446744073709551616
         . rw[if_pos (by rw[decide_eq_true (u1.2 c4)];simp),if_neg (by omega)]
           exact stop
         . rw[if_neg (by rw[decide_eq_false (fun h=>c4 (u1.1 h))];simp),if_pos (by omega),u2 (by omega)]
           exact ih _ _ _ (by omega) (by omega) la (by omega) (by omega)
       . rw[if_neg (fun h=>c3 ((YsA b).1 h)),Yif (by decide) (by omega)]
         rw[if_neg (by rw[decide_eq_false (show¬((b*b/9223372036854775808:Nat):Int)=0 by omega)];simp),if_pos (by omega)]
         exact ih _ _ _ (by omega) (by omega) la (by omega) (by omega)
     . have hz2:1<=b*b/170141183460469231731687303715884105728:=(YHg (by decide)).2 (by omega)
       have hc:¬cdiv (b*b) 9223372036854775808<2*9223372036854775808:=by
         have h1:=Yrm (b*b) 9223372036854775808
         have h2:2*9223372036854775808<=b*b/9223372036854775808:=(YHg (by decide)).2 (by omega)
         omega
       have hk:(!decide (((0:Nat):Int)=((b*b/170141183460469231731687303715884105728:Nat):Int)))=true:=by
         rw[decide_eq_false (by omega)];rfl
       rw[if_neg hc,hk]
       simp only[Bool.true_or,if_true,ite_self]
       exact stop
   . have e1:a*a/170141183460469231731687303715884105728=1:=by
       have h1:1<=a*a/170141183460469231731687303715884105728:=(YHg (by decide)).2 (by omega)
       have h2:a*a/170141183460469231731687303715884105728<2:=Nat.div_lt_of_lt_mul (by omega)
       omega
     have e2:b*b/170141183460469231731687303715884105728=1:=by
       have h1:1<=b*b/170141183460469231731687303715884105728:=(YHg (by decide)).2 (by omega)
       have h2:b*b/170141183460469231731687303715884105728<2:=Nat.div_lt_of_lt_mul (by omega)
       omega
     have c1':¬a*a/9223372036854775808<2*9223372036854775808:=by
       have h2:2*9223372036854775808<=a*a/9223372036854775808:=(YHg (by decide)).2 (by omega)
       omega
     have ea:a*a/9223372036854775808/2=a*a/18446744073709551616:=by rw[YGL]
     have hal:9223372036854775808<=a*a/18446744073709551616:=(YHg (by decide)).2 (by omega)
     have hbl:9223372036854775808<=b*b/18446744073709551616:=(YHg (by decide)).2 (by omega)
     have hq:a*a/18446744073709551616<=b*b/18446744073709551616:=Nat.div_le_div_right hab2
     have hbu:b*b/18446744073709551616<18446744073709551616:=Nat.div_lt_of_lt_mul hbb
     rw[if_neg c1',e1,e2,if_neg (by decide),hS1,ea,Yqw (by decide),show 9223372036854775808*2=18446744073709551616 from rfl,Yhi,Yhi,Ymi]
     obtain⟨u1,u2⟩:=YFe hbu
     by_cases c3:b*b%18446744073709551616≠0
     . rw[if_pos (by omega),YkJ (by decide) c3]
       by_cases c4:b*b/18446744073709551616+1=18446744073709551616
       . rw[if_pos (by rw[decide_eq_true (u1.2 c4)];simp),if_pos (by rw[decide_eq_true (show 18446744073709551616<=b*b/18446744073709551616+1 by omega)];rfl)]
         exact stop
       . rw[if_neg (by rw[decide_eq_false (fun h=>c4 (u1.1 h))];simp),if_neg (by rw[decide_eq_false (show¬18446744073709551616<=b*b/18446744073709551616+1 by omega)];simp),u2 (by omega)]
         exact ih _ _ _ (by omega) (by omega) hal (by omega) (by omega)
     . rw[if_neg (by omega),Yif (by decide) (by omega)]
       rw[if_neg (by rw[decide_eq_false (show¬((b*b/18446744073709551616:Nat):Int)=0 by omega)];simp),if_neg (by rw[decide_eq_false (show¬18446744073709551616<=b*b/18446744073709551616 by omega)];simp)]
       exact ih _ _ _ (by omega) (by omega) hal (by omega) (by omega)
def lgK(n:Nat):Nat:=Yi n-1
theorem YnN{n:Nat}(h:1<=n):2^lgK n<=n/\n<2^(lgK n+1):=by
 have h0:Yi n≠0:=fun e=>by have:=bitsN_eq0.1 e;omega
 unfold lgK
 constructor
 . refine Nat.le_of_not_lt fun hh=>?_
   have:=bitsN_le.2 hh
   omega
 . rw[show Yi n-1+1=Yi n by omega];exact Ya2 n
theorem Yd8{n m:Nat}(hm:0<m)(h:n<2^m):lgK n<m:=by
 have:=bitsN_le.2 h
 unfold lgK;omega
theorem YnH{n:Nat}(h1:1<=n)(h2:n<4611686018427387904):Yco (n:Int)=true->n=2^lgK n:=by
 intro h
 unfold Yco at h
 have h:=of_decide_eq_true h
 have e:IntKind.i64.wrap ((n:Int)-1)=((n-1:Nat):Int):=by rw[YGy _ (by omega)];omega
 rw[e]at h
 have h3:IntKind.i64.wrap ((BitVec.ofInt 64 (n:Int)&&&BitVec.ofInt 64 ((n-1:Nat):Int)).toNat:Int)=0:=h
 rw[BitVec.toNat_and,Ycq (by omega),Ycq (by omega)]at h3
 have hle:n&&&(n-1)<=n:=Nat.and_le_left
 rw[YGy _ (by omega)]at h3
 have h4:n&&&(n-1)=0:=by omega
 obtain⟨b1,b2⟩:=YnN h1
 refine Nat.le_antisymm (Nat.le_of_not_lt fun hh=>?_) b1
 have t1:n.testBit (lgK n)=true:=by
   rw[Nat.testBit_eq_decide_div_mod_eq]
   have:n/2^lgK n=1:=by
     have g1:1<=n/2^lgK n:=(YHg (Nat.pow_pos (by decide))).2 (by omega)
     have g2:n/2^lgK n<2:=Nat.div_lt_of_lt_mul (by rw[<-YGZ];exact b2)
     omega
   rw[this];rfl
 have t2:(n-1).testBit (lgK n)=true:=by
   rw[Nat.testBit_eq_decide_div_mod_eq]
   have:(n-1)/2^lgK n=1:=by
     have g1:1<=(n-1)/2^lgK n:=(YHg (Nat.pow_pos (by decide))).2 (by omega)
     have g2:(n-1)/2^lgK n<2:=Nat.div_lt_of_lt_mul (by rw[<-YGZ];omega)
     omega
   rw[this];rfl
 have t3:(n&&&(n-1)).testBit (lgK n)=true:=by rw[Nat.testBit_and,t1,t2];rfl
 rw[h4,Nat.zero_testBit]at t3
 cases t3
def qN(n:Nat):Nat×Nat:=if Yco (n:Int)=true then(lgK n*2^28,lgK n*2^28)else gl 9223372036854775808 true 28 (n*2^(63-lgK n)) (n*2^(63-lgK n)) (lgK n)
def lN(n p:Nat):Nat×Nat:=if Yco (n:Int)=true then(lgK n*2^p,lgK n*2^p)else gl (2^(2*p+64)) false p (n*2^(2*p+64-lgK n)) (n*2^(2*p+64-lgK n)) (lgK n)
theorem mant{n D:Nat}(h1:1<=n)(hD:lgK n<=D):2^D<=n*2^(D-lgK n)/\n*2^(D-lgK n)<2*2^D/\2^lgK n*(n*2^(D-lgK n))=n*2^D:=by
 obtain⟨b1,b2⟩:=YnN h1
 have e:2^D=2^lgK n*2^(D-lgK n):=by rw[<-YGJ];congr 1;omega
 refine⟨?_,?_,?_⟩
 . rw[e];exact YGD _ b1
 . rw[e,<-YGE,<-Nat.pow_succ']
   exact Nat.mul_lt_mul_of_pos_right b2 (Nat.pow_pos (by decide))
 . rw[e,YHc]
theorem Ysb{n:Nat}(h1:1<=n)(h2:n<4611686018427387904):Yba (n:Int)=Yqv (qN n):=by
 have hk:lgK n<62:=Yd8 (by decide) h2
 unfold Yba qN
 rw[YGv]
 by_cases c:Yco (n:Int)=true
 . rw[if_pos c,if_pos c]
   have e:shW ((Yi n-1:Nat):Int) 28=((lgK n*2^28:Nat):Int):=Yj4 (by decide) (by show lgK n*268435456<_;omega)
   have e:IntKind.u64.wrap (((Yi n-1:Nat):Int)*2^min (YHQ 28) 64)=((lgK n*2^28:Nat):Int):=e
   rw[e];rfl
 . rw[if_neg c,if_neg c]
   obtain⟨m1,m2,m3⟩:=mant (D:=63) h1 (by omega)
   have e:shW (n:Int) (63-(Yi n-1))=((n*2^(63-lgK n):Nat):Int):=Yj4 (by omega) (YG1 m2 (by decide))
   rw[e]
   exact Ysc 28 (lgK n) _ _ (by decide) (by rw[show(2:Nat)^(34-28)=64 from rfl];omega) m1 (YGH _) m2
theorem Yy9{e k:Nat}(h:e<=32*k):2^e<=4294967296^k:=by
 rw[YbK]
 exact YGG (by decide) h
theorem YCY{x e k:Nat}(h:x<2^e)(he:e<=32*k):nl x<=k:=nl_le.2 (YG1 h (Yy9 he))
theorem Yg3{x e:Nat}(h:x<2^e)(he:e<=32*512):capF x=x:=by
 unfold capF
 rw[if_pos]
 exact YCY (k:=512) h he
theorem Yoj(a d:Nat)(hd:0<d):shF a (-(d:Int))=a/2^d:=by
 unfold shF
 rw[if_pos (by omega),show(- -(d:Int)).toNat=d by omega]
theorem YwD(a d:Nat):shF a (d:Int)=a*2^d:=by
 unfold shF
 rw[if_neg (by omega),YGv]
theorem Yit{a d e:Nat}(h:a*2^d<2^e)(he:e<=32*512):movW a (d:Int) false=a*2^d:=by
 unfold movW
 rw[YHx,if_neg (by decide),YwD,Yg3 h he]
theorem Ywh{a d e:Nat}(hd:0<d)(h:a<2^e)(he:e<=32*512):movW a (-(d:Int)) false=a/2^d:=by
 unfold movW
 rw[YHx,if_neg (by decide),Yoj _ _ hd,Yg3 (YGU (YHr _ _) h) he]
theorem YnP{a d e:Nat}(hd:0<d)(h:a<2^e)(he:e+1<=32*512):movW a (-(d:Int)) true=cdiv a (2^d):=by
 have h1:a/2^d<2^e:=YGU (YHr _ _) h
 have h2:a/2^d*2^d<2^e:=YGU (Nat.div_mul_le_self _ _) h
 unfold movW cdiv
 rw[YHn,Yoj _ _ hd,Yg3 h1 (by omega),Int.neg_neg,YwD,Yg3 h2 (by omega)]
 by_cases c:a/2^d*2^d<a
 . rw[if_pos (decide_eq_true c),if_pos c]
   exact Yg3 (e:=e+1) (by rw[YGZ];omega) he
 . rw[if_neg (by rw[decide_eq_false c];decide),if_neg c]
theorem YgU{a b e:Nat}(h:a+b<2^e)(he:e<=32*512):addW a b=a+b:=Yg3 h he
theorem Yiu{a b e:Nat}(h:a*b<2^e)(he:e<=32*512):mulW a b=a*b:=Yg3 h he
theorem Yzh{D:Nat}(hD0:64<=D)(hD:D<=4200):∀(f a b S q:Nat),a<=b->b<=2*2^D->S<2^(q-f)->f<=q->q<=4200->
   logL (2*2^D) (D:Int) f a b S=gl (2^D) false f a b S:=by
 intro f
 induction f with
 |zero=>
   intro a b S q _ _ hS _ hq
   rw[logL,gl,YgU (e:=q+1) (by
     have:=Nat.one_le_two_pow (n:=q)
     rw[YGZ];rw[Nat.sub_zero]at hS;omega) (by omega)]
 |succ f ih=>
   intro a b S q hab hb hS hfq hq
   have hbb:b*b<=2^(2*D+2):=by
     have:=YGX hb hb
     rw[show 2*D+2=D+1+(D+1)by omega,YGJ,YGZ,YGC (2^D)]
     exact this
   have haa:a*a<=b*b:=YGX hab hab
   have l1:∀x,x<=2^(2*D+2)->x<2^(2*D+3):=fun x hx=>by
     have:(2:Nat)^(2*D+3)=2*2^(2*D+2):=by rw[Nat.pow_succ',]
     have:=Nat.one_le_two_pow (n:=2*D+2)
     omega
   have ea:mulW a a=a*a:=Yiu (l1 _ (by omega)) (by omega)
   have eb:mulW b b=b*b:=Yiu (l1 _ (by omega)) (by omega)
   have fa:movW (a*a) (-(D:Int)) false=a*a/2^D:=Ywh (by omega) (l1 _ (by omega)) (by omega)
   have fb:movW (b*b) (-(D:Int)) true=cdiv (b*b) (2^D):=YnP (by omega) (l1 _ (by omega)) (by omega)
   have hA:a*a/2^D<=cdiv (b*b) (2^D):=YdH haa
   have hB:cdiv (b*b) (2^D)<=4*2^D:=YaB (by
     rw[show 2*D+2=2+D+D by omega,YGJ,YGJ]at hbb
     exact hbb)
   have hB2:cdiv (b*b) (2^D)<2^(D+3):=by
     have:(2:Nat)^(D+3)=8*2^D:=by rw[YGJ,YGC]
     have:=Nat.one_le_two_pow (n:=D)
     omega
   have hq2:q-f=q-(f+1)+1:=by omega
   have hS2:2*S+1<2^(q-f):=by rw[hq2,YGZ];omega
   have hqq:(2:Nat)^(q-f)<=2^q:=YGG (by decide) (by omega)
   have es1:movW S 1 false=2*S:=by
     have:=Yit (a:=S) (d:=1) (e:=q) (by rw[Nat.pow_one];omega) (by omega)
     rw[Nat.pow_one,YGC]at this
     exact this
   have es2:∀b,b<=1->addW (2*S) b=2*S+b:=fun b hb=>YgU (e:=q) (by omega) (by omega)
   have hSf:(S+1)*2^(f+1)<=2^q:=by
     have:(2:Nat)^q=2^(q-(f+1))*2^(f+1):=by rw[<-YGJ];congr 1;omega
     rw[this]
     exact YGD _ hS
   have hSf0:S*2^(f+1)<=(S+1)*2^(f+1):=YGD _ (by omega)
   have lq:∀x,x<=2^q->x<2^(q+1):=fun x hx=>by
     have:=Nat.one_le_two_pow (n:=q)
     rw[YGZ];omega
   have st1:movW S ((f+1:Nat):Int) false=S*2^(f+1):=Yit (lq _ (by omega)) (by omega)
   have st2:movW (addW S 1) ((f+1:Nat):Int) false=(S+1)*2^(f+1):=by
     rw[YgU (e:=q+1) (lq _ (by
       have:(2:Nat)^(q-(f+1))<=2^q:=YGG (by decide) (by omega)
       omega)) (by omega)]
     exact Yit (lq _ (by omega)) (by omega)
   rw[logL,gl,ea,eb,fa,fb,es1,st1,st2]
   by_cases c1:a*a/2^D<2*2^D
   . rw[if_pos c1,if_pos c1]
     by_cases c2:cdiv (b*b) (2^D)<2*2^D
     . rw[if_pos c2,if_pos c2,es2 0 (by omega),YHw]
       exact ih _ _ _ q hA (by omega) (by omega) (by omega) hq
     . rw[if_neg c2,if_neg c2]
   . have g1:movW (a*a/2^D) (-1) false=a*a/2^D/2:=by
       have:=Ywh (a:=a*a/2^D) (d:=1) (by decide) (YGU hA hB2) (by omega)
       rw[Nat.pow_one]at this
       exact this
     have g2:movW (cdiv (b*b) (2^D)) (-1) true=cdiv (cdiv (b*b) (2^D)) 2:=by
       have:=YnP (a:=cdiv (b*b) (2^D)) (d:=1) (by decide) hB2 (by omega)
       rw[Nat.pow_one]at this
       exact this
     rw[if_neg c1,if_neg c1,YHx,if_neg (by decide),g1,g2,es2 1 (by omega)]
     exact ih _ _ _ q (YdH hA) (YaB (by omega)) (by omega) (by omega) hq
theorem Yzf{n p:Nat}(h1:1<=n)(h2:n<4611686018427387904)(hp:p<=2048):logF (n:Int) p=lN n p:=by
 have hk:lgK n<62:=Yd8 (by decide) h2
 have hk2:lgK n<2^6:=by rw[show(2:Nat)^6=64 from rfl];omega
 unfold logF lN
 rw[YGv]
 by_cases c:Yco (n:Int)=true
 . rw[if_pos c,if_pos c]
   have e:movW (lgK n) (p:Int) false=lgK n*2^p:=Yit (e:=6+p) (by rw[YGJ];exact Nat.mul_lt_mul_of_pos_right hk2 (Nat.pow_pos (by decide))) (by omega)
   show(movW (lgK n) (p:Int) false,movW (lgK n) (p:Int) false)=_
   rw[e]
 . rw[if_neg c,if_neg c]
   obtain⟨D,hD⟩:∃D,D=2*p+64:=⟨_,rfl⟩
   rw[<-hD]
   obtain⟨m1,m2,m3⟩:=mant (D:=D) h1 (by omega)
   have hD1:2*2^D<2^(D+2):=by
     have:(2:Nat)^(D+2)=4*2^D:=by rw[YGJ,YGC]
     have:=Nat.one_le_two_pow (n:=D)
     omega
   have ea:movW n ((D:Int)-((Yi n-1:Nat):Int)) false=n*2^(D-lgK n):=by
     rw[show((D:Int)-((Yi n-1:Nat):Int))=((D-lgK n:Nat):Int)by unfold lgK at hk⊢;omega]
     exact Yit (e:=D+2) (by omega) (by omega)
   have e2:movW 2 (D:Int) false=2*2^D:=Yit (e:=D+2) hD1 (by omega)
   show logL (movW 2 (D:Int) false) (D:Int) p (movW n ((D:Int)-((Yi n-1:Nat):Int)) false) (movW n ((D:Int)-((Yi n-1:Nat):Int)) false) (lgK n)=_
   rw[ea,e2]
   exact Yzh (by omega) (by omega) p _ _ _ (p+6) (YGH _) (YHp m2) (by rw[show p+6-p=6 by omega];exact hk2) (by omega) (by omega)
theorem Yls{n:Nat}(h1:1<=n)(h2:n<4611686018427387904)(c:Yco (n:Int)=true)(p:Nat):2^(lgK n*2^p)<=n^(2^p)/\n^(2^p)<=2^(lgK n*2^p):=by
 have e0:=YnH h1 h2 c
 have e:n^(2^p)=2^(lgK n*2^p):=by
   rw[YHj,<-e0]
 rw[e];exact⟨YGH _,YGH _⟩
theorem Yn7{n:Nat}(h1:1<=n)(h2:n<4611686018427387904):2^(qN n).1<=n^(2^28)/\n^(2^28)<=2^(qN n).2:=by
 unfold qN
 by_cases c:Yco (n:Int)=true
 . rw[if_pos c]
   exact Yls h1 h2 c 28
 . rw[if_neg c]
   have hk:lgK n<62:=Yd8 (by decide) h2
   obtain⟨m1,m2,m3⟩:=mant (D:=63) h1 (by omega)
   exact Yjx _ true (by decide) 28 _ _ _ n (YHM m3) (YHM m3.symm) m1 (YHp m2)
theorem YgF{n p:Nat}(h1:1<=n)(h2:n<4611686018427387904):2^(lN n p).1<=n^(2^p)/\n^(2^p)<=2^(lN n p).2:=by
 unfold lN
 by_cases c:Yco (n:Int)=true
 . rw[if_pos c]
   exact Yls h1 h2 c p
 . rw[if_neg c]
   have hk:lgK n<62:=Yd8 (by decide) h2
   obtain⟨m1,m2,m3⟩:=mant (D:=2*p+64) h1 (by omega)
   exact Yjx _ false (Nat.pow_pos (by decide)) p _ _ _ n (YHM m3) (YHM m3.symm) m1 (YHp m2)
def upS(g:Nat->Nat):List (Int×Int)->Nat
 | []=>0
 |x::l=>(if x.2<0 then 0 else g x.1.toNat*x.2.toNat)+upS g l
def dnS(g:Nat->Nat):List (Int×Int)->Nat
 | []=>0
 |x::l=>(if x.2<0 then g x.1.toNat*(-x.2).toNat else 0)+dnS g l
def upP:List (Int×Int)->Nat
 | []=>1
 |x::l=>(if x.2<0 then 1 else x.1.toNat^x.2.toNat)*upP l
def dnP:List (Int×Int)->Nat
 | []=>1
 |x::l=>(if x.2<0 then x.1.toNat^(-x.2).toNat else 1)*dnP l
theorem Ydm{x:Int×Int}(h:okT x):1<=x.1.toNat/\x.1.toNat<4611686018427387904/\x.1=(x.1.toNat:Int):=by
 obtain⟨h1,h2,h3,h4⟩:=h
 omega
theorem Yfe{K g h n e:Nat}(H:2^g<=n^K/\n^K<=2^h):2^(g*e)<=(n^e)^K/\(n^e)^K<=2^(h*e):=by
 rw[YHj,YHj,<-YHj n,YGC e K,YHj]
 exact⟨YHk H.1 _,YHk H.2 _⟩
theorem Ycz{K:Nat}{g h:Nat->Nat}(H:∀n,1<=n->n<4611686018427387904->2^g n<=n^K/\n^K<=2^h n):∀(l:List (Int×Int)),(∀x,x∈l->okT x)->
   (2^upS g l<=upP l^K/\upP l^K<=2^upS h l)/\2^dnS g l<=dnP l^K/\dnP l^K<=2^dnS h l
 | [],_=>by simp [upS,upP,dnS,dnP]
 |x::l,hl=>by
   obtain⟨⟨a1,a2⟩,b1,b2⟩:=Ycz H l fun y hy=>hl y (YGK _ hy)
   obtain⟨n1,n2,_⟩:=Ydm (hl x (YGI ..))
   have hx:=H _ n1 n2
   rw[upS,upS,upP,dnS,dnS,dnP,Nat.mul_pow,Nat.mul_pow,YGJ,YGJ,YGJ,YGJ]
   by_cases c:x.2<0
   . simp only[if_pos c,Nat.pow_zero,Nat.one_pow,YHz]
     obtain⟨p1,p2⟩:=Yfe (e:=(-x.2).toNat) hx
     exact⟨⟨a1,a2⟩,YGX p1 b1,YGX p2 b2⟩
   . simp only[if_neg c,Nat.pow_zero,Nat.one_pow,YHz]
     obtain⟨p1,p2⟩:=Yfe (e:=x.2.toNat) hx
     exact⟨⟨YGX p1 a1,YGX p2 a2⟩,b1,b2⟩
theorem S_le{g:Nat->Nat}{B:Nat}(H:∀n,1<=n->n<4611686018427387904->g n<=B):∀(l:List (Int×Int)),(∀x,x∈l->okT x)->upS g l<=l.length*(B*1000000000)/\dnS g l<=l.length*(B*1000000000)
 | [],_=>by simp [upS,dnS]
 |x::l,hl=>by
   obtain⟨a1,a2⟩:=S_le H l fun y hy=>hl y (YGK _ hy)
   have hx:=hl x (YGI ..)
   obtain⟨n1,n2,_⟩:=Ydm hx
   obtain⟨_,_,x3,x4⟩:=hx
   have h1:=YGX (H _ n1 n2) (show x.2.toNat<=1000000000 by omega)
   have h2:=YGX (H _ n1 n2) (show(-x.2).toNat<=1000000000 by omega)
   rw[upS,dnS,YHF,YG8,YHz]
   constructor
   . split <;> omega
   . split <;> omega
theorem YEa{n:Nat}(h1:1<=n)(h2:n<4611686018427387904):(qN n).1<=(qN n).2/\(qN n).2<=17179869184:=by
 have hs:=Yn7 h1 h2
 have hk:lgK n<62:=Yd8 (by decide) h2
 refine⟨(Nat.pow_le_pow_iff_right (by decide)).1 (YGF hs.1 hs.2),?_⟩
 unfold qN
 split
 . show lgK n*268435456<=_;omega
 . have:=(YeZ 9223372036854775808 true 28 (n*2^(63-lgK n)) (n*2^(63-lgK n)) (lgK n)).2
   rw[show(2:Nat)^28=268435456 from rfl]at this
   omega
theorem YDs{n p:Nat}(h1:1<=n)(h2:n<4611686018427387904):(lN n p).1<=(lN n p).2/\(lN n p).2<=64*2^p:=by
 have hs:=YgF (p:=p) h1 h2
 have hk:lgK n<62:=Yd8 (by decide) h2
 refine⟨(Nat.pow_le_pow_iff_right (by decide)).1 (YGF hs.1 hs.2),?_⟩
 unfold lN
 split
 . exact YGD _ (by omega)
 . exact YGF (YeZ _ false p _ _ (lgK n)).2 (YGD _ (by omega))
theorem Yku{g h:Nat->Nat}(H:∀n,1<=n->n<4611686018427387904->g n<=h n):∀(l:List (Int×Int)),(∀x,x∈l->okT x)->upS g l<=upS h l/\dnS g l<=dnS h l
 | [],_=>by simp [upS,dnS]
 |x::l,hl=>by
   obtain⟨a1,a2⟩:=Yku H l fun y hy=>hl y (YGK _ hy)
   obtain⟨n1,n2,_⟩:=Ydm (hl x (YGI ..))
   have h1:=YGD x.2.toNat (H _ n1 n2)
   have h2:=YGD (-x.2).toNat (H _ n1 n2)
   rw[upS,dnS,upS,dnS]
   constructor
   . split <;> omega
   . split <;> omega
def valL(a:Int×Int):Int:=a.1*18446744073709551616+a.2
theorem YsG{M t:Int}(hM:0<M):t/M*M+t%M=t:=Int.ediv_mul_add_emod ..
theorem Yfd{a:Int×Int}{x y:Int}(ha:okL a)(h0:0<=x*y)(h:valL a+x*y<340282366920938463463374607431768211456):valL (Yd2 a x y)=valL a+x*y:=by
 obtain⟨⟨a0,a1⟩,b0,b1⟩:=ha
 unfold valL at h⊢
 unfold Yd2
 generalize x*y=t at*
 have e1:=YsG (M:=18446744073709551616) (t:=t) (by decide)
 have e2:=YsG (M:=18446744073709551616) (t:=a.2+t%18446744073709551616) (by decide)
 have r1:=Int.emod_nonneg t (show(18446744073709551616:Int)≠0 by decide)
 have r2:=Int.emod_lt_of_pos t (show(0:Int)<18446744073709551616 by decide)
 have r3:=Int.emod_nonneg (a.2+t%18446744073709551616) (show(18446744073709551616:Int)≠0 by decide)
 have r4:=Int.emod_lt_of_pos (a.2+t%18446744073709551616) (show(0:Int)<18446744073709551616 by decide)
 have q1:0<=t/18446744073709551616:=Int.ediv_nonneg h0 (by decide)
 have q2:0<=(a.2+t%18446744073709551616)/18446744073709551616:=Int.ediv_nonneg (by omega) (by decide)
 generalize t%18446744073709551616=lo at*
 generalize t/18446744073709551616=hi at*
 generalize(a.2+lo)%18446744073709551616=r at*
 generalize(a.2+lo)/18446744073709551616=c at*
 rw[YGR (a.1+hi) (by omega),YGR (a.1+hi+c) (by omega)]
 omega
theorem Yln{a b:Int×Int}(ha:okL a)(hb:okL b):YhU a b=decide (valL b<valL a):=by
 obtain⟨⟨a0,a1⟩,a2,a3⟩:=ha
 obtain⟨⟨b0,b1⟩,b2,b3⟩:=hb
 unfold YhU valL
 by_cases c:b.1<a.1
 . rw[decide_eq_true c,Bool.true_or,decide_eq_true (by omega)]
 . rw[decide_eq_false c,YHv]
   by_cases d:a.1=b.1
   . rw[decide_eq_true d,YHn,d]
     by_cases e:b.2<a.2
     . rw[decide_eq_true e,decide_eq_true (by omega)]
     . rw[decide_eq_false e,decide_eq_false (by omega)]
   . rw[decide_eq_false d,YHx,decide_eq_false (by omega)]
theorem YnG:∀(l:List (Int×Int))(s:Gss),s.ok->(∀x,x∈l->okT x)->
   valL s.u0+(upS (fun n=>(qN n).1) l:Nat)<340282366920938463463374607431768211456->valL s.u1+(upS (fun n=>(qN n).2) l:Nat)<340282366920938463463374607431768211456->
   valL s.d0+(dnS (fun n=>(qN n).1) l:Nat)<340282366920938463463374607431768211456->valL s.d1+(dnS (fun n=>(qN n).2) l:Nat)<340282366920938463463374607431768211456->
   (l.foldl gssS s).ok/\valL (l.foldl gssS s).u0=valL s.u0+(upS (fun n=>(qN n).1) l:Nat)/\valL (l.foldl gssS s).u1=valL s.u1+(upS (fun n=>(qN n).2) l:Nat)/\
     valL (l.foldl gssS s).d0=valL s.d0+(dnS (fun n=>(qN n).1) l:Nat)/\valL (l.foldl gssS s).d1=valL s.d1+(dnS (fun n=>(qN n).2) l:Nat)
 | [],s,hs,_,_,_,_,_=>by simpa [upS,dnS]using hs
 |x::l,s,hs,hl,h1,h2,h3,h4=>by
   have hx:=hl x (YGI ..)
   obtain⟨n1,n2,n3⟩:=Ydm hx
   have hq:Yba x.1=Yqv (qN x.1.toNat):=by
     conv=>lhs;rw[n3]
     exact Ysb n1 n2
   obtain⟨k1,k2,k3,k4⟩:=hs
   have ih:=YnG l (gssS s x) (Yq0 s x ⟨k1,k2,k3,k4⟩) fun y hy=>hl y (YGK _ hy)
   rw[upS,Int.natCast_add]at h1 h2
   rw[dnS,Int.natCast_add]at h3 h4
   rw[List.foldl_cons,upS,upS,dnS,dnS,Int.natCast_add,Int.natCast_add,Int.natCast_add,Int.natCast_add]
   by_cases c:x.2<0
   . rw[if_pos c]at h1 h2 h3 h4
     simp only[if_pos c]
     have c0:¬0<=x.2:=by omega
     have hm:∀z:Nat,(z:Int)*(-x.2)=((z*(-x.2).toNat:Nat):Int):=fun z=>by rw[Int.natCast_mul];congr 1;omega
     have hz:∀z:Nat,0<=(z:Int)*(-x.2):=fun z=>Int.mul_nonneg (by omega) (by omega)
     have e:gssS s x= { s with d0:=Yd2 s.d0 ((qN x.1.toNat).1:Nat) (-x.2),d1:=Yd2 s.d1 ((qN x.1.toNat).2:Nat) (-x.2)}:=by rw[gssS,if_neg c0,hq];rfl
     have p0:=Yfd (x:=((qN x.1.toNat).1:Nat)) (y:= -x.2) k3 (hz _) (by rw[hm];omega)
     have p1:=Yfd (x:=((qN x.1.toNat).2:Nat)) (y:= -x.2) k4 (hz _) (by rw[hm];omega)
     rw[hm]at p0 p1
     rw[e]at ih⊢
     simp only at ih h1 h2 h3 h4
     rw[p0,p1]at ih
     obtain⟨i0,i1,i2,i3,i4⟩:=ih (by omega) (by omega) (by omega) (by omega)
     exact⟨i0,by omega,by omega,by omega,by omega⟩
   . rw[if_neg c]at h1 h2 h3 h4
     simp only[if_neg c]
     have c0:0<=x.2:=by omega
     have hm:∀z:Nat,(z:Int)*x.2=((z*x.2.toNat:Nat):Int):=fun z=>by rw[Int.natCast_mul];congr 1;omega
     have hz:∀z:Nat,0<=(z:Int)*x.2:=fun z=>Int.mul_nonneg (by omega) (by omega)
     have e:gssS s x= { s with u0:=Yd2 s.u0 ((qN x.1.toNat).1:Nat) x.2,u1:=Yd2 s.u1 ((qN x.1.toNat).2:Nat) x.2}:=by rw[gssS,if_pos c0,hq];rfl
     have p0:=Yfd (x:=((qN x.1.toNat).1:Nat)) (y:=x.2) k1 (hz _) (by rw[hm];omega)
     have p1:=Yfd (x:=((qN x.1.toNat).2:Nat)) (y:=x.2) k2 (hz _) (by rw[hm];omega)
     rw[hm]at p0 p1
     rw[e]at ih⊢
     simp only at ih h1 h2 h3 h4
     rw[p0,p1]at ih
     obtain⟨i0,i1,i2,i3,i4⟩:=ih (by omega) (by omega) (by omega) (by omega)
     exact⟨i0,by omega,by omega,by omega,by omega⟩
theorem YuI{l:List (Int×Int)}(hl:∀x,x∈l->okT x)(hn:l.length<=100):Yhf l=
   if dnS (fun n=>(qN n).2) l<upS (fun n=>(qN n).1) l then(1,true)else if upS (fun n=>(qN n).2) l<dnS (fun n=>(qN n).1) l then(-1,true)else(0,false):=by
 obtain⟨a1,a2⟩:=S_le (g:=fun n=>(qN n).2) (fun n h1 h2=>(YEa h1 h2).2) l hl
 obtain⟨b1,b2⟩:=Yku (g:=fun n=>(qN n).1) (h:=fun n=>(qN n).2) (fun n h1 h2=>(YEa h1 h2).1) l hl
 have hb:l.length*(17179869184*1000000000)<=100*(17179869184*1000000000):=YGD _ hn
 have z:valL (0,0)=0:=rfl
 have h0:gss0.ok:=by simp [Gss.ok,gss0,okL]
 obtain⟨⟨k1,k2,k3,k4⟩,v1,v2,v3,v4⟩:=YnG l gss0 h0 hl (by show valL (0,0)+_<_;omega) (by show valL (0,0)+_<_;omega) (by show valL (0,0)+_<_;omega) (by show valL (0,0)+_<_;omega)
 have v1:valL (l.foldl gssS gss0).u0=(upS (fun n=>(qN n).1) l:Nat):=by rw[v1];show valL (0,0)+_=_;omega
 have v2:valL (l.foldl gssS gss0).u1=(upS (fun n=>(qN n).2) l:Nat):=by rw[v2];show valL (0,0)+_=_;omega
 have v3:valL (l.foldl gssS gss0).d0=(dnS (fun n=>(qN n).1) l:Nat):=by rw[v3];show valL (0,0)+_=_;omega
 have v4:valL (l.foldl gssS gss0).d1=(dnS (fun n=>(qN n).2) l:Nat):=by rw[v4];show valL (0,0)+_=_;omega
 unfold Yhf
 simp only
 rw[Yln k1 k4,Yln k3 k2,v1,v2,v3,v4]
 simp only[Int.ofNat_lt,decide_eq_true_eq]
theorem YlM{p:Nat}(hp:p<=2048):∀(l:List (Int×Int))(s:Bnd)(e:Nat),(∀x,x∈l->okT x)->e<=32*512->
   s.ul+upS (fun n=>(lN n p).1) l<2^e->s.uh+upS (fun n=>(lN n p).2) l<2^e->s.dl+dnS (fun n=>(lN n p).1) l<2^e->s.dh+dnS (fun n=>(lN n p).2) l<2^e->
   l.foldl (YdA p) s=⟨s.ul+upS (fun n=>(lN n p).1) l,s.uh+upS (fun n=>(lN n p).2) l,s.dl+dnS (fun n=>(lN n p).1) l,s.dh+dnS (fun n=>(lN n p).2) l⟩
 | [],s,e,_,_,_,_,_,_=>by simp [upS,dnS]
 |x::l,s,e,hl,he,h1,h2,h3,h4=>by
   have hx:=hl x (YGI ..)
   obtain⟨n1,n2,n3⟩:=Ydm hx
   have hq:logF x.1 p=lN x.1.toNat p:=by
     conv=>lhs;rw[n3]
     exact Yzf n1 n2 hp
   have ih:=YlM hp l (YdA p s x) e (fun y hy=>hl y (YGK _ hy)) he
   rw[upS]at h1 h2
   rw[dnS]at h3 h4
   rw[List.foldl_cons,upS,upS,dnS,dnS]
   by_cases c:x.2<0
   . rw[if_pos c]at h1 h2 h3 h4
     simp only[if_pos c]
     have e:YdA p s x= { s with dl:=s.dl+(lN x.1.toNat p).1*(-x.2).toNat,dh:=s.dh+(lN x.1.toNat p).2*(-x.2).toNat}:=by
       rw[YdA,if_pos c,hq]
       rw[Yiu (e:=e) (by omega) he,Yiu (e:=e) (by omega) he,YgU (e:=e) (by omega) he,YgU (e:=e) (by omega) he]
     rw[e]at ih⊢
     simp only at ih
     rw[ih (by omega) (by omega) (by omega) (by omega)]
     simp only[Bnd.mk.injEq]
     omega
   . rw[if_neg c]at h1 h2 h3 h4
     simp only[if_neg c]
     have e:YdA p s x= { s with ul:=s.ul+(lN x.1.toNat p).1*x.2.toNat,uh:=s.uh+(lN x.1.toNat p).2*x.2.toNat}:=by
       rw[YdA,if_neg c,hq]
       rw[Yiu (e:=e) (by omega) he,Yiu (e:=e) (by omega) he,YgU (e:=e) (by omega) he,YgU (e:=e) (by omega) he]
     rw[e]at ih⊢
     simp only at ih
     rw[ih (by omega) (by omega) (by omega) (by omega)]
     simp only[Bnd.mk.injEq]
     omega
theorem YAw{l:List (Int×Int)}{p:Nat}(hp:p<=2048)(hl:∀x,x∈l->okT x)(hn:l.length<=100):Ycv l p=⟨upS (fun n=>(lN n p).1) l,upS (fun n=>(lN n p).2) l,dnS (fun n=>(lN n p).1) l,dnS (fun n=>(lN n p).2) l⟩:=by
 obtain⟨a1,a2⟩:=S_le (g:=fun n=>(lN n p).2) (B:=64*2^p) (fun n h1 h2=>(YDs h1 h2).2) l hl
 obtain⟨b1,b2⟩:=Yku (g:=fun n=>(lN n p).1) (h:=fun n=>(lN n p).2) (fun n h1 h2=>(YDs h1 h2).1) l hl
 have hb:l.length*(64*2^p*1000000000)<=100*(64*2^p*1000000000):=YGD _ hn
 have hp2:100*(64*2^p*1000000000)<2^(p+43):=by
   have:(2:Nat)^(p+43)=8796093022208*2^p:=by rw[YGJ,YGC]
   have:=Nat.one_le_two_pow (n:=p)
   omega
 unfold Ycv
 rw[YlM hp l ⟨0,0,0,0⟩ (p+43) hl (by omega) (by simp only;omega) (by simp only;omega) (by simp only;omega) (by simp only;omega)]
 simp only[YHC]
inductive Spn (L:List Nat):Nat->Prop
 |one:Spn L 1
 |mul {x y:Nat}:x∈L->Spn L y->Spn L (x*y)
theorem Spn.mem{L:List Nat}{x:Nat}(h:x∈L):Spn L x:=by
 have:=Spn.mul h Spn.one
 rwa [Nat.mul_one]at this
theorem Spn.mul2{L:List Nat}{x y:Nat}(hx:Spn L x)(hy:Spn L y):Spn L (x*y):=by
 induction hx with
 |one=>rwa [YHz]
 |mul h _ ih=>rw[YGE];exact .mul h ih
theorem Spn.sub{L L':List Nat}(h:∀x,x∈L->Spn L' x){y:Nat}(hy:Spn L y):Spn L' y:=by
 induction hy with
 |one=>exact .one
 |mul hx _ ih=>exact(h _ hx).mul2 ih
def Cop(r:List Nat):Prop:=r.Pairwise fun a b=>YHO a b=1
theorem YeU{B:Nat}:∀{f:Nat}{wait out:List Nat},DrOk B f wait out->Cop out->Cop (YcE f wait out)/\∀y,Spn (out++wait) y->Spn (YcE f wait out) y
 |0,wait,out,h,hc=>by
   have hw:wait=[]:=List.length_eq_zero_iff.1 (by have:=h.mu;omega)
   rw[YcE,hw,List.append_nil]
   exact⟨hc,fun _ h=>h⟩
 |f+1,wait,out,h,hc=>by
   rw[YcE]
   by_cases hw:wait.length=0
   . rw[if_pos hw]
     have hw:wait=[]:=List.length_eq_zero_iff.1 hw
     rw[hw,List.append_nil]
     exact⟨hc,fun _ h=>h⟩
   . rw[if_neg hw]
     have e:=YdX hw
     by_cases h1:wait.getD (wait.length-1) 0=1
     . rw[if_pos h1]
       obtain⟨g,hg,hd⟩:=h.pop hw h1
       obtain rfl:f=g:=by omega
       obtain⟨k1,k2⟩:=YeU hd hc
       refine⟨k1,fun y hy=>k2 y (hy.sub fun x hx=>?_)⟩
       rw[e,YG2,YG2,YHa]at hx
       rcases hx with hx|hx|hx
       . exact .mem (List.mem_append_left _ hx)
       . exact .mem (List.mem_append_right _ hx)
       . rw[hx,h1];exact .one
     . rw[if_neg h1]
       have hsp:=YcK (f:=fun i=>decide (1<YHO (out.getD i 0) (wait.getD (wait.length-1) 0))) out.length 0
       have hn:1<=wait.getD (wait.length-1) 0:=(h.wp _ (Yp (l:=wait) (i:=wait.length-1) (by omega))).1
       by_cases h2:hitF out (wait.getD (wait.length-1) 0)<out.length
       . rw[if_pos h2]
         have hs:=hsp.2.2.2 (by simpa [hitF]using h2)
         obtain⟨g,hg,hd⟩:=h.hit hw h2 (of_decide_eq_true hs)
         obtain rfl:f=g:=by omega
         have e':=Yoq h2
         generalize hitF out (wait.getD (wait.length-1) 0)=i at*
         have hsub:List.Sublist (out.take i++out.drop (i+1)) out:=by
           conv=>rhs;rw[e']
           exact(List.sublist_cons_self _ _).append_left _
         obtain⟨k1,k2⟩:=YeU hd (List.Pairwise.sublist hsub hc)
         refine⟨k1,fun y hy=>k2 y (hy.sub fun x hx=>?_)⟩
         generalize hL:out.take i++out.drop (i+1)++(wait.take (wait.length-1)++[YHO (out.getD i 0) (wait.getD (wait.length-1) 0),out.getD i 0/YHO (out.getD i 0) (wait.getD (wait.length-1) 0),wait.getD (wait.length-1) 0/YHO (out.getD i 0) (wait.getD (wait.length-1) 0)])=L
         have mL:∀z,z∈out.take i\/z∈out.drop (i+1)\/z∈wait.take (wait.length-1)\/z=YHO (out.getD i 0) (wait.getD (wait.length-1) 0)\/z=out.getD i 0/YHO (out.getD i 0) (wait.getD (wait.length-1) 0)\/z=wait.getD (wait.length-1) 0/YHO (out.getD i 0) (wait.getD (wait.length-1) 0)->Spn L z:=fun z hz=>by
           refine .mem ?_
           rw[<-hL]
           simp only[YG2,YGQ,List.not_mem_nil,or_false]
           rcases hz with hz|hz|hz|hz|hz|hz
           . exact .inl (.inl hz)
           . exact .inl (.inr hz)
           . exact .inr (.inl hz)
           . exact .inr (.inr (.inl hz))
           . exact .inr (.inr (.inr (.inl hz)))
           . exact .inr (.inr (.inr (.inr hz)))
         rcases YG2.1 hx with hx|hx
         . rw[e']at hx
           rcases YG2.1 hx with hx|hx
           . exact mL _ (.inl hx)
           . rcases YGQ.1 hx with hx|hx
             . rw[hx]
               have:=(mL _ (.inr (.inr (.inr (.inl rfl))))).mul2 (mL _ (.inr (.inr (.inr (.inr (.inl rfl))))))
               rwa [Nat.mul_div_cancel' (Nat.gcd_dvd_left _ _)]at this
             . exact mL _ (.inr (.inl hx))
         . rw[e]at hx
           rcases YG2.1 hx with hx|hx
           . exact mL _ (.inr (.inr (.inl hx)))
           . rw[YHa]at hx
             rw[hx]
             have:=(mL _ (.inr (.inr (.inr (.inl rfl))))).mul2 (mL _ (.inr (.inr (.inr (.inr (.inr rfl))))))
             rwa [Nat.mul_div_cancel' (Nat.gcd_dvd_right _ _)]at this
       . rw[if_neg h2]
         obtain⟨g,hg,hd⟩:=h.push hw h1
         obtain rfl:f=g:=by omega
         have hcop:Cop (out++[wait.getD (wait.length-1) 0]):=by
           refine List.pairwise_append.2 ⟨hc,List.pairwise_singleton _ _,fun a ha b hb=>?_⟩
           rw[YHa]at hb
           rw[hb]
           obtain⟨j,hj,hja⟩:=Ye8 ha
           have:=hsp.2.2.1 j (by omega) (by show j<hitF out _;omega)
           have:=of_decide_eq_false this
           rw[show out.getD j 0=a from hja]at this
           have:=Nat.gcd_pos_of_pos_right a hn
           omega
         obtain⟨k1,k2⟩:=YeU hd hcop
         refine⟨k1,fun y hy=>k2 y (hy.sub fun x hx=>?_)⟩
         rw[e,YG2,YG2,YHa]at hx
         refine .mem ?_
         rw[YG2,YG2,YHa]
         rcases hx with hx|hx|hx
         . exact .inl (.inl hx)
         . exact .inr hx
         . exact .inl (.inr hx)
theorem Yuq{l:List (Int×Int)}(hl:∀x,x∈l->okT x)(hn:l.length<=20):Cop (Yi4 l)/\∀x,x∈l->Spn (Yi4 l) x.1.toNat:=by
 have key:∀i,i<=l.length->((∀x,x∈(l.take i).foldl Ybl []->2<=x/\x<=1099511627776)/\Yi (Ys ((l.take i).foldl Ybl []))<=40*i+1)/\Cop ((l.take i).foldl Ybl [])/\∀x,x∈l.take i->Spn ((l.take i).foldl Ybl []) x.1.toNat:=fun i=>by
   induction i with
   |zero=>exact fun _=>⟨⟨fun x hx=>absurd hx (by simp),by simp [Ys];decide⟩,List.Pairwise.nil,fun x hx=>absurd hx (by simp)⟩
   |succ i ih=>
     intro hi
     obtain⟨⟨h1,h2⟩,h3,h4⟩:=ih (by omega)
     have hx:=hl _ (Yp (by omega:i<l.length))
     rw[Yt (by omega),Yai (by omega)]
     obtain⟨q0,q1,q2,q3⟩:=hx
     have hd:=DrOk.start (N:=(l.getD i default).1.toNat) (by omega) (by omega) h1 h2 (by omega)
     obtain⟨d1,d2⟩:=YeU hd h3
     refine⟨Ydd hd,d1,fun y hy=>?_⟩
     rcases YG2.1 hy with hy|hy
     . exact d2 _ ((h4 y hy).sub fun z hz=> .mem (List.mem_append_left _ hz))
     . rw[YHa]at hy
       rw[hy]
       exact d2 _ (.mem (List.mem_append_right _ (YHa.2 rfl)))
 have:=(key l.length (YGH _)).2
 rwa [YHm]at this
def vl:Nat->Nat->Nat->Nat
 |0,_,_=>0
 |f+1,b,x=>if x%b=0 then vl f b (x/b)+1 else 0
theorem YmU{b:Nat}(hb:2<=b):∀(f x:Nat),1<=x->x<2^f->∀e,b^e∣x↔e<=vl f b x
 |0,x,h1,h2,_=>by simp at h2;omega
 |f+1,x,h1,h2,e=>by
   rw[vl]
   by_cases c:x%b=0
   . rw[if_pos c]
     obtain⟨y,rfl⟩:=Nat.dvd_of_mod_eq_zero c
     have hy:1<=y:=Nat.pos_of_ne_zero fun h=>by rw[h,Nat.mul_zero]at h1;omega
     rw[Nat.mul_div_cancel_left _ (by omega)]
     have hy2:y<2^f:=by
       have:2*y<=b*y:=YGD _ hb
       rw[YGZ]at h2;omega
     cases e with
     |zero=>simp
     |succ e=>
       rw[YGZ,YGC,Nat.mul_dvd_mul_iff_left (by omega),YmU hb f y hy hy2]
       omega
   . rw[if_neg c]
     cases e with
     |zero=>simp
     |succ e=>
       refine⟨fun h=>absurd (Nat.mod_eq_zero_of_dvd (Nat.dvd_trans ⟨b^e,by rw[YGZ,YGC]⟩ h)) c,fun h=>by omega⟩
theorem YGm{r:List Nat}(hc:Cop r)(h2:∀x,x∈r->2<=x){b c y:Nat}(hb:b∈r)(hcm:c∈r)(hy:1<=y)(hyl:c*y<2^64):vl 64 b (c*y)=vl 64 b y+if b=c then 1 else 0:=by
 have hb2:=h2 _ hb
 have hc2:=h2 _ hcm
 have hcy:1<=c*y:=YHP (by omega) hy
 have hy2:y<2^64:=YGU (Nat.le_mul_of_pos_left _ (by omega)) hyl
 have s1:=YmU hb2 64 (c*y) hcy hyl
 have s2:=YmU hb2 64 y hy hy2
 have ext:∀A B:Nat,(∀e,e<=A↔e<=B)->A=B:=fun A B h=>Nat.le_antisymm ((h A).1 (YGH _)) ((h B).2 (YGH _))
 refine ext _ _ fun e=>?_
 rw[<-s1 e]
 by_cases ebc:b=c
 . rw[if_pos ebc,<-ebc]
   cases e with
   |zero=>simp
   |succ e=>
     rw[YGZ,YGC,Nat.mul_dvd_mul_iff_left (by omega),s2 e]
     omega
 . rw[if_neg ebc,YHw,<-s2 e]
   have hg:YHO b c=1:=by
     obtain⟨i,hi,rfl⟩:=List.mem_iff_getElem.1 hb
     obtain⟨j,hj,rfl⟩:=List.mem_iff_getElem.1 hcm
     rcases Nat.lt_trichotomy i j with h|h|h
     . exact List.pairwise_iff_getElem.1 hc i j hi hj h
     . subst h;exact absurd rfl ebc
     . rw[Nat.gcd_comm];exact List.pairwise_iff_getElem.1 hc j i hj hi h
   exact⟨fun h=>Nat.Coprime.dvd_of_dvd_mul_left (Nat.Coprime.pow_left e hg) h,fun h=>Nat.dvd_trans h (Nat.dvd_mul_left _ _)⟩
def PV(e:Nat->Nat):List Nat->Nat
 | []=>1
 |b::r=>b^e b*PV e r
theorem Ya1{e e':Nat->Nat}:∀{r:List Nat},(∀b,b∈r->e b=e' b)->PV e r=PV e' r
 | [],_=>rfl
 |b::r,h=>by rw[PV,PV,h b (YGI ..),Ya1 fun x hx=>h x (YGK _ hx)]
theorem YgS:∀(r:List Nat),PV (fun _=>0) r=1
 | []=>rfl
 |b::r=>by rw[PV,YgS r];rfl
theorem YmX(e e':Nat->Nat):∀(r:List Nat),PV (fun b=>e b+e' b) r=PV e r*PV e' r
 | []=>rfl
 |b::r=>by rw[PV,PV,PV,YmX e e' r,YGJ,Nat.mul_mul_mul_comm]
theorem Ypi(e:Nat->Nat)(k:Nat):∀(r:List Nat),PV (fun b=>e b*k) r=PV e r^k
 | []=>by simp [PV]
 |b::r=>by rw[PV,PV,Ypi e k r,YHj,Nat.mul_pow]
theorem YvY{c:Nat}:∀{r:List Nat},Cop r->(∀x,x∈r->2<=x)->c∈r->PV (fun b=>if b=c then 1 else 0) r=c
 |b::r,hc,h2,hm=>by
   obtain⟨g1,g2⟩:=List.pairwise_cons.1 hc
   have hb2:=h2 b (YGI ..)
   rw[PV]
   by_cases e:b=c
   . subst e
     rw[if_pos rfl,Nat.pow_one]
     have:PV (fun x=>if x=b then 1 else 0) r=PV (fun _=>0) r:=Ya1 fun x hx=>by
       refine if_neg fun hh=>?_
       have:=g1 x hx
       rw[hh,Nat.gcd_self]at this
       omega
     rw[this,YgS,Nat.mul_one]
   . rw[if_neg e,Nat.pow_zero,YHz]
     refine YvY g2 (fun x hx=>h2 x (YGK _ hx)) ?_
     rcases YGQ.1 hm with h|h
     . exact absurd h.symm e
     . exact h
theorem PV_is{r:List Nat}(hc:Cop r)(h2:∀x,x∈r->2<=x){y:Nat}(hy:Spn r y):1<=y/\(y<2^64->PV (fun b=>vl 64 b y) r=y):=by
 induction hy with
 |one=>
   refine⟨YGH _,fun _=>?_⟩
   rw[Ya1 (e':=fun _=>0) fun b hb=>?_,YgS]
   have hb2:=h2 b hb
   rw[vl,if_neg (by rw[YHb (by omega)];decide)]
 | @mul x y hx _ ih=>
   obtain⟨i1,i2⟩:=ih
   have hx2:=h2 x hx
   refine⟨YHP (by omega) i1,fun hlt=>?_⟩
   rw[Ya1 fun b hb=>YGm hc h2 hb hx i1 hlt,YmX,YvY hc h2 hx,i2 (YGU (Nat.le_mul_of_pos_left _ (by omega)) hlt),YGC]
theorem Yyp{b:Nat}(hb:2<=b)(hbl:b<=1099511627776){num:Int}(hn: -1000000000<=num/\num<=1000000000):∀(f x:Nat)(s:Int),x<4611686018427387904->f<=64-> -1000000000000000+f*1000000000<=s->s<=1000000000000000-f*1000000000->
   divL f (b:Int) (x:Int) num s=s+num*(vl f b x:Nat):=
 by
 intro f
 induction f with
 |zero=>intro x s _ _ _ _;simp [divL,vl]
 |succ f ih=>
   intro x s hx hf h1 h2
   rw[divL,vl]
   have e1:(x:Int).tmod (b:Int)=((x%b:Nat):Int):=rfl
   have e2:(x:Int).tdiv (b:Int)=((x/b:Nat):Int):=rfl
   rw[e1,e2]
   by_cases c:x%b=0
   . have hq:x/b<=x:=YHr _ _
     rw[if_pos (by omega),if_pos c]
     generalize x/b=q at*
     rw[YGy _ (by omega),YGy (s+num) (by omega),ih q (s+num) (by omega) (by omega) (by omega) (by omega),Int.natCast_add,Int.mul_add]
     simp only[Int.natCast_one,Int.mul_one]
     omega
   . rw[if_neg (by omega),if_neg c];simp
theorem YsM{b:Nat}(hb:2<=b)(hbl:b<=1099511627776):∀(l:List (Int×Int))(s:Int),(∀x,x∈l->okT x)->l.length<=100-> -1000000000000000+(l.length+1)*64000000000<=s->s<=1000000000000000-(l.length+1)*64000000000->
   l.foldl (fun s x=>divL 64 b x.1 x.2 s) s=s+(upS (vl 64 b) l:Nat)-(dnS (vl 64 b) l:Nat):=
 by
 intro l
 induction l with
 |nil=>intro s _ _ _ _;simp [upS,dnS]
 |cons x l ihl=>
   intro s hl hn h1 h2
   have hx:=hl x (YGI ..)
   obtain⟨n1,n2,n3⟩:=Ydm hx
   obtain⟨_,_,x3,x4⟩:=hx
   rw[YHF]at hn h1 h2
   have hv:vl 64 b x.1.toNat<=64:=by
     have key:∀f y,vl f b y<=f:=fun f=>by
       induction f with
       |zero=>intro y;exact YGH _
       |succ f ih=>
         intro y
         rw[vl]
         split
         . have:=ih (y/b);omega
         . omega
     exact key 64 _
   have hd:divL 64 (b:Int) x.1 x.2 s=s+x.2*(vl 64 b x.1.toNat:Nat):=by
     conv=>lhs;rw[n3]
     exact Yyp hb hbl ⟨x3,x4⟩ 64 _ s n2 (by decide) (by omega) (by omega)
   have hb1:x.2*(vl 64 b x.1.toNat:Nat)<=1000000000*64:=by
     refine Int.le_trans (YGS x4 (by omega)) ?_
     exact Int.mul_le_mul_of_nonneg_left (by omega) (by decide)
   have hb2: -1000000000*64<=x.2*(vl 64 b x.1.toNat:Nat):=by
     refine Int.le_trans ?_ (YGS x3 (by omega))
     omega
   rw[List.foldl_cons,hd,ihl _ (fun y hy=>hl y (YGK _ hy)) (by omega) (by omega) (by omega),upS,dnS]
   by_cases c:x.2<0
   . rw[if_pos c,if_pos c]
     have:x.2*(vl 64 b x.1.toNat:Nat)= -((vl 64 b x.1.toNat*(-x.2).toNat:Nat):Int):=by
       rw[Int.natCast_mul,show(((-x.2).toNat:Nat):Int)= -x.2 by omega,Int.mul_neg,Int.neg_neg,Int.mul_comm]
     rw[this];omega
   . rw[if_neg c,if_neg c]
     have:x.2*(vl 64 b x.1.toNat:Nat)=((vl 64 b x.1.toNat*x.2.toNat:Nat):Int):=by
       rw[Int.natCast_mul,show((x.2.toNat:Nat):Int)=x.2 by omega,Int.mul_comm]
     rw[this];omega
theorem P_is{r:List Nat}(hc:Cop r)(h2:∀x,x∈r->2<=x):∀(l:List (Int×Int)),(∀x,x∈l->okT x/\Spn r x.1.toNat)->
   upP l=PV (fun b=>upS (vl 64 b) l) r/\dnP l=PV (fun b=>dnS (vl 64 b) l) r
 | [],_=>by
   constructor
   . exact(YgS r).symm
   . exact(YgS r).symm
 |x::l,hl=>by
   obtain⟨i1,i2⟩:=P_is hc h2 l fun y hy=>hl y (YGK _ hy)
   obtain⟨hx,hs⟩:=hl x (YGI ..)
   obtain⟨n1,n2,n3⟩:=Ydm hx
   have e:=(PV_is hc h2 hs).2 (by omega)
   rw[upP,dnP,i1,i2]
   by_cases c:x.2<0
   . rw[if_pos c,if_pos c]
     constructor
     . rw[YHz]
       exact Ya1 fun b _=>by rw[upS,if_pos c,YHC]
     . have:∀b,dnS (vl 64 b) (x::l)=vl 64 b x.1.toNat*(-x.2).toNat+dnS (vl 64 b) l:=fun b=>by rw[dnS,if_pos c]
       rw[Ya1 fun b _=>this b,YmX,Ypi,e]
   . rw[if_neg c,if_neg c]
     constructor
     . have:∀b,upS (vl 64 b) (x::l)=vl 64 b x.1.toNat*x.2.toNat+upS (vl 64 b) l:=fun b=>by rw[upS,if_neg c]
       rw[Ya1 fun b _=>this b,YmX,Ypi,e]
     . rw[YHz]
       exact Ya1 fun b _=>by rw[dnS,if_neg c,YHC]
theorem Ylk{l:List (Int×Int)}(hl:∀x,x∈l->okT x)(hn:l.length<=20)(h:oneF l=true):upP l=dnP l:=by
 obtain⟨hc,hs⟩:=Yuq hl hn
 have hr:=YkD hl hn
 obtain⟨e1,e2⟩:=P_is hc (fun x hx=>(hr x hx).1) l fun x hx=>⟨hl x hx,hs x hx⟩
 rw[e1,e2]
 refine Ya1 fun b hb=>?_
 have hb2:=hr b hb
 have h0:=of_decide_eq_true (List.all_eq_true.1 h b hb)
 unfold sumB at h0
 rw[YsM hb2.1 hb2.2 l 0 hl (by omega) (by omega) (by omega)]at h0
 omega
def Und(l:List (Int×Int))(p:Nat):Prop:=upS (fun n=>(lN n p).1) l<=dnS (fun n=>(lN n p).2) l/\dnS (fun n=>(lN n p).1) l<=upS (fun n=>(lN n p).2) l
theorem YrB{a b K:Nat}(h:a^K<b^K):a<b:=by
 refine Nat.lt_of_not_le fun hh=>?_
 have:=YHk hh K
 omega
theorem YbB{a b x y K:Nat}(ha:a^K<=2^x)(hb:2^y<=b^K)(h:x<y):a<b:=by
 refine YrB (K:=K) ?_
 have:(2:Nat)^x<2^y:=(Nat.pow_lt_pow_iff_right (by decide)).2 h
 omega
theorem YmC{l:List (Int×Int)}(hl:∀x,x∈l->okT x)(hn:l.length<=20):∀(f p:Nat),1<=f->1<=p->p*2^f=4096->
   (Ydz f l p=1->dnP l<upP l)/\(Ydz f l p= -1->upP l<dnP l)/\(Ydz f l p=0->Und l 2048)/\(Ydz f l p=1\/Ydz f l p= -1\/Ydz f l p=0):=by
 intro f
 induction f with
 |zero=>intro p h;omega
 |succ f ih=>
   intro p _ hp1 hp
   have h1:=YF f
   rw[YGZ]at hp
   have hp2:p<=2048:=by
     have:p*2<=p*(2^f*2):=YGO _ (by omega)
     omega
   have hs:=YAw (p:=p) hp2 hl (by omega)
   obtain⟨⟨a1,a2⟩,b1,b2⟩:=Ycz (K:=2^p) (g:=fun n=>(lN n p).1) (h:=fun n=>(lN n p).2) (fun n k1 k2=>YgF k1 k2) l hl
   rw[Ydz,hs]
   dsimp only
   by_cases c1:dnS (fun n=>(lN n p).2) l<upS (fun n=>(lN n p).1) l
   . rw[if_pos c1]
     exact⟨fun _=>YbB b2 a1 c1,fun h=>absurd h (by decide),fun h=>absurd h (by decide),Or.inl rfl⟩
   . rw[if_neg c1]
     by_cases c2:upS (fun n=>(lN n p).2) l<dnS (fun n=>(lN n p).1) l
     . rw[if_pos c2]
       exact⟨fun h=>absurd h (by decide),fun _=>YbB a2 b1 c2,fun h=>absurd h (by decide),YHT (Or.inl rfl)⟩
     . rw[if_neg c2]
       rcases YG7 f with h0|h0
       . subst h0
         have e:p=2048:=by rw[Nat.pow_zero]at hp;omega
         subst e
         exact⟨fun h=>absurd h (by rw[Ydz];decide),fun h=>absurd h (by rw[Ydz];decide),fun _=>⟨by omega,by omega⟩,YHT (YHT rfl)⟩
       . exact ih (2*p) h0 (by omega) (by rw[<-hp,YGC 2 p,YGE,YGC 2])
theorem Yo0{l:List (Int×Int)}(hl:∀x,x∈l->okT x)(hn:l.length<=20):
   (Yf2 l=1->dnP l<upP l)/\(Yf2 l= -1->upP l<dnP l)/\(Yf2 l=0->oneF l=true\/Und l 2048)/\(Yf2 l=1\/Yf2 l= -1\/Yf2 l=0):=by
 have hg:=YuI hl (by omega)
 obtain⟨⟨a1,a2⟩,b1,b2⟩:=Ycz (K:=2^28) (g:=fun n=>(qN n).1) (h:=fun n=>(qN n).2) (fun n k1 k2=>Yn7 k1 k2) l hl
 unfold Yf2
 by_cases c1:dnS (fun n=>(qN n).2) l<upS (fun n=>(qN n).1) l
 . rw[if_pos c1]at hg
   rw[hg,if_pos rfl]
   exact⟨fun _=>YbB b2 a1 c1,fun h=>absurd h (by decide),fun h=>absurd h (by decide),Or.inl rfl⟩
 . rw[if_neg c1]at hg
   by_cases c2:upS (fun n=>(qN n).2) l<dnS (fun n=>(qN n).1) l
   . rw[if_pos c2]at hg
     rw[hg,if_pos rfl]
     exact⟨fun h=>absurd h (by decide),fun _=>YbB a2 b1 c2,fun h=>absurd h (by decide),YHT (Or.inl rfl)⟩
   . rw[if_neg c2]at hg
     rw[hg,if_neg (by decide)]
     by_cases c3:oneF l=true
     . rw[if_pos c3]
       exact⟨fun h=>absurd h (by decide),fun h=>absurd h (by decide),fun _=>Or.inl c3,YHT (YHT rfl)⟩
     . rw[if_neg c3]
       obtain⟨k1,k2,k3,k4⟩:=YmC hl hn 6 64 (by decide) (by decide) (by decide)
       exact⟨k1,k2,fun h=>YHT (k3 h),k4⟩
theorem YxG{g h w:Nat->Nat}{c:Nat}:∀(l:List (Int×Int)),(∀x,x∈l->h x.1.toNat<=g x.1.toNat+w x.1.toNat*c)->upS h l<=upS g l+upS w l*c/\dnS h l<=dnS g l+dnS w l*c
 | [],_=>by simp [upS,dnS]
 |x::l,H=>by
   obtain⟨i1,i2⟩:=YxG l fun y hy=>H y (YGK _ hy)
   have hx:=H x (YGI ..)
   have key:∀e:Nat,h x.1.toNat*e<=g x.1.toNat*e+w x.1.toNat*e*c:=fun e=>by
     have h1:=YGD e hx
     rw[YG8]at h1
     rw[YGE (w x.1.toNat),YGC e c,<-YGE]
     exact h1
   rw[upS,upS,upS,dnS,dnS,dnS,YG8,YG8]
   constructor
   . split
     . rw[Nat.zero_mul];omega
     . have:=key x.2.toNat;omega
   . split
     . have:=key (-x.2).toNat;omega
     . rw[Nat.zero_mul];omega
theorem YvP{l:List (Int×Int)}{J:Nat}{w:Nat->Nat}(hJ:J<=2048)(hl:∀x,x∈l->okT x)(hw:∀x,x∈l->(lN x.1.toNat 2048).2<=(lN x.1.toNat 2048).1+w x.1.toNat*2^(2048-J))(h:Und l 2048):
   dnP l^(2^J)<=upP l^(2^J)*2^(upS w l+dnS w l):=by
 obtain⟨⟨a1,a2⟩,b1,b2⟩:=Ycz (K:=2^2048) (g:=fun n=>(lN n 2048).1) (h:=fun n=>(lN n 2048).2) (fun n k1 k2=>YgF k1 k2) l hl
 obtain⟨s1,s2⟩:=YxG (g:=fun n=>(lN n 2048).1) (h:=fun n=>(lN n 2048).2) (w:=w) (c:=2^(2048-J)) l hw
 obtain⟨_,h2⟩:=h
 obtain⟨c,hc⟩:∃c,c=2^(2048-J):=⟨_,rfl⟩
 obtain⟨K,hK⟩:∃K,K=(2:Nat)^2048:=⟨_,rfl⟩
 have hc0:c≠0:=by rw[hc];have:=YF (2048-J);omega
 have hKc:K=2^J*c:=by rw[hK,hc,<-YGJ];congr 1;omega
 rw[<-hc]at s1 s2
 rw[<-hK]at a1 a2 b1 b2
 rw[<-Nat.pow_le_pow_iff_left hc0,Nat.mul_pow,<-YHj,<-YHj,<-hKc,<-YHj,YG8]
 refine YGF b2 ?_
 refine YGF (YGG (by decide) (show _<=upS (fun n=>(lN n 2048).1) l+(upS w l*c+dnS w l*c)by omega)) ?_
 rw[YGJ]
 exact YGD _ a1
theorem bern(Q:Nat):∀n,Q^n*(Q+n)<=Q*(Q+1)^n
 |0=>by simp
 |n+1=>by
   have ih:=bern Q n
   have h1:Q^(n+1)*(Q+(n+1))=Q*(Q^n*(Q+n))+Q*Q^n:=by
     rw[YGZ,<-Nat.add_assoc,YHy,Nat.mul_one,YGC (Q^n) Q,YGE]
   have h2:Q*(Q+1)^(n+1)=Q*(Q*(Q+1)^n)+Q*(Q+1)^n:=by
     rw[YGZ,YHy,Nat.mul_one,YHy,YGC ((Q+1)^n) Q]
   have h3:=YGO Q (YHk (show Q<=Q+1 by omega) n)
   have h4:=YGO Q ih
   omega
theorem YFc(Q:Nat)(hQ:0<Q):2*Q^Q<=(Q+1)^Q:=by
 have:=bern Q Q
 refine Nat.le_of_mul_le_mul_left (c:=Q) ?_ hQ
 have e:Q*(2*Q^Q)=Q^Q*(Q+Q):=by rw[YHy,Nat.two_mul,YHy,YGC Q]
 omega
theorem YlO{D U E Q:Nat}(hQ:0<Q)(h:D^Q<=U^Q*2^E):D*Q^E<=U*(Q+1)^E:=by
 have h2:=YHk (YFc Q hQ) E
 rw[Nat.mul_pow]at h2
 rw[<-Nat.pow_le_pow_iff_left (show Q≠0 by omega),Nat.mul_pow,Nat.mul_pow,<-YHj,<-YHj,YGC E Q,YHj,YHj]
 refine YGF (YGD _ h) ?_
 rw[YGE]
 exact YGO _ h2
def Near(M W J N m:Nat):Prop:=2^m*M<=N^(2^J)*M+2^m*W/\N^(2^J)*M<=2^m*(M+W)
theorem Near.mono{M W W' J N m:Nat}(h:Near M W J N m)(hw:W<=W'):Near M W' J N m:=by
 obtain⟨h1,h2⟩:=h
 have k1:=YGO (2^m) hw
 have k2:=YGO (2^m) (show M+W<=M+W' by omega)
 exact⟨by omega,by omega⟩
theorem Near.sq{M W J N m:Nat}(hM:0<M)(hW:W<=M)(h:Near M W J N m):Near M (3*W) (J+1) N (2*m):=by
 obtain⟨h1,h2⟩:=h
 unfold Near
 have e0:N^2^(J+1)=N^2^J*N^2^J:=by rw[YGZ,YHj,Nat.pow_two]
 rw[e0,Ydr]
 generalize N^2^J=X at*
 generalize 2^m=P at*
 constructor
 . refine Nat.le_of_mul_le_mul_right (c:=M) ?_ hM
   have k1:P*(M-W)<=X*M:=by rw[Nat.mul_sub];omega
   have k2:=YGX k1 k1
   obtain⟨V,hV⟩:∃V,V=M-W:=⟨_,rfl⟩
   have hM2:M=V+W:=by omega
   rw[<-hV]at k2
   have e1:P*V*(P*V)=P*P*(V*V):=by simp only[YGE,YHc]
   have e2:(X*M)*(X*M)=X*X*M*M:=by simp only[YGE,YHc]
   have e3:P*P*M*M=P*P*(M*M):=by simp only[YGE]
   have e4:(X*X*M+P*P*(3*W))*M=X*X*M*M+P*P*(3*W*M):=by rw[YG8,YGE (P*P)]
   have e5:M*M<=V*V+3*W*M:=by
     rw[hM2,YG8,YHy,YHy,YHy]
     have:W*V=V*W:=YGC ..
     have h3:3*W*V=3*(W*V):=YGE ..
     have h4:3*W*W=3*(W*W):=YGE ..
     omega
   have e6:=YGO (P*P) e5
   rw[YHy]at e6
   omega
 . refine Nat.le_of_mul_le_mul_right (c:=M) ?_ hM
   have k2:=YGX h2 h2
   have e1:P*(M+W)*(P*(M+W))=P*P*((M+W)*(M+W)):=by simp only[YGE,YHc]
   have e2:(X*M)*(X*M)=X*X*M*M:=by simp only[YGE,YHc]
   have e3:P*P*(M+3*W)*M=P*P*((M+3*W)*M):=by simp only[YGE]
   have e5:(M+W)*(M+W)<=(M+3*W)*M:=by
     rw[YG8,YHy,YHy,YG8]
     have h3:3*W*M=3*(W*M):=YGE ..
     have h4:M*W=W*M:=YGC ..
     have h5:=YGO W hW
     omega
   have e6:=YGO (P*P) e5
   omega
theorem YyK(M:Nat)(hM:0<M):∀(J f A B S N w:Nat),J<=f->2^S*A<=N*M->N*M<=2^S*B->M<=A->A<=B->B<=2*M->B<=A+w->
   (gl M false f A B S).2<=(gl M false f A B S).1+2^(f-J)\/∃j m,j<=J/\Near M (4^j*(w+2)) j N m:=by
 intro J
 induction J with
 |zero=>
   intro f A B S N w _ _ _ _ _ _ _
   obtain⟨h1,h2⟩:=YeZ M false f A B S
   rw[YG8,YHz]at h2
   left
   rw[Nat.sub_zero]
   omega
 |succ J ih=>
   intro f A B S N w hf h1 h2 ha hab hb hw
   obtain⟨f,rfl⟩:∃g,f=g+1:=⟨f-1,by omega⟩
   have hA:A*A/M*M<=A*A:=Nat.div_mul_le_self _ _
   have hA':A*A<(A*A/M+1)*M:=by
     have:=YG3 (A*A) M
     have h3:=YG0 (A*A) hM
     rw[YG8,YHz,YGC (A*A/M)];omega
   have hB:B*B<=cdiv (B*B) M*M:=Ybo _ _ hM
   have k1:=YwH hM h1 hA
   have k2:=YsH hM h2 hB
   have hA1:M<=A*A/M:=(YHg hM).2 (YGX ha ha)
   have hAB:A*A/M<=cdiv (B*B) M:=YdH (YGX hab hab)
   have hB1:cdiv (B*B) M<=4*M:=YaB (by
     have:=YGX hb hb
     have e:4*M*M=2*M*(2*M):=by rw[Nat.mul_mul_mul_comm,YGE]
     omega)
   have hW:cdiv (B*B) M<=A*A/M+(4*w+2):=YaB (by
     obtain⟨v,rfl⟩:∃v,B=A+v:=⟨B-A,by omega⟩
     have e:(A+v)*(A+v)=A*A+v*(A+(A+v)):=by
       rw[YHy,YG8 A v A,YHy v A,YGC (A+v) v]
       omega
     have e2:v*(A+(A+v))<=w*(4*M):=YGX (by omega) (by omega)
     have e3:(A*A/M+(4*w+2))*M=(A*A/M+1)*M+w*(4*M)+M:=by
       rw[YG8,YG8,YG8]
       have:4*w*M=w*(4*M):=by rw[YGC 4 w,YGE]
       omega
     omega)
   have lift:∀{j w':Nat},w'+2<=4*(w+2)->∀{m},j<=J->Near M (4^j*(w'+2)) j (N*N) m->∃j m,j<=J+1/\Near M (4^j*(w+2)) j N m:=fun {j w'} hw' {m} hj hn=>by
     refine⟨j+1,m,by omega,?_⟩
     have hm:4^j*(w'+2)<=4^(j+1)*(w+2):=by
       rw[YGZ,YGE]
       exact YGO _ hw'
     have:=hn.mono hm
     unfold Near at this⊢
     rw[YrT]
     exact this
   rw[gl,Nat.add_sub_add_right]
   split
   . split
     . have:=ih f (A*A/M) (cdiv (B*B) M) (2*S) (N*N) (4*w+2) (by omega) (by rw[Ydr];exact k1) (by rw[Ydr];exact k2) hA1 hAB (by omega) hW
       rcases this with h| ⟨j,m,hj,hn⟩
       . exact Or.inl h
       . exact YHT (lift (by omega) hj hn)
     . right
       refine⟨1,2*S+1,by omega,?_⟩
       unfold Near
       rw[Nat.pow_one,Nat.pow_two,Nat.pow_one,YGZ,Ydr]
       have g1:2^S*2^S*(2*M)<=2^S*2^S*(A*A/M+(4*w+2)):=YGO _ (by omega)
       have g2:2^S*2^S*cdiv (B*B) M<=2^S*2^S*(2*M+(4*w+2)):=YGO _ (by omega)
       generalize 2^S*2^S=P at*
       rw[YHy]at g1 g2
       have e1:P*2*M=P*(2*M):=YGE ..
       have e2:P*2*(4*(w+2))=P*(4*w+2)+P*(4*w+14):=by rw[YGE,<-YHy];congr 1;omega
       have e3:P*2*(M+4*(w+2))=P*(2*M)+(P*(4*w+2)+P*(4*w+14)):=by rw[YHy,e1,e2]
       exact⟨by omega,by omega⟩
   . rw[if_neg (by simp)]
     have c1:A*A/M/2*2<=A*A/M:=Nat.div_mul_le_self _ _
     have c2:cdiv (B*B) M<=cdiv (cdiv (B*B) M) 2*2:=Ybo _ _ (by decide)
     have e3:∀x,2^(2*S+1)*x=2^S*2^S*(x*2):=fun x=>by rw[YGZ,Ydr,YGE,YGC 2 x]
     have:=ih f (A*A/M/2) (cdiv (cdiv (B*B) M) 2) (2*S+1) (N*N) (2*w+2) (by omega) (by rw[e3];exact YGF (YGO _ c1) k1) (by rw[e3];exact YGF k2 (YGO _ c2)) (by omega) (YdH hAB) (YaB (by omega)) (YaB (by omega))
     rcases this with h| ⟨j,m,hj,hn⟩
     . exact Or.inl h
     . exact YHT (lift (by omega) hj hn)
theorem Near.up{M N:Nat}(hM:0<M):∀(d j W m:Nat),4^d*W<=M->Near M W j N m->∃m',Near M (4^d*W) (j+d) N m'
 |0,j,W,m,_,h=>⟨m,by rw[Nat.pow_zero,YHz];exact h⟩
 |d+1,j,W,m,hW,h=>by
   have e:4^(d+1)*W=4*(4^d*W):=by rw[YGZ,YGC (4^d) 4,YGE]
   rw[e]at hW
   obtain⟨m',h'⟩:=Near.up hM d j W m (by omega) h
   exact⟨2*m',by rw[e];exact(Near.sq hM (by omega) h').mono (by omega)⟩
def YH(J n:Nat):Prop:=(lN n 2048).2<=(lN n 2048).1+2^(2048-J)
theorem YrI{n J:Nat}(h1:1<=n)(h2:n<4611686018427387904)(hJ:J<=500):YH J n\/(Yco (n:Int)=false/\∃m,Near (2^4160) (2^2160) J n m):=by
 unfold YH lN
 by_cases c:Yco (n:Int)=true
 . rw[if_pos c]
   left;exact Nat.le_add_right _ _
 . rw[if_neg c]
   have hk:lgK n<62:=Yd8 (by decide) h2
   obtain⟨m1,m2,m3⟩:=mant (D:=2*2048+64) h1 (by omega)
   rw[show 2*2048+64=4160 from rfl]at*
   have hM:=YF 4160
   have:=YyK (2^4160) hM J 2048 _ _ (lgK n) n 0 (by omega) (YHM m3) (YHM m3.symm) m1 (YGH _) (YHp m2) (by omega)
   rcases this with h| ⟨j,m,hj,hn⟩
   . exact Or.inl h
   . right
     have e4:∀a,(4:Nat)^a=2^(2*a):=fun a=>by rw[show 4=2^2 from rfl,<-YHj]
     have hle:∀e,1001<=e->4^(J-j)*(4^j*(0+2))<=2^e:=fun e he=>by
       rw[<-YGE,<-YGJ,show J-j+j=J by omega,e4,show 0+2=2^1 from rfl,<-YGJ]
       exact YGG (by decide) (by omega)
     obtain⟨m',h'⟩:=Near.up hM (J-j) j _ m (hle 4160 (by decide)) hn
     rw[show j+(J-j)=J by omega]at h'
     exact⟨by simpa using c,m',h'.mono (hle 2160 (by decide))⟩
def Rt(R J x y m:Nat):Prop:=x^(2^J)<=2^m*R^(2^J)/\2^m*R^(2^J)<=y^(2^J)
theorem Rt.next{R J x y m c d:Nat}(hR:0<R)(h:Rt R J x y m)(hc:Rt R J c d 1):Rt R J (x*c/R) (y*d/R+1) (m+1):=by
 obtain⟨h1,h2⟩:=h
 obtain⟨c1,c2⟩:=hc
 rw[Nat.pow_one]at c1 c2
 unfold Rt
 generalize 2^J=Q at*
 have hRQ:0<R^Q:=Nat.pow_pos hR
 rw[YGZ]
 generalize 2^m=P at*
 constructor
 . refine Nat.le_of_mul_le_mul_right (c:=R^Q) ?_ hRQ
   have k1:(x*c/R*R)^Q<=(x*c)^Q:=YHk (Nat.div_mul_le_self _ _) _
   rw[Nat.mul_pow,Nat.mul_pow]at k1
   have k2:=YGX h1 c1
   have e:P*R^Q*(2*R^Q)=P*2*R^Q*R^Q:=by simp only[YGE,YHc]
   omega
 . refine Nat.le_of_mul_le_mul_right (c:=R^Q) ?_ hRQ
   have k0:y*d<=(y*d/R+1)*R:=by
     have:=YG3 (y*d) R
     have h3:=YG0 (y*d) hR
     rw[YG8,YHz,YGC (y*d/R)];omega
   have k1:(y*d)^Q<=((y*d/R+1)*R)^Q:=YHk k0 _
   rw[Nat.mul_pow,Nat.mul_pow]at k1
   have k2:=YGX h2 c2
   have e:P*R^Q*(2*R^Q)=P*2*R^Q*R^Q:=by simp only[YGE,YHc]
   omega
theorem YD9{a b:Nat}(h:2+a<=b):4*(2:Nat)^a<=2^b:=by
 rw[show(4:Nat)=2^2 from rfl,<-YGJ];exact YGG (by decide) h
theorem Rt.up{R J x y m:Nat}(d:Nat)(h:Rt R J x y m):Rt R (J+d) x y (m*2^d):=by
 obtain⟨h1,h2⟩:=h
 unfold Rt
 have k1:=YHk h1 (2^d)
 have k2:=YHk h2 (2^d)
 rw[Nat.mul_pow,<-YHj,<-YHj,<-YHj,<-YGJ]at k1 k2
 exact⟨k1,k2⟩
theorem Rt.le{R J x y m B:Nat}(h:Rt R J x y m)(hm:m<=B*2^J):x<=2^B*R:=by
 have hQ:=YF J
 rw[<-Nat.pow_le_pow_iff_left (show 2^J≠0 by omega),Nat.mul_pow,<-YHj]
 exact YGF h.1 (YGD _ (YGG (by decide) hm))
def sq(n:Nat)(f:Nat->Bool):Bool:=Nat.rec (f 0) (fun k _=>f (Nat.succ k)) n
theorem gl_w0(M:Nat)(t:Bool)(f A B S:Nat):(gl M t f A B S).2<=(gl M t f A B S).1+2^(f-0):=by
 obtain⟨g1,g2⟩:=YeZ M t f A B S
 rw[YG8,YHz]at g2
 rw[Nat.sub_zero]
 omega
theorem YrH(p n:Nat):(lN n p).2<=(lN n p).1+2^(p-0):=by
 unfold lN
 split
 . exact Nat.le_add_right _ _
 . exact gl_w0 _ _ _ _ _ _
theorem YgG(n:Nat):YH 0 n:=YrH 2048 n
theorem Yu7{J J' n:Nat}(h:YH J n)(h1:J<=J')(h2:J'<=2048):(lN n 2048).2<=(lN n 2048).1+2^(J'-J)*2^(2048-J'):=by
 rw[<-YGJ,show J'-J+(2048-J')=2048-J by omega]
 exact h
theorem Yk3:∀q,q<62->Yco ((2^q:Nat):Int)=true:=by decide
def spL(N k:Nat):List (Int×Int):=[((N:Int),1),(273150, -1),(331300000,2),((k:Int), -2)]
theorem YmH(N k:Nat):upP (spL N k)=N*331300000^2:=by
 simp [upP,spL]
theorem YmG(N k:Nat):dnP (spL N k)=273150*k^2:=by
 simp [dnP,spL]
theorem YAn{N k:Nat}(hN:1<=N/\N<=1000000000000)(hk:1<=k/\k<=1000000000001):∀x,x∈spL N k->okT x:=by
 intro x hx
 simp only[spL,YGQ,List.not_mem_nil,or_false]at hx
 unfold okT
 rcases hx with rfl|rfl|rfl|rfl <;> simp only <;> omega
def wtA(_:Nat):Nat:=1
theorem YAm(N k:Nat):upS wtA (spL N k)+dnS wtA (spL N k)=6:=rfl
theorem Ys1{J N k:Nat}(h1:YH J N)(h2:YH J 273150)(h3:YH J 331300000)(h4:YH J k):∀x,x∈spL N k->(lN x.1.toNat 2048).2<=(lN x.1.toNat 2048).1+wtA x.1.toNat*2^(2048-J):=by
 intro x hx
 unfold wtA
 rw[YHz]
 simp only[spL,YGQ,List.not_mem_nil,or_false]at hx
 rcases hx with rfl|rfl|rfl|rfl
 . exact h1
 . exact h2
 . exact h3
 . exact h4
def Dec(l:List (Int×Int)):Prop:=upP l=dnP l\/¬Und l 2048
theorem YmQ{l:List (Int×Int)}{J:Nat}{w:Nat->Nat}(hJ:J<=2048)(hl:∀x,x∈l->okT x)(hw:∀x,x∈l->(lN x.1.toNat 2048).2<=(lN x.1.toNat 2048).1+w x.1.toNat*2^(2048-J))(h:Und l 2048):
   upP l^(2^J)<=dnP l^(2^J)*2^(upS w l+dnS w l):=by
 obtain⟨⟨a1,a2⟩,b1,b2⟩:=Ycz (K:=2^2048) (g:=fun n=>(lN n 2048).1) (h:=fun n=>(lN n 2048).2) (fun n k1 k2=>YgF k1 k2) l hl
 obtain⟨s1,s2⟩:=YxG (g:=fun n=>(lN n 2048).1) (h:=fun n=>(lN n 2048).2) (w:=w) (c:=2^(2048-J)) l hw
 obtain⟨h1,_⟩:=h
 obtain⟨c,hc⟩:∃c,c=2^(2048-J):=⟨_,rfl⟩
 obtain⟨K,hK⟩:∃K,K=(2:Nat)^2048:=⟨_,rfl⟩
 have hc0:c≠0:=by rw[hc];have:=YF (2048-J);omega
 have hKc:K=2^J*c:=by rw[hK,hc,<-YGJ];congr 1;omega
 rw[<-hc]at s1 s2
 rw[<-hK]at a1 a2 b1 b2
 rw[<-Nat.pow_le_pow_iff_left hc0,Nat.mul_pow,<-YHj,<-YHj,<-hKc,<-YHj,YG8]
 refine YGF a2 ?_
 refine YGF (YGG (by decide) (show _<=dnS (fun n=>(lN n 2048).1) l+(upS w l*c+dnS w l*c)by omega)) ?_
 rw[YGJ]
 exact YGD _ b1
theorem YvC{l:List (Int×Int)}(hl:∀x,x∈l->okT x)(hn:l.length<=20)(h:Dec l):0<=Yf2 l↔dnP l<=upP l:=by
 obtain⟨h1,h2,h3,h4⟩:=Yo0 hl hn
 rcases h4 with h4|h4|h4
 . have:=h1 h4;omega
 . have:=h2 h4;omega
 . have h5:=h3 h4
   rcases h with h|h
   . omega
   . rcases h5 with h5|h5
     . have:=Ylk hl hn h5;omega
     . exact absurd h5 h
def PthG(P:Nat->Prop)(t:Nat->Bool):Nat->Nat->Nat->Prop
 |0,a,b=>b<=a+1
 |f+1,a,b=>b<=a+1\/(P ((a+b)/2)/\if t ((a+b)/2)=true then PthG P t f ((a+b)/2) b else PthG P t f a ((a+b)/2))
def bisN(t:Nat->Bool):Nat->Nat->Nat->Nat
 |0,a,_=>a
 |f+1,a,b=>if b<=a+1 then a else if t ((a+b)/2)=true then bisN t f ((a+b)/2) b else bisN t f a ((a+b)/2)
theorem YeQ{P:Nat->Prop}{t:Nat->Bool}:∀(f a b:Nat),a<b->PthG P t f a b->
   (bisN t f a b=a\/(P (bisN t f a b)/\t (bisN t f a b)=true))/\(bisN t f a b+1=b\/t (bisN t f a b+1)=false)/\a<=bisN t f a b/\bisN t f a b<b
 |0,a,b,h,hp=>by
   have hp:b<=a+1:=hp
   rw[bisN]
   exact⟨Or.inl rfl,Or.inl (by omega),YGH _,h⟩
 |f+1,a,b,h,hp=>by
   rw[bisN]
   by_cases c:b<=a+1
   . rw[if_pos c]
     exact⟨Or.inl rfl,Or.inl (by omega),YGH _,h⟩
   . rw[if_neg c]
     rcases hp with hp| ⟨hP,hp⟩
     . exact absurd hp c
     by_cases d:t ((a+b)/2)=true
     . rw[if_pos d]at hp⊢
       obtain⟨i1,i2,i3,i4⟩:=YeQ f _ _ (by omega) hp
       refine⟨?_,i2,by omega,i4⟩
       rcases i1 with i1|i1
       . rw[i1];exact YHT ⟨hP,d⟩
       . exact YHT i1
     . rw[if_neg d]at hp⊢
       obtain⟨i1,i2,i3,i4⟩:=YeQ f _ _ (by omega) hp
       refine⟨i1,?_,i3,by omega⟩
       rcases i2 with i2|i2
       . rw[i2];exact YHT (by simpa using d)
       . exact YHT i2
theorem Yi5{P:Nat->Prop}{t:Nat->Bool}{s:Int->Bool}(hs:∀m:Nat,1<=m->m<=1000000000001->P m->s (m:Int)=t m):∀(f g a b:Nat),a<b->b<=1000000000001->b-a<=2^g->PthG P t f a b->bisL g s (a:Int) (b:Int)=(bisN t f a b:Nat)
 |0,g,a,b,h,hb,hg,hp=>by
   have hp:b<=a+1:=hp
   rw[bisN]
   cases g with
   |zero=>rfl
   |succ g=>rw[bisL,if_neg (by omega)]
 |f+1,g,a,b,h,hb,hg,hp=>by
   rw[bisN]
   by_cases c:b<=a+1
   . rw[if_pos c]
     cases g with
     |zero=>rfl
     |succ g=>rw[bisL,if_neg (by omega)]
   . rw[if_neg c]
     rcases hp with hp| ⟨hP,hp⟩
     . exact absurd hp c
     cases g with
     |zero=>rw[Nat.pow_zero]at hg;omega
     |succ g=>
       rw[YGZ]at hg
       have em:(a:Int)+((b:Int)-(a:Int))/2=(((a+b)/2:Nat):Int):=by omega
       rw[bisL,if_pos (by omega),em,hs _ (by omega) (by omega) hP]
       by_cases d:t ((a+b)/2)=true
       . rw[if_pos d]at hp⊢
         rw[if_pos d]
         exact Yi5 hs f g _ _ (by omega) hb (by omega) hp
       . rw[if_neg d]at hp⊢
         rw[if_neg d]
         exact Yi5 hs f g _ _ (by omega) (by omega) (by omega) hp
def tbP(y:Nat):Nat:=Nat.land (Nat.shiftRight 1552518092300708935148979488462502555256886017116696611139052038026050952686376886330878408828646477950487730697131067577313551987760641208724272968810637556384559195242754483468764431187533836104348593828980831103427008259450020416 (YHS 3 y)) 7
def pw16(k:Nat):Nat->Nat->Bool:=
 Nat.rec (fun A B=>bif Nat.blt 79228162514264337593543950336 A then Nat.blt B 158456325028528675187087900672 else false) (fun _ ih A B=>(fun X=>(fun y=>(fun s=>ih (Nat.shiftRight X s) (Nat.succ (Nat.shiftRight (Nat.pow B 16) s))) (bif Nat.blt y 256 then YHG 1440 (tbP y)else YHG 1448 (tbP (Nat.shiftRight y 8)))) (Nat.shiftRight X 1536)) (Nat.pow A 16)) k
def onePw(k e n:Nat):Bool:=(fun A=>pw16 k A A) (Nat.shiftLeft n e)
theorem Yzo{X a b c:Nat}(h:c=a+b):X*2^a*2^b=X*2^c:=by rw[h,YGJ,YGE]
theorem YzD:∀(k A B N S:Nat),pw16 k A B=true->2^S*A<=N*2^96->N*2^96<=2^S*B->
   ∃S',2^S'*(2^96+1)<=N^(16^k)*2^96/\N^(16^k)*2^96+2^S'<=2^S'*2^97:=by
 intro k
 induction k with
 |zero=>
   intro A B N S h h1 h2
   have h:(bif Nat.blt 79228162514264337593543950336 A then Nat.blt B 158456325028528675187087900672 else false)=true:=h
   cases hb:Nat.blt 79228162514264337593543950336 A with
   |false=>rw[hb]at h;cases h
   |true=>
     rw[hb]at h
     have g1:2^96+1<=A:=Nat.le_of_ble_eq_true hb
     have g2:B+1<=2^97:=Nat.le_of_ble_eq_true h
     rw[Nat.pow_zero,Nat.pow_one]
     refine⟨S,YGF (YGO _ g1) h1,?_⟩
     have g3:=YGO (2^S) g2
     rw[YHy,Nat.mul_one]at g3
     exact YGF (Nat.add_le_add_right h2 _) g3
 |succ k ih=>
   intro A B N S h h1 h2
   obtain⟨t,ht⟩:∃t,(bif Nat.blt (A^16 >>> 1536) 256 then YHG 1440 (tbP (A^16 >>> 1536))else YHG 1448 (tbP ((A^16 >>> 1536) >>> 8)))=1440+t:=by
     cases Nat.blt (A^16 >>> 1536) 256
     . exact⟨8+tbP ((A^16 >>> 1536) >>> 8),Nat.add_assoc 1440 8 _⟩
     . exact⟨tbP (A^16 >>> 1536),rfl⟩
   have h:pw16 k (A^16 >>> (bif Nat.blt (A^16 >>> 1536) 256 then YHG 1440 (tbP (A^16 >>> 1536))else YHG 1448 (tbP ((A^16 >>> 1536) >>> 8)))) (B^16 >>> (bif Nat.blt (A^16 >>> 1536) 256 then YHG 1440 (tbP (A^16 >>> 1536))else YHG 1448 (tbP ((A^16 >>> 1536) >>> 8)))+1)=true:=h
   rw[ht,Nat.shiftRight_eq_div_pow,Nat.shiftRight_eq_div_pow]at h
   have e16:N^(16^(k+1))=(N^16)^(16^k):=by rw[YGZ,YGC,YHj]
   rw[e16]
   have p1:=YHk h1 16
   have p2:=YHk h2 16
   rw[Nat.mul_pow,Nat.mul_pow,<-YHj,<-YHj]at p1 p2
   have q1:A^16/2^(1440+t)*2^(1440+t)<=A^16:=Nat.div_mul_le_self _ _
   have q2:B^16<=(B^16/2^(1440+t)+1)*2^(1440+t):=by
     have h3:=YG0 (B^16) (YF (1440+t))
     have:=YG3 (B^16) (2^(1440+t))
     rw[YG8,YHz,YGC (B^16/2^(1440+t))];omega
   have e1:∀z,2^(S*16+t)*z*2^1440=2^(S*16)*(z*2^(1440+t)):=fun z=>by
     rw[YGJ,YGJ 2 1440 t]
     simp only[YGE,YHc,YGC]
   have e2:=Yzo (X:=N^16) (a:=96) (b:=1440) (c:=96*16) (by decide)
   refine ih _ _ (N^16) (S*16+t) h ?_ ?_
   . refine Nat.le_of_mul_le_mul_right (c:=2^1440) ?_ (YF 1440)
     rw[e1,e2]
     exact YGF (YGO _ q1) p1
   . refine Nat.le_of_mul_le_mul_right (c:=2^1440) ?_ (YF 1440)
     rw[e1,e2]
     exact YGF p2 (YGO _ q2)
def farJ(J n:Nat):Prop:=∀m,¬Near (2^4160) (2^2160) J n m
theorem YDd{M W P N S:Nat}(hMW:4*(W*2^P)<=M)(hW:0<W)(h1:2^S*(2^P+1)<=N*2^P)(h2:N*2^P+2^S<=2^S*2^(P+1))(m:Nat)(g1:2^m*M<=N*M+2^m*W)(g2:N*M<=2^m*(M+W)):False:=by
 have hS:=YF S
 have hP:=YF P
 rcases YGN S m with h|h
 . have hm:2*2^S<=2^m:=by rw[<-Nat.pow_succ'];exact YGG (by decide) h
   rw[YGZ]at h2
   generalize 2^m=Q at*
   generalize 2^S=T at*
   generalize 2^P=R at*
   --Q (M-W) R <=T (2 R-1) M
   have k1:=YGD R g1
   have k2:=YGD M h2
   have e1:(N*M+Q*W)*R=N*R*M+Q*(W*R):=by rw[YG8,Nat.mul_right_comm,YGE Q]
   have e2:(N*R+T)*M=N*R*M+T*M:=YG8 ..
   have e3:T*(R*2)*M=2*T*(R*M):=by simp only[YGE,YHc,YGC]
   have e4:Q*M*R=Q*(R*M):=by rw[YGE,YGC M]
   have hWR:W*R<=R*M:=by
     have a:W*R*1<=W*R*4:=YGO _ (by decide)
     have b:1*M<=R*M:=YGD M hP
     omega
   obtain⟨V,hV⟩:∃V,R*M=W*R+V:=⟨R*M-W*R,by omega⟩
   have k3:Q*V+T*M<=2*T*(W*R+V):=by
     have:Q*(W*R+V)=Q*(W*R)+Q*V:=YHy ..
     rw[hV]at e3 e4
     omega
   have k4:=YGD V hm
   have e5:2*T*(W*R+V)=2*T*(W*R)+2*T*V:=YHy ..
   have k5:=YGO T hMW
   have e6:T*(4*(W*R))=2*(2*T*(W*R)):=by rw[YHc,YGE 2 T];omega
   have k6:0<2*T*(W*R):=YHP (by omega) (YHP hW hP)
   omega
 . have hm:2^m<=2^S:=YGG (by decide) h
   generalize 2^m=Q at*
   generalize 2^S=T at*
   generalize 2^P=R at*
   have k1:=YGD R (YGF g2 (YGD _ hm))
   have k2:=YGD M h1
   have e1:N*M*R=N*R*M:=Nat.mul_right_comm ..
   have e2:T*(R+1)*M=T*(R*M)+T*M:=by rw[YGE,YG8,YHz,YHy]
   have e3:T*(M+W)*R=T*(R*M)+T*(W*R):=by rw[YGE,YG8,YHy,YGC M]
   have k3:T*M<=T*(W*R):=by omega
   have:=Nat.le_of_mul_le_mul_left k3 hS
   have:0<W*R:=YHP hW hP
   omega
theorem YyE{a b c:Nat}(h:2+a+b<=c):4*(2^a*2^b)<=2^c:=by
 rw[<-YGJ]
 exact YD9 (by omega)
theorem Yve{k e n:Nat}(he:e<=96)(h:onePw k e n=true):farJ (4*k) n:=by
 have h:pw16 k (n <<< e) (n <<< e)=true:=h
 rw[Nat.shiftLeft_eq]at h
 have e0:2^(96-e)*(n*2^e)=n*2^96:=by
   rw[YHc,<-YGJ];congr 2;omega
 obtain⟨S,h1,h2⟩:=YzD k _ _ n (96-e) h (YHM e0) (YHM e0.symm)
 have e1:(16:Nat)^k=2^(4*k):=by rw[YHj]
 rw[e1]at h1 h2
 intro m hm
 exact YDd (M:=2^4160) (W:=2^2160) (P:=96) (YyE (by decide)) (YF 2160) h1 h2 m hm.1 hm.2
theorem YfT{J n:Nat}(hJ:J<=500)(h1:1<=n)(h2:n<2^61)(h:(∃q,n=2^q)\/farJ J n):YH J n:=by
 rcases YrI h1 (Nat.lt_trans h2 (by decide)) hJ with hn| ⟨hp,m,hm⟩
 . exact hn
 . exfalso
   rcases h with⟨q,hq⟩ |h
   . have hq2:q<61:=(Nat.pow_lt_pow_iff_right (show 1<2 by decide)).1 (by rw[<-hq];exact h2)
     rw[hq,Yk3 q (by omega)]at hp
     cases hp
   . exact h m hm
end Go.Proofs.YtijadllhfgajlaaGreat
