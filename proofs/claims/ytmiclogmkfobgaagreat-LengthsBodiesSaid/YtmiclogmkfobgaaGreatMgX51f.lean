/- Intervals, walked: the program's functions. -/
import Derived.Test.YtmiclogmkfobgaaGreatMgX51e
open And renaming intro->YGH
open Bool renaming and_eq_false_iff->YGZ,and_eq_true->YGi,false_and->YHp,false_eq_true->YGC,false_or->YHx,not_and->YHt,not_eq_false'->YG0,not_eq_true'->YGA,or_eq_false_iff->YG8,or_eq_true->YG6,true_and->YHq
open Int renaming eq_ofNat_of_zero_le->YGM,mul_nonneg->YHv,natCast_mul->YG1,toNat_natCast->YGb,toNat_zero->YHw
open Go.IntWalk renaming i64_in->YGd,u64_in->YGF,up_tdiv->YHh
open List renaming mem_cons->YGK
open Nat renaming div_add_mod->YGP,div_le_self->YHm,le_of_eq->YGu,le_refl->YGr,le_trans->YGg,lt_of_le_of_lt->YGN,lt_of_lt_of_le->YGV,mod_lt->YGJ,mul_comm->YGj,mul_le_mul->YGB,mul_one->YHj,not_lt_zero->YG7,one_mul->YGW,pow_le_pow_right->YGs,pow_mul->YGn,pow_one->YHr,pow_succ->YGt,reduceAdd->YGa,reduceEqDiff->YF8,reduceLeDiff->YF9,reduceMul->YHC,succ_mul->YHD,zero_le->YHk
open Go.Proofs.Tryz renaming prog->YGc
set_option linter.all false
namespace Go.Proofs.YtmiclogmkfobgaaGreat
open Go Go.Vx
set_option maxRecDepth 100000
set_option maxHeartbeats 4000000
def v62:VF:=⟨37,[.cell 4 true 2,.tmp 5],(ZR [u1 2 .box [.tm 0],u1 3 .box [.tm 1],Zn 4,Zi 5 0] (.seq (ZR [Zt 7 2 2,Zt 8 2 3,u1 9 (.buildSlice 2 2 [(.int .i64 0),(.int .i64 0)] [(0,2),(2,2)]) [.tm 7,.tm 8],Zc 10 46 9,Zm 6 10] (ZR [Zm 11 6,Zq 12 .neq 11 0] (ZC 12 (ZR [u1 13 (.build [(.int .i64 0),(.int .i64 0)] []) [],Zm 14 6,Zs 2 4 13,Zm 5 14] .ret) .skip))) (.seq (ZR [Za 15 1 2,Zf 16 1 15,Zq 17 .eql 16 4611686018427387904,Zm 18 17,Zj 19 18 true 1 3,Zh 20 18 true 1 19,u2 21 18 true (.cmp .eql) [.tm 20,.cn (.int .i64 4611686018427387904)],u1 22 .and [.tm 18,.tm 21]] (ZC 22 (ZR [u1 23 (.build [(.int .i64 0),(.int .i64 0)] []) [],Zs 2 4 23,Zi 5 7] .ret) .skip)) (ZR [Za 24 0 2,Zf 25 1 24,Za 26 0 3,Zf 27 1 26,Zo 28 .add 25 27,Za 29 1 2,Zf 30 1 29,Za 31 1 3,Zf 32 1 31,Zo 33 .add 30 32,Zd 34 97 28 33,Ze 35 0 34,Ze 36 1 34,Zs 2 4 35,Zm 5 36] .ret))))⟩
theorem YFt:Yg YGc Tryz.f62=some v62:=by kernel_rfl
def v61:VF:=⟨26,[.cell 4 true 2,.tmp 5],(ZR [u1 2 .box [.tm 0],u1 3 .box [.tm 1],Zn 4,Zi 5 0] (.seq (ZR [Zt 7 2 2,Zt 8 2 3,u1 9 (.buildSlice 2 2 [(.int .i64 0),(.int .i64 0)] [(0,2),(2,2)]) [.tm 7,.tm 8],Zc 10 46 9,Zm 6 10] (ZR [Zm 11 6,Zq 12 .neq 11 0] (ZC 12 (ZR [u1 13 (.build [(.int .i64 0),(.int .i64 0)] []) [],Zm 14 6,Zs 2 4 13,Zm 5 14] .ret) .skip))) (ZR [Zt 15 2 2,Za 16 1 3,Zf 17 1 16,u1 18 .neg [.tm 17],Za 19 0 3,Zf 20 1 19,u1 21 .neg [.tm 20],u1 22 (.build [(.int .i64 0),(.int .i64 0)] [(0,1),(1,1)]) [.tm 18,.tm 21],Zd 23 62 15 22,Ze 24 0 23,Ze 25 1 23,Zs 2 4 24,Zm 5 25] .ret)))⟩
theorem YFs:Yg YGc Tryz.f61=some v61:=by kernel_rfl
def v92:VF:=⟨41,[.cell 4 true 2,.tmp 5],(ZR [u1 2 .box [.tm 0],u1 3 .box [.tm 1],Zn 4,Zi 5 0] (.seq (ZR [Zt 8 2 2,Zt 9 2 3,u1 10 (.buildSlice 2 2 [(.int .i64 0),(.int .i64 0)] [(0,2),(2,2)]) [.tm 8,.tm 9],Zc 11 46 10,Zm 6 11] (ZR [Zm 12 6,Zq 13 .neq 12 0] (ZC 13 (ZR [u1 14 (.build [(.int .i64 0),(.int .i64 0)] []) [],Zm 15 6,Zs 2 4 14,Zm 5 15] .ret) .skip))) (.seq (.draw [(7,.arr 4 3 [(.bool false),(.int .u64 0),(.int .u64 0),(.bool false),(.int .u64 0),(.int .u64 0),(.bool false),(.int .u64 0),(.int .u64 0),(.bool false),(.int .u64 0),(.int .u64 0)])] [Zy 16 0 2,Zv 17 1 16,Zy 18 0 3,Zv 19 1 18,Zy 21 0 2,Zv 22 1 21,Zy 23 1 3,Zv 24 1 23,Zy 26 1 2,Zv 27 1 26,Zy 28 0 3,Zv 29 1 28,Zy 31 1 2,Zv 32 1 31,Zy 33 1 3,Zv 34 1 33,Zz 20 48 17 19,Zz 25 48 22 24,Zz 30 48 27 29,Zz 35 48 32 34,w1 36 (.build [(.bool false),(.int .u64 0),(.int .u64 0),(.bool false),(.int .u64 0),(.int .u64 0),(.bool false),(.int .u64 0),(.int .u64 0),(.bool false),(.int .u64 0),(.int .u64 0)] [(0,3),(3,3),(6,3),(9,3)]) [.tm 20,.tm 25,.tm 30,.tm 35],ZS 12 7 36]) (ZR [u1 37 (.sliceArr 4 3 false false) [.tm 7],u1 38 (.call 47) [.cn (.int .u64 1),.tm 37],Ze 39 0 38,Ze 40 1 38,Zs 2 4 39,Zm 5 40] .ret))))⟩
theorem YFW:Yg YGc Tryz.f92=some v92:=by kernel_rfl
def v60:VF:=⟨89,[.cell 4 true 2,.tmp 5],(ZR [u1 2 .box [.tm 0],u1 3 .box [.tm 1],Zn 4,Zi 5 0] (.seq (ZR [Zt 13 2 2,Zt 14 2 3,u1 15 (.buildSlice 2 2 [(.int .i64 0),(.int .i64 0)] [(0,2),(2,2)]) [.tm 13,.tm 14],Zc 16 46 15,Zm 6 16] (ZR [Zm 17 6,Zq 18 .neq 17 0] (ZC 18 (ZR [u1 19 (.build [(.int .i64 0),(.int .i64 0)] []) [],Zm 20 6,Zs 2 4 19,Zm 5 20] .ret) .skip))) (.seq (ZR [Za 21 0 3,Zf 22 1 21,Zq 23 .leq 22 0,Zm 24 23,Zj 25 24 true 1 3,Zh 26 24 true 1 25,u2 27 24 true (.cmp .geq) [.tm 26,.cn (.int .i64 0)],u1 28 .and [.tm 24,.tm 27]] (ZC 28 (ZR [u1 29 (.build [(.int .i64 0),(.int .i64 0)] []) [],Zs 2 4 29,Zi 5 9] .ret) .skip)) (.seq (ZR [Za 30 1 3,Zf 31 1 30,Zq 32 .lss 31 0] (ZC 32 (.draw [] [Zy 33 1 2,Zv 34 1 33,w1 35 .neg [.tm 34],Zy 36 0 2,Zv 37 1 36,w1 38 .neg [.tm 37],w1 39 (.build [(.int .i64 0),(.int .i64 0)] [(0,1),(1,1)]) [.tm 35,.tm 38],Zy 40 1 3,Zv 41 1 40,w1 42 .neg [.tm 41],Zy 43 0 3,Zv 44 1 43,w1 45 .neg [.tm 44],w1 46 (.build [(.int .i64 0),(.int .i64 0)] [(0,1),(1,1)]) [.tm 42,.tm 45],⟨Zs 2 2 39,[.tm 40,.tm 43]⟩,ZS 2 3 46]) .skip)) (.seq (.draw [] [Zy 47 1 3,Zv 48 1 47,Zy 49 0 3,Zv 50 1 49,Zu 7 48,Zu 8 50]) (.seq (ZR [Za 51 0 2,Zf 52 1 51,Zq 53 .lss 52 0] (ZC 53 (.region [Za 54 0 3,Zf 55 1 54,Zm 7 55]) .skip)) (.seq (ZR [Za 56 1 2,Zf 57 1 56,Zq 58 .lss 57 0] (ZC 58 (.region [Za 59 1 3,Zf 60 1 59,Zm 8 60]) .skip)) (ZR [Za 62 0 2,Zf 63 1 62,u1 64 (.call 48) [.tm 63,.cn (.int .i64 1)],Zm 65 7,u1 66 (.conv .u64) [.tm 65],u1 67 (.call 79) [.tm 64,.tm 66,.cn (.bool false)],Zm 61 67,Ze 68 0 61,Ze 69 1 61,Zm 9 68,Zm 10 69] (ZR [Za 71 1 2,Zf 72 1 71,u1 73 (.call 48) [.tm 72,.cn (.int .i64 1)],Zm 74 8,u1 75 (.conv .u64) [.tm 74],u1 76 (.call 79) [.tm 73,.tm 75,.cn (.bool true)],Zm 70 76,Ze 77 0 70,Ze 78 1 70,Zm 11 77,Zm 12 78] (.seq (ZR [Zm 79 10,u1 80 .not [.tm 79],Zm 81 80,Zg 82 81 false 12,u2 83 81 false .not [.tm 82],u1 84 .or [.tm 81,.tm 83]] (ZC 84 (ZR [u1 85 (.build [(.int .i64 0),(.int .i64 0)] []) [],Zs 2 4 85,Zi 5 7] .ret) .skip)) (ZR [Zm 86 9,Zm 87 11,u1 88 (.build [(.int .i64 0),(.int .i64 0)] [(0,1),(1,1)]) [.tm 86,.tm 87],Zs 2 4 88,Zi 5 0] .ret)))))))))))⟩
theorem YFr:Yg YGc Tryz.f60=some v60:=by kernel_rfl
def v24:VF:=⟨45,[.cell 6 true 2,.tmp 7],(ZR [u1 3 .box [.tm 0],Zn 6,Zi 7 0] (ZR [Zt 9 2 3,u1 10 (.buildSlice 2 1 [(.int .i64 0),(.int .i64 0)] [(0,2)]) [.tm 9],Zc 11 46 10,Zm 8 11] (.seq (.block 0 (ZR [Zm 13 8,Zq 14 .neq 13 0,Zm 12 14] (ZC 12 (ZR [u1 15 (.build [(.int .i64 0),(.int .i64 0)] []) [],Zm 16 8,Zs 2 6 15,Zm 7 16] .ret) (ZR [Zm 18 2,Zq 19 .lss 18 1,Zm 20 19,Zg 21 20 false 2,u2 22 20 false (.call 49) [.tm 21],u2 23 20 false .not [.tm 22],u1 24 .or [.tm 20,.tm 23],Zm 25 24,Zg 26 25 false 1,u2 27 25 false (.call 49) [.tm 26],u2 28 25 false .not [.tm 27],u1 29 .or [.tm 25,.tm 28],Zm 17 29] (ZC 17 (ZR [u1 30 (.build [(.int .i64 0),(.int .i64 0)] []) [],Zs 2 6 30,Zi 7 2] .ret) .skip))))) (.seq (.draw [] [Zu 31 2,w1 32 (.conv .u64) [.tm 31],Zy 33 0 3,Zv 34 1 33,Zu 35 1,Zy 37 1 3,Zv 38 1 37,Zu 39 1,Zz 36 48 34 35,Zz 40 48 38 39,w1 41 (.buildSlice 3 2 [(.bool false),(.int .u64 0),(.int .u64 0)] [(0,3),(3,3)]) [.tm 36,.tm 40],Zz 42 47 32 41,ZE 43 0 42,ZE 44 1 42,ZS 2 6 43,Zu 7 44]) .ret))))⟩
theorem YEV:Yg YGc Tryz.f24=some v24:=by kernel_rfl
def v23:VF:=⟨28,[.cell 2 true 2,.tmp 3],(ZR [u1 1 .box [.tm 0],Zn 2,Zi 3 0] (.seq (ZR [Zt 5 2 1,u1 6 (.buildSlice 2 1 [(.int .i64 0),(.int .i64 0)] [(0,2)]) [.tm 5],Zc 7 46 6,Zm 4 7] (ZR [Zm 8 4,Zq 9 .neq 8 0] (ZC 9 (ZR [u1 10 (.build [(.int .i64 0),(.int .i64 0)] []) [],Zm 11 4,Zs 2 2 10,Zm 3 11] .ret) .skip))) (.seq (.draw [] [Zy 12 0 1,Zv 13 1 12,Zy 15 0 1,Zv 16 1 15,Zy 18 1 1,Zv 19 1 18,Zy 21 1 1,Zv 22 1 21,w1 14 (.call 48) [.tm 13,.cn (.int .i64 3141592653589793238)],w1 17 (.call 48) [.tm 16,.cn (.int .i64 3141592653589793239)],w1 20 (.call 48) [.tm 19,.cn (.int .i64 3141592653589793238)],w1 23 (.call 48) [.tm 22,.cn (.int .i64 3141592653589793239)],w1 24 (.buildSlice 3 4 [(.bool false),(.int .u64 0),(.int .u64 0)] [(0,3),(3,3),(6,3),(9,3)]) [.tm 14,.tm 17,.tm 20,.tm 23],w1 25 (.call 47) [.cn (.int .u64 1000000000000000000),.tm 24],ZE 26 0 25,ZE 27 1 25,ZS 2 2 26,Zu 3 27]) .ret)))⟩
theorem YEU:Yg YGc Tryz.f23=some v23:=by kernel_rfl
def iv1C:Ctr:={ alias:=false,of:=fun a=>match a with| [.agg [.int .i64 x,.int .i64 y]]=> .fin (.int .i64 (ivE [(x,y)])) [] |_=>noC}
def iv2C(f:Iv->Iv->Iv×Int):Ctr:={ alias:=false,of:=fun a=>match a with
 | [.agg [.int .i64 x,.int .i64 y],.agg [.int .i64 z,.int .i64 w]]=> .fin (.tup [.agg (enc2 (f (x,y) (z,w)).1),.int .i64 (f (x,y) (z,w)).2]) []
 |_=>noC}
def ivoC(f:Iv->Iv×Int):Ctr:={ alias:=false,of:=fun a=>match a with
 | [.agg [.int .i64 x,.int .i64 y]]=> .fin (.tup [.agg (enc2 (f (x,y)).1),.int .i64 (f (x,y)).2]) []
 |_=>noC}
def addC:=iv2C addF
def subC:=iv2C subF
def mulC:=iv2C mulF
def quoC:=iv2C quoF
def piC:=ivoC piF
def sclC:Ctr:={ alias:=false,of:=fun a=>match a with
 | [.agg [.int .i64 x,.int .i64 y],.int .i64 n,.int .i64 d]=> .fin (.tup [.agg (enc2 (sclF (x,y) n d).1),.int .i64 (sclF (x,y) n d).2]) []
 |_=>noC}
def P3:Env:={ ct:=fun n=>match n with|49=>some numC|46=>some ivlC|48=>some timC|79=>some overC|47=>some spanC|97=>some fitC|_=>none,fn:=fun _=>none,meth:=fun _ _=>none}
theorem YwJ:P3.ct 46=some ivlC:=rfl
theorem YwK:P3.ct 97=some fitC:=rfl
theorem P3_ok:Yq YGc P3:=by
 refine⟨fun f c h=>?_,fun f vf h=>?_,(fun _ _ _ h=>by cases h),by kernel_rfl,(fun _ h=>by cases h)⟩
 ·simp only[P3]at h
  split at h
  ·cases h;exact⟨YnF,Tryz.f49,Tryz.func49,by kernel_rfl,by kernel_rfl⟩
  ·cases h;exact⟨Ynv,Tryz.f46,Tryz.func46,by kernel_rfl,by kernel_rfl⟩
  ·cases h;exact⟨Ywt,Tryz.f48,Tryz.func48,by kernel_rfl,by kernel_rfl⟩
  ·cases h;exact⟨Yl2,Tryz.f79,Tryz.func79,by kernel_rfl,by kernel_rfl⟩
  ·cases h;exact⟨YsH,Tryz.f47,Tryz.func47,by kernel_rfl,by kernel_rfl⟩
  ·cases h;exact⟨YvU,Tryz.f97,Tryz.func97,by kernel_rfl,by kernel_rfl⟩
  ·cases h
 ·cases h
theorem YF{k:SV->List HO->Prop}{al:Bool}{hp:List HO}{r:Iv×Int}(h:k (.tup [.agg (enc2 r.1),.int .i64 r.2]) []):YD al k (.tup [.agg [.int .i64 r.1.1,.int .i64 r.1.2],.int .i64 r.2]) hp:=
 YC (show k _ []from h) (Yv (.tup [.agg (enc2 r.1),.int .i64 r.2]) ⟨⟨trivial,trivial,trivial⟩,trivial,trivial⟩) (fun _=>by simp [enc2,Yl,Ym])
theorem YlB{a b:Int}(ha: -9223372036854775808<=a/\a<=9223372036854775808)(hb: -9223372036854775808<=b/\b<=9223372036854775808):big (a*b):=by
 unfold big
 rw[Int.natAbs_mul]
 have:=YGB (show a.natAbs<=9223372036854775808 by omega) (show b.natAbs<=9223372036854775808 by omega)
 omega
theorem big1{a:Int}(ha: -9223372036854775808<=a/\a<=9223372036854775808):big a:=by
 unfold big;omega
theorem Yh8{a:Int}(h: -4611686018427387904<=a/\a<=4611686018427387904):IntKind.i64.wrap (0-a)= -a:=by rw[YGd _ (by omega)];omega
theorem YfL:addC.ok YGc 62:=by
 refine Yb Tryz.func62 YFt P3_ok 200 addC fun args k h=>⟨args,?_⟩
 simp only[addC,iv2C]at h
 split at h
 ·rename_i x y z w
  refine⟨by simp [leL,le],?_⟩
  (try dsimp only[v62,YwJ,YwK,ivlC,fitC,enc2,go_sem,reduceIte])
  (try simp only[Yc,YGa,YF9,reduceCtorEq,YF8])
  have h:k (.tup [.agg (enc2 (addF (x,y) (z,w)).1),.int .i64 (addF (x,y) (z,w)).2]) []:=h
  refine⟨by decide,[(x,y),(z,w)],⟨⟨rfl,rfl,fun k hk=>match k,hk with|0,_=>Yd _|1,_=>Yd _⟩,by simp⟩,fun hc=>?_,fun hc=>?_⟩
  ·rw[addF,if_pos hc]at h
   exact YF (r:=errI (ivE [(x,y),(z,w)])) h
  ·obtain⟨⟨h1,h2,h3⟩,h4,h5,h6⟩:=ivE2 hc
   dsimp only at h1 h2 h3 h4 h5 h6
   rw[addF,if_neg (by rw[hc];simp)]at h
   dsimp only at h
   refine⟨fun hm=>?_,fun hm=>⟨by decide,by decide,?_⟩⟩
   ·rw[YGi,decide_eq_true_eq,decide_eq_true_eq]at hm
    have:Ybg (y+w)=false:=by
     rw[Bool.eq_false_iff];intro hh;have:=numOk_iff.1 hh;omega
    rw[fitF,this,Bool.and_false]at h
    exact YF (r:=((0,0),7)) h
   ·rw[YGZ,decide_eq_false_iff_not,decide_eq_false_iff_not]at hm
    rw[YGd (x+z) (by omega),YGd (y+w) (by omega)]
    exact YF h
 ·exact h.1.elim
def P4:Env:={ ct:=fun n=>match n with|49=>some numC|46=>some ivlC|48=>some timC|79=>some overC|47=>some spanC|97=>some fitC|62=>some addC|_=>none,fn:=fun _=>none,meth:=fun _ _=>none}
theorem YwL:P4.ct 49=some numC:=rfl
theorem Ygv:P4.ct 46=some ivlC:=rfl
theorem Yin:P4.ct 48=some timC:=rfl
theorem YwN:P4.ct 79=some overC:=rfl
theorem Ygw:P4.ct 47=some spanC:=rfl
theorem YwM:P4.ct 62=some addC:=rfl
theorem Yo5:Yq YGc P4:=by
 refine⟨fun f c h=>?_,fun f vf h=>?_,(fun _ _ _ h=>by cases h),by kernel_rfl,(fun _ h=>by cases h)⟩
 ·simp only[P4]at h
  split at h
  ·cases h;exact⟨YnF,Tryz.f49,Tryz.func49,by kernel_rfl,by kernel_rfl⟩
  ·cases h;exact⟨Ynv,Tryz.f46,Tryz.func46,by kernel_rfl,by kernel_rfl⟩
  ·cases h;exact⟨Ywt,Tryz.f48,Tryz.func48,by kernel_rfl,by kernel_rfl⟩
  ·cases h;exact⟨Yl2,Tryz.f79,Tryz.func79,by kernel_rfl,by kernel_rfl⟩
  ·cases h;exact⟨YsH,Tryz.f47,Tryz.func47,by kernel_rfl,by kernel_rfl⟩
  ·cases h;exact⟨YvU,Tryz.f97,Tryz.func97,by kernel_rfl,by kernel_rfl⟩
  ·cases h;exact⟨YfL,Tryz.f62,Tryz.func62,by kernel_rfl,by kernel_rfl⟩
  ·cases h
 ·cases h
theorem YEG:subC.ok YGc 61:=by
 refine Yb Tryz.func61 YFs Yo5 200 subC fun args k h=>⟨args,?_⟩
 simp only[subC,iv2C]at h
 split at h
 ·rename_i x y z w
  refine⟨by simp [leL,le],?_⟩
  (try dsimp only[v61,Ygv,YwM,ivlC,addC,iv2C,enc2,go_sem,reduceIte])
  (try simp only[Yc,YGa,YF9,reduceCtorEq,YF8])
  have h:k (.tup [.agg (enc2 (subF (x,y) (z,w)).1),.int .i64 (subF (x,y) (z,w)).2]) []:=h
  refine⟨by decide,[(x,y),(z,w)],⟨⟨rfl,rfl,fun k hk=>match k,hk with|0,_=>Yd _|1,_=>Yd _⟩,by simp⟩,fun hc=>?_,fun hc=>?_⟩
  ·rw[subF,if_pos hc]at h
   exact YF (r:=errI (ivE [(x,y),(z,w)])) h
  ·obtain⟨⟨h1,h2,h3⟩,h4,h5,h6⟩:=ivE2 hc
   dsimp only at h1 h2 h3 h4 h5 h6
   rw[subF,if_neg (by rw[hc];simp)]at h
   dsimp only at h
   rw[Yh8 h4,Yh8 h5]
   exact⟨by decide,by decide,YF h⟩
 ·exact h.1.elim
theorem YnC:mulC.ok YGc 92:=by
 refine Yb Tryz.func92 YFW Yo5 200 mulC fun args k h=>⟨args,?_⟩
 simp only[mulC,iv2C]at h
 split at h
 ·rename_i x y z w
  refine⟨by simp [leL,le],?_⟩
  (try dsimp only[v92,Ygv,Yin,Ygw,ivlC,timC,spanC,Ye1,enc2,go_sem,reduceIte])
  (try simp only[Yc,YGa,YF9,reduceCtorEq,YF8])
  have h:k (.tup [.agg (enc2 (mulF (x,y) (z,w)).1),.int .i64 (mulF (x,y) (z,w)).2]) []:=h
  refine⟨by decide,[(x,y),(z,w)],⟨⟨rfl,rfl,fun k hk=>match k,hk with|0,_=>Yd _|1,_=>Yd _⟩,by simp⟩,fun hc=>?_,fun hc=>?_⟩
  ·rw[mulF,if_pos hc]at h
   exact YF (r:=errI (ivE [(x,y),(z,w)])) h
  ·obtain⟨⟨h1,h2,h3⟩,h4,h5,h6⟩:=ivE2 hc
   dsimp only at h1 h2 h3 h4 h5 h6
   rw[mulF,if_neg (by rw[hc];simp)]at h
   dsimp only at h
   refine⟨⟨⟨by omega,by omega⟩,by omega,by omega⟩,⟨⟨by omega,by omega⟩,by omega,by omega⟩,⟨⟨by omega,by omega⟩,by omega,by omega⟩,⟨⟨by omega,by omega⟩,by omega,by omega⟩,?_⟩
   (try dsimp only[Ygw,spanC,enc2,go_sem,reduceIte])
   (try simp only[Yc,YGa,YF9,reduceCtorEq,YF8])
   refine⟨by decide,?_⟩
   (try dsimp only[Ygw,spanC,enc2,go_sem,reduceIte])
   (try simp only[Yc,YGa,YF9,reduceCtorEq,YF8])
   refine⟨x*z,[x*w,y*z,y*w],⟨⟨rfl,rfl,fun k hk=>match k,hk with|0,_=>Yd _|1,_=>Yd _|2,_=>Yd _|3,_=>Yd _⟩,by simp,?_,by decide,by decide⟩,by decide,by decide,YF h⟩
   intro p hp
   simp only[YGK,List.not_mem_nil,or_false]at hp
   rcases hp with rfl|rfl|rfl|rfl <;> exact YlB (by omega) (by omega)
 ·exact h.1.elim
theorem Ywf:quoC.ok YGc 60:=by
 refine Yb Tryz.func60 YFr Yo5 300 quoC fun args k h=>⟨args,?_⟩
 simp only[quoC,iv2C]at h
 split at h
 ·rename_i x y z w
  refine⟨by simp [leL,le],?_⟩
  (try dsimp only[v60,Ygv,Yin,YwN,ivlC,timC,overC,Ye1,enc2,go_sem,reduceIte])
  (try simp only[Yc,YGa,YF9,reduceCtorEq,YF8])
  have h:k (.tup [.agg (enc2 (quoF (x,y) (z,w)).1),.int .i64 (quoF (x,y) (z,w)).2]) []:=h
  refine⟨by decide,[(x,y),(z,w)],⟨⟨rfl,rfl,fun k hk=>match k,hk with|0,_=>Yd _|1,_=>Yd _⟩,by simp⟩,fun hc=>?_,fun hc=>?_⟩
  ·rw[quoF,if_pos hc]at h
   exact YF (r:=errI (ivE [(x,y),(z,w)])) h
  ·obtain⟨⟨h1,h2,h3⟩,h4,h5,h6⟩:=ivE2 hc
   dsimp only at h1 h2 h3 h4 h5 h6
   rw[quoF,if_neg (by rw[hc];simp)]at h
   dsimp only at h
   simp only[Yh8 h1,Yh8 h2,Yh8 h4,Yh8 h5,Int.mul_one]
   refine⟨fun hm=>?_,fun hm=>⟨fun hw=>?_,fun hw=>?_⟩⟩
   ·rw[YGi,decide_eq_true_eq,decide_eq_true_eq]at hm
    rw[if_pos hm]at h
    exact YF (r:=errI 9) h
   ·rw[YGZ,decide_eq_false_iff_not,decide_eq_false_iff_not]at hm
    rw[if_neg (by omega),if_pos hw]at h
    unfold YgL at h
    dsimp only at h
    refine⟨fun hp=>⟨fun hq=>?_,fun hq=>?_⟩,fun hp=>⟨fun hq=>?_,fun hq=>?_⟩⟩
    ·rw[if_pos hp,if_pos hq]at h
     simp (disch:=omega) only[YGF]
     refine⟨⟨⟨by omega,by omega⟩,by omega,by omega⟩,_,⟨Yu _,big1 (by omega),by omega,by omega⟩,by decide,by decide,⟨⟨by omega,by omega⟩,by omega,by omega⟩,_,⟨Yu _,big1 (by omega),by omega,by omega⟩,by decide,by decide,fun hb=>?_,fun hb=>?_⟩
     ·rw[Ybh,if_neg (by rw[<-YHt,YGA]at hb;rw[hb];simp)]at h
      exact YF (r:=((0,0),7)) h
     ·rw[Ybh,if_pos (by rw[<-YHt,YG0]at hb;exact hb)]at h
      exact YF (r:=((_,_),0)) h
    ·rw[if_pos hp,if_neg hq]at h
     simp (disch:=omega) only[YGF]
     refine⟨⟨⟨by omega,by omega⟩,by omega,by omega⟩,_,⟨Yu _,big1 (by omega),by omega,by omega⟩,by decide,by decide,⟨⟨by omega,by omega⟩,by omega,by omega⟩,_,⟨Yu _,big1 (by omega),by omega,by omega⟩,by decide,by decide,fun hb=>?_,fun hb=>?_⟩
     ·rw[Ybh,if_neg (by rw[<-YHt,YGA]at hb;rw[hb];simp)]at h
      exact YF (r:=((0,0),7)) h
     ·rw[Ybh,if_pos (by rw[<-YHt,YG0]at hb;exact hb)]at h
      exact YF (r:=((_,_),0)) h
    ·rw[if_neg hp,if_pos hq]at h
     simp (disch:=omega) only[YGF]
     refine⟨⟨⟨by omega,by omega⟩,by omega,by omega⟩,_,⟨Yu _,big1 (by omega),by omega,by omega⟩,by decide,by decide,⟨⟨by omega,by omega⟩,by omega,by omega⟩,_,⟨Yu _,big1 (by omega),by omega,by omega⟩,by decide,by decide,fun hb=>?_,fun hb=>?_⟩
     ·rw[Ybh,if_neg (by rw[<-YHt,YGA]at hb;rw[hb];simp)]at h
      exact YF (r:=((0,0),7)) h
     ·rw[Ybh,if_pos (by rw[<-YHt,YG0]at hb;exact hb)]at h
      exact YF (r:=((_,_),0)) h
    ·rw[if_neg hp,if_neg hq]at h
     simp (disch:=omega) only[YGF]
     refine⟨⟨⟨by omega,by omega⟩,by omega,by omega⟩,_,⟨Yu _,big1 (by omega),by omega,by omega⟩,by decide,by decide,⟨⟨by omega,by omega⟩,by omega,by omega⟩,_,⟨Yu _,big1 (by omega),by omega,by omega⟩,by decide,by decide,fun hb=>?_,fun hb=>?_⟩
     ·rw[Ybh,if_neg (by rw[<-YHt,YGA]at hb;rw[hb];simp)]at h
      exact YF (r:=((0,0),7)) h
     ·rw[Ybh,if_pos (by rw[<-YHt,YG0]at hb;exact hb)]at h
      exact YF (r:=((_,_),0)) h
   ·rw[YGZ,decide_eq_false_iff_not,decide_eq_false_iff_not]at hm
    rw[if_neg (by omega),if_neg hw]at h
    unfold YgL at h
    dsimp only at h
    refine⟨fun hp=>⟨fun hq=>?_,fun hq=>?_⟩,fun hp=>⟨fun hq=>?_,fun hq=>?_⟩⟩
    ·rw[if_pos hp,if_pos hq]at h
     simp (disch:=omega) only[YGF]
     refine⟨⟨⟨by omega,by omega⟩,by omega,by omega⟩,_,⟨Yu _,big1 (by omega),by omega,by omega⟩,by decide,by decide,⟨⟨by omega,by omega⟩,by omega,by omega⟩,_,⟨Yu _,big1 (by omega),by omega,by omega⟩,by decide,by decide,fun hb=>?_,fun hb=>?_⟩
     ·rw[Ybh,if_neg (by rw[<-YHt,YGA]at hb;rw[hb];simp)]at h
      exact YF (r:=((0,0),7)) h
     ·rw[Ybh,if_pos (by rw[<-YHt,YG0]at hb;exact hb)]at h
      exact YF (r:=((_,_),0)) h
    ·rw[if_pos hp,if_neg hq]at h
     simp (disch:=omega) only[YGF]
     refine⟨⟨⟨by omega,by omega⟩,by omega,by omega⟩,_,⟨Yu _,big1 (by omega),by omega,by omega⟩,by decide,by decide,⟨⟨by omega,by omega⟩,by omega,by omega⟩,_,⟨Yu _,big1 (by omega),by omega,by omega⟩,by decide,by decide,fun hb=>?_,fun hb=>?_⟩
     ·rw[Ybh,if_neg (by rw[<-YHt,YGA]at hb;rw[hb];simp)]at h
      exact YF (r:=((0,0),7)) h
     ·rw[Ybh,if_pos (by rw[<-YHt,YG0]at hb;exact hb)]at h
      exact YF (r:=((_,_),0)) h
    ·rw[if_neg hp,if_pos hq]at h
     simp (disch:=omega) only[YGF]
     refine⟨⟨⟨by omega,by omega⟩,by omega,by omega⟩,_,⟨Yu _,big1 (by omega),by omega,by omega⟩,by decide,by decide,⟨⟨by omega,by omega⟩,by omega,by omega⟩,_,⟨Yu _,big1 (by omega),by omega,by omega⟩,by decide,by decide,fun hb=>?_,fun hb=>?_⟩
     ·rw[Ybh,if_neg (by rw[<-YHt,YGA]at hb;rw[hb];simp)]at h
      exact YF (r:=((0,0),7)) h
     ·rw[Ybh,if_pos (by rw[<-YHt,YG0]at hb;exact hb)]at h
      exact YF (r:=((_,_),0)) h
    ·rw[if_neg hp,if_neg hq]at h
     simp (disch:=omega) only[YGF]
     refine⟨⟨⟨by omega,by omega⟩,by omega,by omega⟩,_,⟨Yu _,big1 (by omega),by omega,by omega⟩,by decide,by decide,⟨⟨by omega,by omega⟩,by omega,by omega⟩,_,⟨Yu _,big1 (by omega),by omega,by omega⟩,by decide,by decide,fun hb=>?_,fun hb=>?_⟩
     ·rw[Ybh,if_neg (by rw[<-YHt,YGA]at hb;rw[hb];simp)]at h
      exact YF (r:=((0,0),7)) h
     ·rw[Ybh,if_pos (by rw[<-YHt,YG0]at hb;exact hb)]at h
      exact YF (r:=((_,_),0)) h
 ·exact h.1.elim
theorem pi_ok:piC.ok YGc 23:=by
 refine Yb Tryz.func23 YEU Yo5 200 piC fun args k h=>⟨args,?_⟩
 simp only[piC,ivoC]at h
 split at h
 ·rename_i x y
  refine⟨by simp [leL,le],?_⟩
  (try dsimp only[v23,Ygv,Yin,Ygw,ivlC,timC,spanC,Ye1,enc2,go_sem,reduceIte])
  (try simp only[Yc,YGa,YF9,reduceCtorEq,YF8])
  have h:k (.tup [.agg (enc2 (piF (x,y)).1),.int .i64 (piF (x,y)).2]) []:=h
  refine⟨by decide,[(x,y)],⟨⟨rfl,rfl,fun k hk=>match k,hk with|0,_=>Yd _⟩,by simp⟩,fun hc=>?_,fun hc=>?_⟩
  ·rw[piF,if_pos hc]at h
   exact YF (r:=errI (ivE [(x,y)])) h
  ·obtain⟨h1,h2,h3⟩:=ivE1 hc
   dsimp only at h1 h2 h3
   rw[piF,if_neg (by rw[hc];simp)]at h
   dsimp only at h
   refine⟨⟨⟨by omega,by omega⟩,by omega,by omega⟩,⟨⟨by omega,by omega⟩,by omega,by omega⟩,⟨⟨by omega,by omega⟩,by omega,by omega⟩,⟨⟨by omega,by omega⟩,by omega,by omega⟩,by decide,
    x*3141592653589793238,[x*3141592653589793239,y*3141592653589793238,y*3141592653589793239],⟨⟨rfl,rfl,fun k hk=>match k,hk with|0,_=>Yd _|1,_=>Yd _|2,_=>Yd _|3,_=>Yd _⟩,by simp,?_,by decide,by decide⟩,by decide,by decide,YF h⟩
   intro p hp
   simp only[YGK,List.not_mem_nil,or_false]at hp
   rcases hp with rfl|rfl|rfl|rfl <;> exact YlB (by omega) (by omega)
 ·exact h.1.elim
theorem Ysy:sclC.ok YGc 24:=by
 refine Yb Tryz.func24 YEV Yo5 200 sclC fun args k h=>⟨args,?_⟩
 simp only[sclC]at h
 split at h
 ·rename_i x y n d
  refine⟨by simp [leL,le],?_⟩
  (try dsimp only[v24,Ygv,YwL,Yin,Ygw,ivlC,numC,timC,spanC,Ye1,enc2,go_sem,reduceIte])
  (try simp only[Yc,YGa,YF9,reduceCtorEq,YF8])
  have h:k (.tup [.agg (enc2 (sclF (x,y) n d).1),.int .i64 (sclF (x,y) n d).2]) []:=h
  refine⟨by decide,[(x,y)],⟨⟨rfl,rfl,fun k hk=>match k,hk with|0,_=>Yd _⟩,by simp⟩,?_⟩
  refine⟨fun hc=>?_,fun hc=>?_⟩
  ·rw[sclF,if_pos hc]at h
   exact YF (r:=errI (ivE [(x,y)])) h
  ·obtain⟨h1,h2,h3⟩:=ivE1 hc
   dsimp only at h1 h2 h3
   rw[sclF,if_neg (by rw[hc];simp)]at h
   dsimp only at h
   have hnd:=numOk_iff (x:=d)
   have hnn:=numOk_iff (x:=n)
   have hcond:(decide (d<1) || !Ybg d|| !Ybg n)=true↔(d<1\/4611686018427387904<d\/n< -4611686018427387904\/4611686018427387904<n):=by
    rw[YG6,YG6,decide_eq_true_eq,YGA,YGA,Bool.eq_false_iff,Bool.eq_false_iff,ne_eq,ne_eq,hnd,hnn]
    omega
   refine⟨fun hb=>?_,fun hb=>?_⟩
   ·rw[if_pos (hcond.1 hb)]at h
    exact YF (r:=errI 2) h
   ·have hb':¬(d<1\/4611686018427387904<d\/n< -4611686018427387904\/4611686018427387904<n):=fun hh=>by
     have:=hcond.2 hh
     rw[hb]at this;cases this
    rw[if_neg hb']at h
    rw[YGF d (by omega)]
    refine⟨⟨⟨by omega,by omega⟩,by omega,by omega⟩,⟨⟨by omega,by omega⟩,by omega,by omega⟩,by decide,
     x*n,[y*n],⟨⟨rfl,rfl,fun k hk=>match k,hk with|0,_=>Yd _|1,_=>Yd _⟩,by simp,?_,by omega,by omega⟩,by decide,by decide,YF h⟩
    intro p hp
    simp only[YGK,List.not_mem_nil,or_false]at hp
    rcases hp with rfl|rfl <;> exact YlB (by omega) (by omega)
 ·exact h.1.elim
def v145:VF:=⟨34,[.tmp 4,.tmp 5],(ZR [u1 4 .mov [.cn (.int .u64 0)],u1 5 .mov [.cn (.bool false)]] (ZR [u1 6 .mov [.cn (.int .u64 1)]] (.seq (ZR [Zm 9 0,u1 10 (.cmp .lss) [.tm 9,.cn (.int .u64 2)],Zm 11 10,Zg 12 11 true 1,u2 13 11 true (.cmp .gtr) [.tm 12,.cn (.int .i64 0)],u1 14 .and [.tm 11,.tm 13]] (ZC 14 (ZR [Zm 15 0,Zm 4 15,u1 5 .mov [.cn (.bool true)]] .ret) .skip)) (.seq (ZR [Zm 16 1,Zi 17 0] (.block 0 (.loop (ZR [Zr 18 .lss 17 16] (.seq (ZC 18 .skip (.exit 0)) (.seq (.block 1 (ZR [Zm 20 6,Zm 21 0,Zd 22 80 20 21,Zm 19 22,Ze 23 0 19,Ze 24 1 19,Zm 7 23,Zm 8 24] (.seq (ZR [Zm 25 7,u1 26 (.cmp .neq) [.tm 25,.cn (.int .u64 0)],Zm 27 26,Zg 28 27 false 8,u2 29 27 false (.cmp .gtr) [.tm 28,.cn (.int .u64 4611686018427387904)],u1 30 .or [.tm 27,.tm 29]] (ZC 30 (ZR [u1 4 .mov [.cn (.int .u64 0)],u1 5 .mov [.cn (.bool false)]] .ret) .skip)) (.region [Zm 31 8,Zm 6 31])))) (.region [Zp 32 17 1,Zm 17 32]))))))) (ZR [Zm 33 6,Zm 4 33,u1 5 .mov [.cn (.bool true)]] .ret)))))⟩
theorem YAT:Yg YGc Tryz.f145=some v145:=by kernel_rfl
def v144:VF:=⟨45,[.tmp 4],(ZR [u1 4 .mov [.cn (.int .u64 0)]] (ZR [Zm 10 0,u1 11 (.ari .add) [.tm 10,.cn (.int .u64 1)],u1 5 .mov [.cn (.int .u64 0)],Zm 6 11] (.seq (ZR [Zm 12 1,Zq 13 .gtr 12 1] (ZC 13 (.region [Zm 14 6,Zm 15 1,u1 16 .quo [.cn (.int .i64 62),.tm 15],Zp 17 16 1,u1 18 .shl [.cn (.int .u64 1),.tm 17],u1 19 .min [.tm 14,.tm 18],Zm 6 19]) .skip)) (.seq (.block 0 (.loop (.seq (ZR [Zm 20 6,Zm 21 5,Zo 22 .sub 20 21,u1 23 (.cmp .gtr) [.tm 22,.cn (.int .u64 1)]] (ZC 23 .skip (.exit 0))) (.block 1 (ZR [Zm 24 5,Zm 25 6,Zm 26 5,Zo 27 .sub 25 26,u1 28 .quo [.tm 27,.cn (.int .u64 2)],Zo 29 .add 24 28,Zm 7 29] (ZR [Zm 31 7,Zm 32 1,Zd 33 145 31 32,Zm 30 33,Ze 34 0 30,Ze 35 1 30,Zm 8 34,Zm 9 35] (ZR [Zm 36 9,Zm 37 36,Zg 38 37 true 8,Zg 39 37 true 0,u2 40 37 true (.cmp .leq) [.tm 38,.tm 39],u1 41 .and [.tm 37,.tm 40]] (ZC 41 (.region [Zm 42 7,Zm 5 42]) (.region [Zm 43 7,Zm 6 43]))))))))) (ZR [Zm 44 5,Zm 4 44] .ret)))))⟩
theorem YAS:Yg YGc Tryz.f144=some v144:=by kernel_rfl
def v118:VF:=⟨58,[.cell 4 true 2,.tmp 5],(ZR [u1 2 .box [.tm 0],Zn 4,Zi 5 0] (ZR [Zt 10 2 2,u1 11 (.buildSlice 2 1 [(.int .i64 0),(.int .i64 0)] [(0,2)]) [.tm 10],Zc 12 46 11,Zm 6 12] (.seq (.block 0 (ZR [Zm 14 6,Zq 15 .neq 14 0,Zm 13 15] (ZC 13 (ZR [u1 16 (.build [(.int .i64 0),(.int .i64 0)] []) [],Zm 17 6,Zs 2 4 16,Zm 5 17] .ret) (ZR [Zm 19 1,Zq 20 .lss 19 1,Zm 21 20,Zg 22 21 false 1,u2 23 21 false (.cmp .gtr) [.tm 22,.cn (.int .i64 62)],u1 24 .or [.tm 21,.tm 23],Zm 18 24] (ZC 18 (ZR [u1 25 (.build [(.int .i64 0),(.int .i64 0)] []) [],Zs 2 4 25,Zi 5 2] .ret) (ZR [Za 27 0 2,Zf 28 1 27,Zq 29 .lss 28 0,Zm 26 29] (ZC 26 (ZR [u1 30 (.build [(.int .i64 0),(.int .i64 0)] []) [],Zs 2 4 30,Zi 5 9] .ret) .skip))))))) (ZR [Za 31 1 2,Zf 32 1 31,u1 33 (.conv .u64) [.tm 32],Zm 34 1,Zd 35 144 33 34,Zm 7 35] (.seq (ZR [Zm 37 7,Zm 38 1,Zd 39 145 37 38,Zm 36 39,Ze 40 0 36,Ze 41 1 36,Zm 8 40,Zm 9 41] (ZR [Zm 42 8,Za 43 1 2,Zf 44 1 43,u1 45 (.conv .u64) [.tm 44],Zr 46 .lss 42 45] (ZC 46 (.region [Zm 47 7,u1 48 (.ari .add) [.tm 47,.cn (.int .u64 1)],Zm 7 48]) .skip))) (ZR [Za 49 0 2,Zf 50 1 49,u1 51 (.conv .u64) [.tm 50],Zm 52 1,Zd 53 144 51 52,u1 54 (.conv .i64) [.tm 53],Zm 55 7,u1 56 (.conv .i64) [.tm 55],u1 57 (.build [(.int .i64 0),(.int .i64 0)] [(0,1),(1,1)]) [.tm 54,.tm 56],Zs 2 4 57,Zi 5 0] .ret))))))⟩
theorem YAt:Yg YGc Tryz.f118=some v118:=by kernel_rfl
def powP(n k:Nat):Nat×Bool:=if n^k<=4611686018427387904 then(n^k,true)else(0,false)
def powpC:Ctr:={ alias:=false,of:=fun l=>match l with
 | [.int .u64 n,.int .i64 k]=> .pre ((0<=n/\n<=18446744073709551615)/\0<=k/\k<=1000) (.fin (.tup [.int .u64 (powP n.toNat k.toNat).1,.bool (powP n.toNat k.toNat).2]) [])
 |_=>noC}
def rootpC:Ctr:={ alias:=false,of:=fun l=>match l with
 | [.int .u64 n,.int .i64 k]=> .pre ((0<=n/\n<=4611686018427387904)/\1<=k/\k<=62) (.fin (.int .u64 (Yd8 n.toNat k.toNat)) [])
 |_=>noC}
def rootC:Ctr:={ alias:=false,of:=fun a=>match a with
 | [.agg [.int .i64 x,.int .i64 y],.int .i64 k]=> .fin (.tup [.agg (enc2 (Yl6 (x,y) k).1),.int .i64 (Yl6 (x,y) k).2]) []
 |_=>noC}
def P5:Env:={ ct:=fun n=>match n with|80=>some mul64C|109=>some div64C|_=>none,fn:=fun _=>none,meth:=fun _ _=>none}
theorem YwO:P5.ct 80=some mul64C:=rfl
theorem P5_ok:Yq YGc P5:=by
 refine⟨fun f c h=>?_,fun f vf h=>?_,(fun _ _ _ h=>by cases h),by kernel_rfl,(fun _ h=>by cases h)⟩
 ·simp only[P5]at h
  split at h
  ·cases h;exact⟨Ye3,Tryz.f80,Tryz.func80,by kernel_rfl,by kernel_rfl⟩
  ·cases h;exact⟨YiQ,Tryz.f109,Tryz.func109,by kernel_rfl,by kernel_rfl⟩
  ·cases h
 ·cases h
theorem Yp1{k:SV->List HO->Prop}{al:Bool}{hp:List HO}{κ:IntKind}{x:Int}{b:Bool}(h:k (.tup [.int κ x,.bool b]) []):YD al k (.tup [.int κ x,.bool b]) hp:=
 YC (show k _ []from h) (Yv (.tup [.int κ x,.bool b]) ⟨trivial,trivial,trivial⟩) (fun _=>by simp [Yl,Ym])
theorem Yr4:powpC.ok YGc 145:=by
 refine Yb Tryz.func145 YAT P5_ok 300 powpC fun args k h=>⟨args,?_⟩
 simp only[powpC]at h
 split at h
 ·rename_i n e
  obtain⟨⟨⟨h0,h1⟩,h2,h3⟩,h⟩:=h
  obtain⟨n,rfl⟩:=YGM h0
  obtain⟨e,rfl⟩:=YGM h2
  refine⟨by simp [leL,le],?_⟩
  (try dsimp only[v145,go_sem,reduceIte])
  (try simp only[Yc,YGa,YF9,reduceCtorEq,YF8])
  have h:k (.tup [.int .u64 (powP n e).1,.bool (powP n e).2]) []:=h
  refine⟨fun hc=>?_,fun hc=>?_⟩
  ·rw[YGi,decide_eq_true_eq,decide_eq_true_eq]at hc
   have:n^e=n:=by
    rcases(by omega:n=0\/n=1)with rfl|rfl
    ·exact Nat.zero_pow (by omega)
    ·exact Nat.one_pow _
   rw[powP,this,if_pos (by omega)]at h
   exact Yp1 h
  ·rw[YGZ,decide_eq_false_iff_not,decide_eq_false_iff_not]at hc
   refine Loop.keep [0,15] Nat (fun i=>[(6,.int .u64 ((n^i:Nat):Int)),(17,.int .i64 i)]) (fun _=>[]) [] (fun i=>i<=e/\n^i<=4611686018427387904) (fun i=>e-i) ?_ ?_
   ·refine⟨0,⟨YHk _,by simp⟩,?_⟩
    (try dsimp only[go_sem,reduceIte])
    simp only[Ya] <;> simp
   ·rintro i ⟨hi,hp⟩
    (try dsimp only[YwO,mul64C,go_sem,reduceIte])
    (try simp only[Yc,YGa,YF9,reduceCtorEq,YF8])
    have e0:((n^i:Nat):Int)*(n:Int)=((n^(i+1):Nat):Int):=by rw[YGt];exact(YG1 _ _).symm
    rw[e0]
    refine⟨fun hlt=>⟨⟨⟨by omega,by omega⟩,by omega,by omega⟩,by decide,by decide,fun hb=>?_,fun hb=>⟨i+1,⟨by omega,?_⟩,by omega,?_⟩⟩,fun hge=>?_⟩
    ·have hbig:4611686018427387904<n^(i+1):=by
      rw[YG6,YGA,decide_eq_false_iff_not,decide_eq_true_eq]at hb
      generalize n^(i+1)=t at*
      omega
     have hle:n^(i+1)<=n^e:=YGs (by omega) (by omega)
     rw[powP,if_neg (by omega)]at h
     exact Yp1 h
    ·rw[YG8,YG0,decide_eq_true_eq,decide_eq_false_iff_not]at hb
     generalize n^(i+1)=t at*
     omega
    ·have hm:((n^(i+1):Nat):Int)%18446744073709551616=((n^(i+1):Nat):Int):=by
      rw[YG8,YG0,decide_eq_true_eq,decide_eq_false_iff_not]at hb
      generalize n^(i+1)=t at*
      omega
     rw[hm,Yed (n:=e) (by omega) (by omega)]
     simp only[Ya] <;> simp
    ·obtain rfl:i=e:=by omega
     rw[powP,if_pos hp]at h
     exact Yp1 h
 ·exact h.1.elim
def P6:Env:={ ct:=fun n=>match n with|80=>some mul64C|109=>some div64C|145=>some powpC|81=>some sizC|46=>some ivlC|_=>none,fn:=fun _=>none,meth:=fun _ _=>none}
theorem Ymp:P6.ct 145=some powpC:=rfl
theorem P6_ok:Yq YGc P6:=by
 refine⟨fun f c h=>?_,fun f vf h=>?_,(fun _ _ _ h=>by cases h),by kernel_rfl,(fun _ h=>by cases h)⟩
 ·simp only[P6]at h
  split at h
  ·cases h;exact⟨Ye3,Tryz.f80,Tryz.func80,by kernel_rfl,by kernel_rfl⟩
  ·cases h;exact⟨YiQ,Tryz.f109,Tryz.func109,by kernel_rfl,by kernel_rfl⟩
  ·cases h;exact⟨Yr4,Tryz.f145,Tryz.func145,by kernel_rfl,by kernel_rfl⟩
  ·cases h;exact⟨Ywq,Tryz.f81,Tryz.func81,by kernel_rfl,by kernel_rfl⟩
  ·cases h;exact⟨Ynv,Tryz.f46,Tryz.func46,by kernel_rfl,by kernel_rfl⟩
  ·cases h
 ·cases h
theorem Yvg:rootpC.ok YGc 144:=by
 refine Yb Tryz.func144 YAS P6_ok 300 rootpC fun args k h=>⟨args,?_⟩
 simp only[rootpC]at h
 split at h
 ·rename_i n e
  obtain⟨⟨⟨h0,h1⟩,h2,h3⟩,h⟩:=h
  obtain⟨n,rfl⟩:=YGM h0
  obtain⟨e,rfl⟩:=YGM (by omega:0<=e)
  refine⟨by simp [leL,le],?_⟩
  (try dsimp only[v144,go_sem,reduceIte])
  (try simp only[Yc,YGa,YF9,reduceCtorEq,YF8])
  have h:k (.int .u64 (Yd8 n e)) []:=h
  have e1:IntKind.i64.wrap (IntKind.i64.wrap (Int.tdiv 62 (e:Int))+1)=((62/e+1:Nat):Int):=by
   have:Int.tdiv 62 (e:Int)=((62/e:Nat):Int):=YHh (x:=62) rfl rfl
   have hle:62/e<=62:=YHm _ _
   generalize 62/e=t at*
   rw[this,YGd (t:Int) (by omega),YGd _ (by omega)];omega
  have e2:IntKind.u64.wrap ((n:Int)+1)=((n+1:Nat):Int):=by rw[YGF _ (by omega)];omega
  refine⟨fun hgt=>⟨by omega,?_⟩,fun hle=>?_⟩
  ·have hq:62/e<=31:=by
    have:62/e<=62/2:=Nat.div_le_div_left (by omega) (by decide)
    omega
   have e3:IntKind.u64.wrap (1*2^min (62/e+1) 64)=((2^(62/e+1):Nat):Int):=by
    have h1:=YfH (x:=1) (s:=62/e+1) (by omega) (by
     rw[YGW]
     exact YGN (YGs (by decide) (by omega:62/e+1<=32)) (by decide))
    rw[YGW]at h1
    exact h1
   rw[e1,e2]
   simp only[YGb]
   rw[e3]
   refine⟨Int.natCast_nonneg _,?_⟩
   have hhigh:n<(min (n+1) (2^(62/e+1)))^e:=by
    rcases Nat.le_total (n+1) (2^(62/e+1))with hm|hm
    ·rw[Nat.min_eq_left hm]
     exact YGV (Nat.lt_succ_self n) (YGg (YGu (YHr _).symm) (YGs (by omega) (by omega)))
    ·rw[Nat.min_eq_right hm,<-YGn]
     have h63:63<=(62/e+1)*e:=by
      have:=YGP 62 e
      have:=YGJ 62 (by omega:e>0)
      rw[YHD,YGj];omega
     exact YGV (by omega:n<2^63) (YGs (by decide) h63)
   have hm:min ((n+1:Nat):Int) ((2^(62/e+1):Nat):Int)=((min (n+1) (2^(62/e+1)):Nat):Int):=by omega
   rw[hm]
   have hmb:min (n+1) (2^(62/e+1))<=n+1:=Nat.min_le_left _ _
   generalize min (n+1) (2^(62/e+1))=H at hhigh hmb⊢
   refine Loop.keep [0,0] (Nat×Nat) (fun x=>[(5,.int .u64 x.1),(6,.int .u64 x.2)]) (fun _=>[]) [] (fun x=>x.1^e<=n/\n<x.2^e/\x.1<x.2/\x.2<=n+1) (fun x=>x.2-x.1) ?_ ?_
   ·refine⟨(0,H),⟨by rw[Nat.zero_pow (by omega)];exact YHk _,hhigh,?_,by omega⟩,?_⟩
    ·refine Nat.pos_of_ne_zero fun h0=>?_
     have h0:H=0:=h0
     rw[h0,Nat.zero_pow (by omega)]at hhigh
     exact absurd hhigh (YG7 _)
    ·(try dsimp only[go_sem,reduceIte])
     simp only[Ya] <;> simp
   ·rintro⟨l,u⟩ ⟨hl,hu,hlu,hun⟩
    dsimp only at hl hu hlu hun
    (try dsimp only[Ymp,powpC,go_sem,reduceIte])
    (try simp only[Yc,YGa,YF9,reduceCtorEq,YF8])
    have w1:IntKind.u64.wrap ((u:Int)-(l:Int))=((u-l:Nat):Int):=YsU (by omega) (by omega)
    have w2:IntKind.u64.wrap (((u-l:Nat):Int).tdiv 2)=(((u-l)/2:Nat):Int):=by
     have:((u-l:Nat):Int).tdiv 2=(((u-l)/2:Nat):Int):=YHh (y:=2) rfl rfl
     rw[this];exact Ya7 (by omega)
    have w3:IntKind.u64.wrap ((l:Int)+(((u-l)/2:Nat):Int))=((l+(u-l)/2:Nat):Int):=Yea (by omega)
    rw[w1,w2,w3]
    simp only[YGb]
    refine⟨fun hgt=>⟨by decide,⟨⟨by omega,by omega⟩,by omega,by omega⟩,by decide,by decide,?_⟩,fun hle=>?_⟩
    ·generalize hM:l+(u-l)/2=M
     have hM1:l<M:=by omega
     have hM2:M<u:=by omega
     have hcond:((powP M e).2&&decide (((powP M e).1:Int)<=(n:Int)))=true↔M^e<=n:=by
      unfold powP
      split
      ·simp only[YHq,decide_eq_true_eq]
       generalize M^e=t
       omega
      ·simp only[YHp,YGC,false_iff]
       generalize M^e=t at*
       omega
     refine⟨fun hb=>⟨(M,u),⟨hcond.1 hb,hu,hM2,hun⟩,by simp only;omega,?_⟩,fun hb=>⟨(l,M),⟨hl,?_,hM1,by simp only;omega⟩,by simp only;omega,?_⟩⟩
     ·simp only[Ya]
     ·refine Nat.lt_of_not_le fun hh=>?_
      have:=hcond.2 hh
      rw[hb]at this;cases this
     ·simp only[Ya]
    ·obtain rfl:u=l+1:=by omega
     rw[Yjz (by omega) hl hu]at h
     exact Yf h
  ·have hhigh:n<(n+1)^e:=YGV (Nat.lt_succ_self n) (YGg (YGu (YHr _).symm) (YGs (by omega) (by omega)))
   rw[e2]
   have hmb:n+1<=n+1:=YGr _
   generalize hH:n+1=H at hhigh⊢
   rw[hH]at hmb
   refine Loop.keep [0,0] (Nat×Nat) (fun x=>[(5,.int .u64 x.1),(6,.int .u64 x.2)]) (fun _=>[]) [] (fun x=>x.1^e<=n/\n<x.2^e/\x.1<x.2/\x.2<=n+1) (fun x=>x.2-x.1) ?_ ?_
   ·refine⟨(0,H),⟨by rw[Nat.zero_pow (by omega)];exact YHk _,hhigh,?_,by omega⟩,?_⟩
    ·refine Nat.pos_of_ne_zero fun h0=>?_
     have h0:H=0:=h0
     rw[h0,Nat.zero_pow (by omega)]at hhigh
     exact absurd hhigh (YG7 _)
    ·(try dsimp only[go_sem,reduceIte])
     simp only[Ya] <;> simp
   ·rintro⟨l,u⟩ ⟨hl,hu,hlu,hun⟩
    dsimp only at hl hu hlu hun
    (try dsimp only[Ymp,powpC,go_sem,reduceIte])
    (try simp only[Yc,YGa,YF9,reduceCtorEq,YF8])
    have w1:IntKind.u64.wrap ((u:Int)-(l:Int))=((u-l:Nat):Int):=YsU (by omega) (by omega)
    have w2:IntKind.u64.wrap (((u-l:Nat):Int).tdiv 2)=(((u-l)/2:Nat):Int):=by
     have:((u-l:Nat):Int).tdiv 2=(((u-l)/2:Nat):Int):=YHh (y:=2) rfl rfl
     rw[this];exact Ya7 (by omega)
    have w3:IntKind.u64.wrap ((l:Int)+(((u-l)/2:Nat):Int))=((l+(u-l)/2:Nat):Int):=Yea (by omega)
    rw[w1,w2,w3]
    simp only[YGb]
    refine⟨fun hgt=>⟨by decide,⟨⟨by omega,by omega⟩,by omega,by omega⟩,by decide,by decide,?_⟩,fun hle=>?_⟩
    ·generalize hM:l+(u-l)/2=M
     have hM1:l<M:=by omega
     have hM2:M<u:=by omega
     have hcond:((powP M e).2&&decide (((powP M e).1:Int)<=(n:Int)))=true↔M^e<=n:=by
      unfold powP
      split
      ·simp only[YHq,decide_eq_true_eq]
       generalize M^e=t
       omega
      ·simp only[YHp,YGC,false_iff]
       generalize M^e=t at*
       omega
     refine⟨fun hb=>⟨(M,u),⟨hcond.1 hb,hu,hM2,hun⟩,by simp only;omega,?_⟩,fun hb=>⟨(l,M),⟨hl,?_,hM1,by simp only;omega⟩,by simp only;omega,?_⟩⟩
     ·simp only[Ya]
     ·refine Nat.lt_of_not_le fun hh=>?_
      have:=hcond.2 hh
      rw[hb]at this;cases this
     ·simp only[Ya]
    ·obtain rfl:u=l+1:=by omega
     rw[Yjz (by omega) hl hu]at h
     exact Yf h
 ·exact h.1.elim
def P7:Env:={ ct:=fun n=>match n with|145=>some powpC|144=>some rootpC|46=>some ivlC|_=>none,fn:=fun _=>none,meth:=fun _ _=>none}
theorem Ytd:P7.ct 145=some powpC:=rfl
theorem Ytc:P7.ct 144=some rootpC:=rfl
theorem YwP:P7.ct 46=some ivlC:=rfl
theorem P7_ok:Yq YGc P7:=by
 refine⟨fun f c h=>?_,fun f vf h=>?_,(fun _ _ _ h=>by cases h),by kernel_rfl,(fun _ h=>by cases h)⟩
 ·simp only[P7]at h
  split at h
  ·cases h;exact⟨Yr4,Tryz.f145,Tryz.func145,by kernel_rfl,by kernel_rfl⟩
  ·cases h;exact⟨Yvg,Tryz.f144,Tryz.func144,by kernel_rfl,by kernel_rfl⟩
  ·cases h;exact⟨Ynv,Tryz.f46,Tryz.func46,by kernel_rfl,by kernel_rfl⟩
  ·cases h
 ·cases h
theorem YnV{n k:Nat}(hk:0<k):Yd8 n k<=n:=by
 have h:=(YfE (n:=n) hk).1
 generalize Yd8 n k=r at*
 cases r with
 |zero=>exact YHk _
 |succ r=>exact YGg (YGg (YGu (YHr _).symm) (YGs (by omega) hk)) h
theorem YzO:rootC.ok YGc 118:=by
 refine Yb Tryz.func118 YAt P7_ok 300 rootC fun args k h=>⟨args,?_⟩
 simp only[rootC]at h
 split at h
 ·rename_i x y e
  refine⟨by simp [leL,le],?_⟩
  (try dsimp only[v118,YwP,Ytd,Ytc,ivlC,powpC,rootpC,enc2,go_sem,reduceIte])
  (try simp only[Yc,YGa,YF9,reduceCtorEq,YF8])
  have h:k (.tup [.agg (enc2 (Yl6 (x,y) e).1),.int .i64 (Yl6 (x,y) e).2]) []:=h
  refine⟨by decide,[(x,y)],⟨⟨rfl,rfl,fun k hk=>match k,hk with|0,_=>Yd _⟩,by simp⟩,fun hc=>?_,fun hc=>?_⟩
  ·rw[Yl6,if_pos hc]at h
   exact YF (r:=errI (ivE [(x,y)])) h
  ·obtain⟨h1,h2,h3⟩:=ivE1 hc
   dsimp only at h1 h2 h3
   rw[Yl6,if_neg (by rw[hc];simp)]at h
   dsimp only at h
   refine⟨fun hb=>?_,fun hb=>⟨fun hx=>?_,fun hx=>?_⟩⟩
   ·rw[YG6,decide_eq_true_eq,decide_eq_true_eq]at hb
    rw[if_pos hb]at h
    exact YF (r:=errI 2) h
   ·rw[YG8,decide_eq_false_iff_not,decide_eq_false_iff_not]at hb
    rw[if_neg (by omega),if_pos hx]at h
    exact YF (r:=errI 9) h
   ·rw[YG8,decide_eq_false_iff_not,decide_eq_false_iff_not]at hb
    rw[if_neg (by omega),if_neg hx]at h
    obtain⟨x,rfl⟩:=YGM (by omega:0<=x)
    obtain⟨y,rfl⟩:=YGM (by omega:0<=y)
    obtain⟨e,rfl⟩:=YGM (by omega:0<=e)
    rw[YGF (x:Int) (by omega),YGF (y:Int) (by omega)]
    simp only[YGb]at h⊢
    have sx:=YfE (n:=x) (k:=e) (by omega)
    have sy:=YfE (n:=y) (k:=e) (by omega)
    have lx:=YnV (n:=x) (k:=e) (by omega)
    have ly:=YnV (n:=y) (k:=e) (by omega)
    have hp:powP (Yd8 y e) e=(Yd8 y e^e,true):=by unfold powP;rw[if_pos (by omega)]
    rw[hp]
    unfold Ywl at h
    generalize Yd8 x e=rx at*
    generalize Yd8 y e=ry at*
    rw[YGd (rx:Int) (by omega),YGd (ry:Int) (by omega),YGF ((ry:Int)+1) (by omega),YGd ((ry:Int)+1) (by omega)]
    refine⟨⟨⟨by omega,by omega⟩,by omega,by omega⟩,⟨⟨by omega,by omega⟩,by omega,by omega⟩,by decide,by decide,fun hc=>⟨⟨⟨by omega,by omega⟩,by omega,by omega⟩,?_⟩,fun hc=>⟨⟨⟨by omega,by omega⟩,by omega,by omega⟩,?_⟩⟩
    ·rw[if_pos (by omega)]at h
     exact YF (r:=((_,_),0)) h
    ·rw[if_neg (by omega)]at h
     exact YF (r:=((_,_),0)) h
 ·exact h.1.elim
set_option maxHeartbeats 8000000
def v35:VF:=⟨59,[.tmp 2],(ZR [u1 1 .box [.tm 0],Zi 2 0] (ZR [Za 4 2 1,Zf 5 1 4,Za 6 1 1,Zf 7 1 6,Zr 8 .eql 5 7,Za 9 2 1,Zf 10 1 9,Za 11 1 1,Zf 12 1 11,Zr 13 .eql 10 12,Za 14 2 1,Zf 15 1 14,Za 16 1 1,Zf 17 1 16,Zr 18 .lss 15 17,u1 19 (.build [(.bool false),(.bool false),(.bool false),(.bool false)] [(1,1),(2,1),(3,1)]) [.tm 8,.tm 13,.tm 18],u1 3 (.allocArr 4 1 [(.bool false),(.bool false),(.bool false),(.bool false)]) [],Zs 4 3 19] (.seq (ZR [Za 20 0 1,Zf 21 1 20,u1 22 (.call 34) [.tm 21,.cn (.int .i64 1),.cn (.int .i64 3)],u1 23 .not [.tm 22],Zm 24 23,Zj 25 24 false 0 1,Zh 26 24 false 1 25,u2 27 24 false (.idxArr 4 1) [.tm 3,.tm 26],Zh 28 24 false 1 27,u2 29 24 false .not [.tm 28],u1 30 .or [.tm 24,.tm 29]] (ZC 30 (ZR [Zi 2 2] .ret) .skip)) (.seq (ZR [Za 31 1 1,Zf 32 1 31,u1 33 (.call 34) [.tm 32,.cn (.int .i64 1000),.cn (.int .i64 500000)],u1 34 .not [.tm 33],Zm 35 34,Zj 36 35 false 2 1,Zh 37 35 false 1 36,u2 38 35 false (.call 34) [.tm 37,.cn (.int .i64 1000),.cn (.int .i64 500000)],u2 39 35 false .not [.tm 38],u1 40 .or [.tm 35,.tm 39],Zm 41 40,Zj 42 41 false 3 1,Zh 43 41 false 1 42,Zj 44 41 false 1 1,Zh 45 41 false 1 44,u2 46 41 false (.ari .mul) [.cn (.int .i64 4),.tm 45],u2 47 41 false (.call 34) [.tm 43,.cn (.int .i64 1),.tm 46],u2 48 41 false .not [.tm 47],u1 49 .or [.tm 41,.tm 48],Zm 50 49,Zj 51 50 false 4 1,Zh 52 50 false 1 51,Zj 53 50 false 1 1,Zh 54 50 false 1 53,u2 55 50 false (.ari .mul) [.cn (.int .i64 4),.tm 54],u2 56 50 false (.call 34) [.tm 52,.cn (.int .i64 1),.tm 55],u2 57 50 false .not [.tm 56],u1 58 .or [.tm 50,.tm 57]] (ZC 58 (ZR [Zi 2 2] .ret) .skip)) (ZR [Zi 2 0] .ret)))))⟩
theorem YE6:Yg YGc Tryz.f35=some v35:=by kernel_rfl
def v34:VF:=⟨15,[.tmp 6],(ZR [u1 6 .mov [.cn (.bool false)]] (ZR [Zm 7 0,Zm 8 1,Zr 9 .geq 7 8,Zm 10 9,Zg 11 10 true 0,Zg 12 10 true 2,u2 13 10 true (.cmp .leq) [.tm 11,.tm 12],u1 14 .and [.tm 10,.tm 13],Zm 6 14] .ret))⟩
theorem YE5:Yg YGc Tryz.f34=some v34:=by kernel_rfl
def encY(b:Bdy):List SV:=[.int .i64 b.kind,.int .i64 b.bottom,.int .i64 b.top,.int .i64 b.mouth,.int .i64 b.cut]
def chkBC:Ctr:={ alias:=false,of:=fun l=>match l with
 | [.agg [.int .i64 a,.int .i64 b,.int .i64 c,.int .i64 d,.int .i64 e]]=> .fin (.int .i64 (chkB ⟨a,b,c,d,e⟩)) []
 |_=>noC}
def inC:Ctr:={ alias:=false,of:=fun l=>match l with
 | [.int .i64 n,.int .i64 a,.int .i64 b]=> .fin (.bool (inF n a b)) []
 |_=> .pre False (.fin (.bool false) [])}
def L00:Env:={ ct:=fun _=>none,fn:=fun _=>none,meth:=fun _ _=>none}
theorem YBo:Yq YGc L00:=by
 refine⟨fun f c h=>?_,fun f vf h=>?_,(fun _ _ _ h=>by cases h),by kernel_rfl,(fun _ h=>by cases h)⟩
 ·cases h
 ·cases h
theorem in_c:inC.ok YGc 34:=by
 refine Yb Tryz.func34 YE5 YBo 100 inC fun args k h=>?_
 simp only[inC]at h
 split at h
 ·rename_i n a b
  refine⟨[.int .i64 n,.int .i64 a,.int .i64 b],by simp [leL,le],?_⟩
  dsimp only[v34,go_sem,reduceIte]
  simp only[Yc,YGa,YF9,reduceCtorEq,YF8]
  exact YK h
 ·exact h.1.elim
def L0:Env:={ ct:=fun n=>match n with|34=>some inC|_=>none,fn:=fun _=>none,meth:=fun _ _=>none}
theorem Yee:L0.ct 34=some inC:=rfl
theorem L0_ok:Yq YGc L0:=by
 refine⟨fun f c h=>?_,fun f vf h=>?_,(fun _ _ _ h=>by cases h),by kernel_rfl,(fun _ h=>by cases h)⟩
 ·simp only[L0]at h
  split at h
  ·cases h;exact⟨in_c,Tryz.f34,Tryz.func34,by kernel_rfl,by kernel_rfl⟩
  ·cases h
 ·cases h
theorem Yqo:chkBC.ok YGc 35:=by
 refine Yb Tryz.func35 YE6 L0_ok 300 chkBC fun args k h=>?_
 simp only[chkBC]at h
 split at h
 ·rename_i a b c d e
  refine⟨[.agg [.int .i64 a,.int .i64 b,.int .i64 c,.int .i64 d,.int .i64 e]],by simp [leL,le],?_⟩
  by_cases h1:a=1
  ·subst h1
   have hin:inF 1 1 3=true:=by decide
   have hsh:Yld ⟨1,b,c,d,e⟩=decide (c=b):=rfl
   dsimp only[v35,Yee,inC,Int.reduceToNat,YHC,YHw,Int.toNat_one,go_sem,reduceIte]
   simp only[Yc,YGa,YF9,reduceCtorEq,YF8]
   simp only[chkB,hin,hsh,YHq]at h
   refine⟨by decide,by decide,by decide,fun hc=>?_,fun hc=>?_⟩
   ·rw[hin,Bool.not_true,YHx,YGA]at hc
    rw[hc,if_neg (by decide)]at h
    exact Yf h
   ·rw[hin,Bool.not_true,YHx,YG0]at hc
    rw[hc,if_pos rfl]at h
    refine⟨fun hd=>?_,fun hd=>?_⟩
    ·rw[if_neg (fun hh=>by
      simp only[YGi]at hh
      rw[hh.1.1.1,hh.1.1.2,hh.1.2,hh.2]at hd
      cases hd)]at h
     exact Yf h
    ·simp only[YG8,YG0]at hd
     rw[if_pos (by simp only[YGi];exact hd)]at h
     exact Yf h
  by_cases h2:a=2
  ·subst h2
   have hin:inF 2 1 3=true:=by decide
   have hsh:Yld ⟨2,b,c,d,e⟩=decide (c=b):=rfl
   dsimp only[v35,Yee,inC,Int.reduceToNat,YHC,YHw,Int.toNat_one,go_sem,reduceIte]
   simp only[Yc,YGa,YF9,reduceCtorEq,YF8]
   simp only[chkB,hin,hsh,YHq]at h
   refine⟨by decide,by decide,by decide,fun hc=>?_,fun hc=>?_⟩
   ·rw[hin,Bool.not_true,YHx,YGA]at hc
    rw[hc,if_neg (by decide)]at h
    exact Yf h
   ·rw[hin,Bool.not_true,YHx,YG0]at hc
    rw[hc,if_pos rfl]at h
    refine⟨fun hd=>?_,fun hd=>?_⟩
    ·rw[if_neg (fun hh=>by
      simp only[YGi]at hh
      rw[hh.1.1.1,hh.1.1.2,hh.1.2,hh.2]at hd
      cases hd)]at h
     exact Yf h
    ·simp only[YG8,YG0]at hd
     rw[if_pos (by simp only[YGi];exact hd)]at h
     exact Yf h
  by_cases h3:a=3
  ·subst h3
   have hin:inF 3 1 3=true:=by decide
   have hsh:Yld ⟨3,b,c,d,e⟩=decide (c<b):=rfl
   dsimp only[v35,Yee,inC,Int.reduceToNat,YHC,YHw,Int.toNat_one,go_sem,reduceIte]
   simp only[Yc,YGa,YF9,reduceCtorEq,YF8]
   simp only[chkB,hin,hsh,YHq]at h
   refine⟨by decide,by decide,by decide,fun hc=>?_,fun hc=>?_⟩
   ·rw[hin,Bool.not_true,YHx,YGA]at hc
    rw[hc,if_neg (by decide)]at h
    exact Yf h
   ·rw[hin,Bool.not_true,YHx,YG0]at hc
    rw[hc,if_pos rfl]at h
    refine⟨fun hd=>?_,fun hd=>?_⟩
    ·rw[if_neg (fun hh=>by
      simp only[YGi]at hh
      rw[hh.1.1.1,hh.1.1.2,hh.1.2,hh.2]at hd
      cases hd)]at h
     exact Yf h
    ·simp only[YG8,YG0]at hd
     rw[if_pos (by simp only[YGi];exact hd)]at h
     exact Yf h
  have hin:inF a 1 3=false:=by
   unfold inF
   rw[YGZ,decide_eq_false_iff_not,decide_eq_false_iff_not]
   omega
  dsimp only[v35,Yee,inC,go_sem,reduceIte]
  simp only[Yc,YGa,YF9,reduceCtorEq,YF8]
  rw[hin]
  have hch:chkB ⟨a,b,c,d,e⟩=2:=by
   rw[chkB,if_neg (by simp [hin])]
  rw[hch]at h
  by_cases h4:a<=0
  ·rw[show a.toNat=0 by omega]
   dsimp only[YHC,Yee,inC,go_sem,reduceIte]
   simp only[Yc,YGa,YF9,reduceCtorEq,YF8]
   refine⟨by decide,fun _=>Yf h,fun hh=>by cases hh⟩
  ·obtain⟨m,hm⟩:∃m,a.toNat=m+4:=⟨a.toNat-4,by omega⟩
   rw[hm,YHj]
   have hdn:YG m []=[]:=by cases m <;> rfl
   dsimp only[go_sem,reduceIte]
   rw[hdn]
   dsimp only[Yee,inC,go_sem,reduceIte]
   simp only[Yc,YGa,YF9,reduceCtorEq,YF8]
   refine⟨by decide,.bool false,?_⟩
   dsimp only[Yee,inC,go_sem,reduceIte]
   simp only[Yc,YGa,YF9,reduceCtorEq,YF8]
   exact⟨fun _=>Yf h,fun hh=>by cases hh⟩
 ·exact h.1.elim
def v91:VF:=⟨8,[.tmp 2],(ZR [u1 2 .mov [.cn (.val (.pointer none))]] (ZR [Zm 3 0,Zm 4 0,u1 5 (.build [(.int .i64 0),(.int .i64 0)] [(0,1),(1,1)]) [.tm 3,.tm 4],u1 6 (.build [(.int .i64 0),(.int .i64 0),(.int .i64 0)] [(0,2)]) [.tm 5],u1 7 .box [.tm 6],Zm 2 7] .ret))⟩
theorem YFV:Yg YGc Tryz.f91=some v91:=by kernel_rfl
def v59:VF:=⟨29,[.tmp 6],(ZR [u1 5 .box [.tm 2],u1 6 .mov [.cn (.val (.pointer none))]] (.seq (.draw [(7,.box [(.int .i64 0),(.int .i64 0)])] [Zu 10 1,Zu 11 0,w1 12 .nilCheck [.tm 11],Zy 13 0 12,Zw 14 2 13,Zw 15 2 5,w1 16 .callv [.tm 10,.tm 14,.tm 15],Zu 9 16,ZE 17 0 9,ZE 18 1 9,ZS 2 7 17,Zu 8 18]) (ZR [Zm 19 0,u1 20 .nilCheck [.tm 19],Za 21 2 20,Zm 22 8,Zd 23 96 21 22] (ZR [Zm 24 0,Zt 25 2 7,u1 26 .nilCheck [.tm 24],Za 27 0 26,Zs 2 27 25] (ZR [Zm 28 0,Zm 6 28] .ret)))))⟩
theorem YsZ:Yg YGc Tryz.f59=some v59:=by kernel_rfl
def v94:VF:=⟨29,[.tmp 6],(ZR [u1 6 .mov [.cn (.val (.pointer none))]] (ZR [Zm 10 0,u1 11 .nilCheck [.tm 10],Za 12 0 11,Zt 13 2 12,Zm 14 1,Zm 15 2,u1 16 (.call 24) [.tm 13,.tm 14,.tm 15],Zm 9 16,Ze 17 0 9,Ze 18 1 9,Zn 7,Zs 2 7 17,Zm 8 18] (ZR [Zm 19 0,u1 20 .nilCheck [.tm 19],Za 21 2 20,Zm 22 8,Zd 23 96 21 22] (ZR [Zm 24 0,Zt 25 2 7,u1 26 .nilCheck [.tm 24],Za 27 0 26,Zs 2 27 25] (ZR [Zm 28 0,Zm 6 28] .ret)))))⟩
theorem Ywv:Yg YGc Tryz.f94=some v94:=by kernel_rfl
def v93:VF:=⟨23,[.tmp 2],(ZR [u1 2 .mov [.cn (.val (.pointer none))]] (ZR [Zm 6 0,u1 7 .nilCheck [.tm 6],Za 8 0 7,Zt 9 2 8,u1 10 (.call 118) [.tm 9,.cn (.int .i64 2)],Zm 5 10,Ze 11 0 5,Ze 12 1 5,Zn 3,Zs 2 3 11,Zm 4 12] (ZR [Zm 13 0,u1 14 .nilCheck [.tm 13],Za 15 2 14,Zm 16 4,Zd 17 96 15 16] (ZR [Zm 18 0,Zt 19 2 3,u1 20 .nilCheck [.tm 18],Za 21 0 20,Zs 2 21 19] (ZR [Zm 22 0,Zm 2 22] .ret)))))⟩
theorem YFX:Yg YGc Tryz.f93=some v93:=by kernel_rfl
def v96:VF:=⟨13,[],(ZR [Zm 4 0,u1 5 .nilCheck [.tm 4],Za 6 0 5,Zf 7 1 6,Zq 8 .eql 7 0] (ZC 8 (.region [Zm 9 0,Zm 10 1,u1 11 .nilCheck [.tm 9],Za 12 0 11,Zs 1 12 10]) .skip))⟩
theorem Ys0:Yg YGc Tryz.f96=some v96:=by kernel_rfl
def v56:VF:=⟨49,[.cell 2 true 2,.cell 3 true 2],(ZR [u1 1 .box [.tm 0],Zn 2,Zn 3] (ZR [Za 6 1 1,Zf 7 1 6,Zc 8 91 7,u1 9 .nilCheck [.tm 8],Za 10 0 9,Zt 11 2 10,Zn 4,Zs 2 4 11] (.seq (.draw [] [Zy 12 3 1,Zv 13 1 12,Zy 15 4 1,Zv 16 1 15,w1 14 (.call 91) [.tm 13],w1 17 (.call 91) [.tm 16],w1 18 .nilCheck [.tm 17],Zy 19 0 18,Zw 20 2 19,w1 21 (.call 59) [.tm 14,.cn (.fn (.func 92) [] []),.tm 20],w1 22 (.call 93) [.tm 21],Zu 5 22]) (.seq (.drawT [] (.ops [Zy 23 1 1] (.ops [Zv 24 1 23] (.ops [Zw 26 2 4] (.br (.ops [w1 25 (.call 91) [.tm 24]] (.br (.ops [w1 27 (.call 59) [.tm 25,.cn (.fn (.func 92) [] []),.tm 26]] (.br (.ops [w1 28 (.call 94) [.tm 27,.cn (.int .i64 575),.cn (.int .i64 1000)]] (.ops [Zu 29 5] (.ops [w1 30 .nilCheck [.tm 29]] (.ops [Zy 31 0 30] (.ops [Zw 32 2 31] (.ops [w1 33 (.call 59) [.tm 28,.cn (.fn (.func 60) [] []),.tm 32]] (.ops [w1 34 .nilCheck [.tm 33]] (.ops [Zy 35 0 34] (.ops [Zw 36 2 35] (.ops [ZS 2 2 36] .leaf)))))))))) (.ops [Zu 29 5] (.br (.ops [w1 28 (.call 94) [.tm 27,.cn (.int .i64 575),.cn (.int .i64 1000)]] (.ops [w1 30 .nilCheck [.tm 29]] (.ops [Zy 31 0 30] (.ops [Zw 32 2 31] (.ops [w1 33 (.call 59) [.tm 28,.cn (.fn (.func 60) [] []),.tm 32]] (.ops [w1 34 .nilCheck [.tm 33]] (.ops [Zy 35 0 34] (.ops [Zw 36 2 35] (.ops [ZS 2 2 36] .leaf))))))))) (.ops [w1 30 .nilCheck [.tm 29]] (.br (.ops [w1 28 (.call 94) [.tm 27,.cn (.int .i64 575),.cn (.int .i64 1000)]] (.ops [Zy 31 0 30] (.ops [Zw 32 2 31] (.ops [w1 33 (.call 59) [.tm 28,.cn (.fn (.func 60) [] []),.tm 32]] (.ops [w1 34 .nilCheck [.tm 33]] (.ops [Zy 35 0 34] (.ops [Zw 36 2 35] (.ops [ZS 2 2 36] .leaf)))))))) (.ops [Zy 31 0 30] (.br (.ops [w1 28 (.call 94) [.tm 27,.cn (.int .i64 575),.cn (.int .i64 1000)]] (.ops [Zw 32 2 31] (.ops [w1 33 (.call 59) [.tm 28,.cn (.fn (.func 60) [] []),.tm 32]] (.ops [w1 34 .nilCheck [.tm 33]] (.ops [Zy 35 0 34] (.ops [Zw 36 2 35] (.ops [ZS 2 2 36] .leaf))))))) (.ops [Zw 32 2 31] (.ops [w1 28 (.call 94) [.tm 27,.cn (.int .i64 575),.cn (.int .i64 1000)]] (.ops [w1 33 (.call 59) [.tm 28,.cn (.fn (.func 60) [] []),.tm 32]] (.ops [w1 34 .nilCheck [.tm 33]] (.ops [Zy 35 0 34] (.ops [Zw 36 2 35] (.ops [ZS 2 2 36] .leaf))))))))))))))) (.ops [Zu 29 5] (.br (.ops [w1 27 (.call 59) [.tm 25,.cn (.fn (.func 92) [] []),.tm 26]] (.br (.ops [w1 28 (.call 94) [.tm 27,.cn (.int .i64 575),.cn (.int .i64 1000)]] (.ops [w1 30 .nilCheck [.tm 29]] (.ops [Zy 31 0 30] (.ops [Zw 32 2 31] (.ops [w1 33 (.call 59) [.tm 28,.cn (.fn (.func 60) [] []),.tm 32]] (.ops [w1 34 .nilCheck [.tm 33]] (.ops [Zy 35 0 34] (.ops [Zw 36 2 35] (.ops [ZS 2 2 36] .leaf))))))))) (.ops [w1 30 .nilCheck [.tm 29]] (.br (.ops [w1 28 (.call 94) [.tm 27,.cn (.int .i64 575),.cn (.int .i64 1000)]] (.ops [Zy 31 0 30] (.ops [Zw 32 2 31] (.ops [w1 33 (.call 59) [.tm 28,.cn (.fn (.func 60) [] []),.tm 32]] (.ops [w1 34 .nilCheck [.tm 33]] (.ops [Zy 35 0 34] (.ops [Zw 36 2 35] (.ops [ZS 2 2 36] .leaf)))))))) (.ops [Zy 31 0 30] (.br (.ops [w1 28 (.call 94) [.tm 27,.cn (.int .i64 575),.cn (.int .i64 1000)]] (.ops [Zw 32 2 31] (.ops [w1 33 (.call 59) [.tm 28,.cn (.fn (.func 60) [] []),.tm 32]] (.ops [w1 34 .nilCheck [.tm 33]] (.ops [Zy 35 0 34] (.ops [Zw 36 2 35] (.ops [ZS 2 2 36] .leaf))))))) (.ops [Zw 32 2 31] (.ops [w1 28 (.call 94) [.tm 27,.cn (.int .i64 575),.cn (.int .i64 1000)]] (.ops [w1 33 (.call 59) [.tm 28,.cn (.fn (.func 60) [] []),.tm 32]] (.ops [w1 34 .nilCheck [.tm 33]] (.ops [Zy 35 0 34] (.ops [Zw 36 2 35] (.ops [ZS 2 2 36] .leaf))))))))))))) (.ops [w1 30 .nilCheck [.tm 29]] (.br (.ops [w1 27 (.call 59) [.tm 25,.cn (.fn (.func 92) [] []),.tm 26]] (.br (.ops [w1 28 (.call 94) [.tm 27,.cn (.int .i64 575),.cn (.int .i64 1000)]] (.ops [Zy 31 0 30] (.ops [Zw 32 2 31] (.ops [w1 33 (.call 59) [.tm 28,.cn (.fn (.func 60) [] []),.tm 32]] (.ops [w1 34 .nilCheck [.tm 33]] (.ops [Zy 35 0 34] (.ops [Zw 36 2 35] (.ops [ZS 2 2 36] .leaf)))))))) (.ops [Zy 31 0 30] (.br (.ops [w1 28 (.call 94) [.tm 27,.cn (.int .i64 575),.cn (.int .i64 1000)]] (.ops [Zw 32 2 31] (.ops [w1 33 (.call 59) [.tm 28,.cn (.fn (.func 60) [] []),.tm 32]] (.ops [w1 34 .nilCheck [.tm 33]] (.ops [Zy 35 0 34] (.ops [Zw 36 2 35] (.ops [ZS 2 2 36] .leaf))))))) (.ops [Zw 32 2 31] (.ops [w1 28 (.call 94) [.tm 27,.cn (.int .i64 575),.cn (.int .i64 1000)]] (.ops [w1 33 (.call 59) [.tm 28,.cn (.fn (.func 60) [] []),.tm 32]] (.ops [w1 34 .nilCheck [.tm 33]] (.ops [Zy 35 0 34] (.ops [Zw 36 2 35] (.ops [ZS 2 2 36] .leaf))))))))))) (.ops [Zy 31 0 30] (.br (.ops [w1 27 (.call 59) [.tm 25,.cn (.fn (.func 92) [] []),.tm 26]] (.br (.ops [w1 28 (.call 94) [.tm 27,.cn (.int .i64 575),.cn (.int .i64 1000)]] (.ops [Zw 32 2 31] (.ops [w1 33 (.call 59) [.tm 28,.cn (.fn (.func 60) [] []),.tm 32]] (.ops [w1 34 .nilCheck [.tm 33]] (.ops [Zy 35 0 34] (.ops [Zw 36 2 35] (.ops [ZS 2 2 36] .leaf))))))) (.ops [Zw 32 2 31] (.ops [w1 28 (.call 94) [.tm 27,.cn (.int .i64 575),.cn (.int .i64 1000)]] (.ops [w1 33 (.call 59) [.tm 28,.cn (.fn (.func 60) [] []),.tm 32]] (.ops [w1 34 .nilCheck [.tm 33]] (.ops [Zy 35 0 34] (.ops [Zw 36 2 35] (.ops [ZS 2 2 36] .leaf))))))))) (.ops [Zw 32 2 31] (.ops [w1 27 (.call 59) [.tm 25,.cn (.fn (.func 92) [] []),.tm 26]] (.ops [w1 28 (.call 94) [.tm 27,.cn (.int .i64 575),.cn (.int .i64 1000)]] (.ops [w1 33 (.call 59) [.tm 28,.cn (.fn (.func 60) [] []),.tm 32]] (.ops [w1 34 .nilCheck [.tm 33]] (.ops [Zy 35 0 34] (.ops [Zw 36 2 35] (.ops [ZS 2 2 36] .leaf)))))))))))))))) (.ops [Zu 29 5] (.br (.ops [w1 25 (.call 91) [.tm 24]] (.br (.ops [w1 27 (.call 59) [.tm 25,.cn (.fn (.func 92) [] []),.tm 26]] (.br (.ops [w1 28 (.call 94) [.tm 27,.cn (.int .i64 575),.cn (.int .i64 1000)]] (.ops [w1 30 .nilCheck [.tm 29]] (.ops [Zy 31 0 30] (.ops [Zw 32 2 31] (.ops [w1 33 (.call 59) [.tm 28,.cn (.fn (.func 60) [] []),.tm 32]] (.ops [w1 34 .nilCheck [.tm 33]] (.ops [Zy 35 0 34] (.ops [Zw 36 2 35] (.ops [ZS 2 2 36] .leaf))))))))) (.ops [w1 30 .nilCheck [.tm 29]] (.br (.ops [w1 28 (.call 94) [.tm 27,.cn (.int .i64 575),.cn (.int .i64 1000)]] (.ops [Zy 31 0 30] (.ops [Zw 32 2 31] (.ops [w1 33 (.call 59) [.tm 28,.cn (.fn (.func 60) [] []),.tm 32]] (.ops [w1 34 .nilCheck [.tm 33]] (.ops [Zy 35 0 34] (.ops [Zw 36 2 35] (.ops [ZS 2 2 36] .leaf)))))))) (.ops [Zy 31 0 30] (.br (.ops [w1 28 (.call 94) [.tm 27,.cn (.int .i64 575),.cn (.int .i64 1000)]] (.ops [Zw 32 2 31] (.ops [w1 33 (.call 59) [.tm 28,.cn (.fn (.func 60) [] []),.tm 32]] (.ops [w1 34 .nilCheck [.tm 33]] (.ops [Zy 35 0 34] (.ops [Zw 36 2 35] (.ops [ZS 2 2 36] .leaf))))))) (.ops [Zw 32 2 31] (.ops [w1 28 (.call 94) [.tm 27,.cn (.int .i64 575),.cn (.int .i64 1000)]] (.ops [w1 33 (.call 59) [.tm 28,.cn (.fn (.func 60) [] []),.tm 32]] (.ops [w1 34 .nilCheck [.tm 33]] (.ops [Zy 35 0 34] (.ops [Zw 36 2 35] (.ops [ZS 2 2 36] .leaf))))))))))))) (.ops [w1 30 .nilCheck [.tm 29]] (.br (.ops [w1 27 (.call 59) [.tm 25,.cn (.fn (.func 92) [] []),.tm 26]] (.br (.ops [w1 28 (.call 94) [.tm 27,.cn (.int .i64 575),.cn (.int .i64 1000)]] (.ops [Zy 31 0 30] (.ops [Zw 32 2 31] (.ops [w1 33 (.call 59) [.tm 28,.cn (.fn (.func 60) [] []),.tm 32]] (.ops [w1 34 .nilCheck [.tm 33]] (.ops [Zy 35 0 34] (.ops [Zw 36 2 35] (.ops [ZS 2 2 36] .leaf)))))))) (.ops [Zy 31 0 30] (.br (.ops [w1 28 (.call 94) [.tm 27,.cn (.int .i64 575),.cn (.int .i64 1000)]] (.ops [Zw 32 2 31] (.ops [w1 33 (.call 59) [.tm 28,.cn (.fn (.func 60) [] []),.tm 32]] (.ops [w1 34 .nilCheck [.tm 33]] (.ops [Zy 35 0 34] (.ops [Zw 36 2 35] (.ops [ZS 2 2 36] .leaf))))))) (.ops [Zw 32 2 31] (.ops [w1 28 (.call 94) [.tm 27,.cn (.int .i64 575),.cn (.int .i64 1000)]] (.ops [w1 33 (.call 59) [.tm 28,.cn (.fn (.func 60) [] []),.tm 32]] (.ops [w1 34 .nilCheck [.tm 33]] (.ops [Zy 35 0 34] (.ops [Zw 36 2 35] (.ops [ZS 2 2 36] .leaf))))))))))) (.ops [Zy 31 0 30] (.br (.ops [w1 27 (.call 59) [.tm 25,.cn (.fn (.func 92) [] []),.tm 26]] (.br (.ops [w1 28 (.call 94) [.tm 27,.cn (.int .i64 575),.cn (.int .i64 1000)]] (.ops [Zw 32 2 31] (.ops [w1 33 (.call 59) [.tm 28,.cn (.fn (.func 60) [] []),.tm 32]] (.ops [w1 34 .nilCheck [.tm 33]] (.ops [Zy 35 0 34] (.ops [Zw 36 2 35] (.ops [ZS 2 2 36] .leaf))))))) (.ops [Zw 32 2 31] (.ops [w1 28 (.call 94) [.tm 27,.cn (.int .i64 575),.cn (.int .i64 1000)]] (.ops [w1 33 (.call 59) [.tm 28,.cn (.fn (.func 60) [] []),.tm 32]] (.ops [w1 34 .nilCheck [.tm 33]] (.ops [Zy 35 0 34] (.ops [Zw 36 2 35] (.ops [ZS 2 2 36] .leaf))))))))) (.ops [Zw 32 2 31] (.ops [w1 27 (.call 59) [.tm 25,.cn (.fn (.func 92) [] []),.tm 26]] (.ops [w1 28 (.call 94) [.tm 27,.cn (.int .i64 575),.cn (.int .i64 1000)]] (.ops [w1 33 (.call 59) [.tm 28,.cn (.fn (.func 60) [] []),.tm 32]] (.ops [w1 34 .nilCheck [.tm 33]] (.ops [Zy 35 0 34] (.ops [Zw 36 2 35] (.ops [ZS 2 2 36] .leaf)))))))))))))) (.ops [w1 30 .nilCheck [.tm 29]] (.br (.ops [w1 25 (.call 91) [.tm 24]] (.br (.ops [w1 27 (.call 59) [.tm 25,.cn (.fn (.func 92) [] []),.tm 26]] (.br (.ops [w1 28 (.call 94) [.tm 27,.cn (.int .i64 575),.cn (.int .i64 1000)]] (.ops [Zy 31 0 30] (.ops [Zw 32 2 31] (.ops [w1 33 (.call 59) [.tm 28,.cn (.fn (.func 60) [] []),.tm 32]] (.ops [w1 34 .nilCheck [.tm 33]] (.ops [Zy 35 0 34] (.ops [Zw 36 2 35] (.ops [ZS 2 2 36] .leaf)))))))) (.ops [Zy 31 0 30] (.br (.ops [w1 28 (.call 94) [.tm 27,.cn (.int .i64 575),.cn (.int .i64 1000)]] (.ops [Zw 32 2 31] (.ops [w1 33 (.call 59) [.tm 28,.cn (.fn (.func 60) [] []),.tm 32]] (.ops [w1 34 .nilCheck [.tm 33]] (.ops [Zy 35 0 34] (.ops [Zw 36 2 35] (.ops [ZS 2 2 36] .leaf))))))) (.ops [Zw 32 2 31] (.ops [w1 28 (.call 94) [.tm 27,.cn (.int .i64 575),.cn (.int .i64 1000)]] (.ops [w1 33 (.call 59) [.tm 28,.cn (.fn (.func 60) [] []),.tm 32]] (.ops [w1 34 .nilCheck [.tm 33]] (.ops [Zy 35 0 34] (.ops [Zw 36 2 35] (.ops [ZS 2 2 36] .leaf))))))))))) (.ops [Zy 31 0 30] (.br (.ops [w1 27 (.call 59) [.tm 25,.cn (.fn (.func 92) [] []),.tm 26]] (.br (.ops [w1 28 (.call 94) [.tm 27,.cn (.int .i64 575),.cn (.int .i64 1000)]] (.ops [Zw 32 2 31] (.ops [w1 33 (.call 59) [.tm 28,.cn (.fn (.func 60) [] []),.tm 32]] (.ops [w1 34 .nilCheck [.tm 33]] (.ops [Zy 35 0 34] (.ops [Zw 36 2 35] (.ops [ZS 2 2 36] .leaf))))))) (.ops [Zw 32 2 31] (.ops [w1 28 (.call 94) [.tm 27,.cn (.int .i64 575),.cn (.int .i64 1000)]] (.ops [w1 33 (.call 59) [.tm 28,.cn (.fn (.func 60) [] []),.tm 32]] (.ops [w1 34 .nilCheck [.tm 33]] (.ops [Zy 35 0 34] (.ops [Zw 36 2 35] (.ops [ZS 2 2 36] .leaf))))))))) (.ops [Zw 32 2 31] (.ops [w1 27 (.call 59) [.tm 25,.cn (.fn (.func 92) [] []),.tm 26]] (.ops [w1 28 (.call 94) [.tm 27,.cn (.int .i64 575),.cn (.int .i64 1000)]] (.ops [w1 33 (.call 59) [.tm 28,.cn (.fn (.func 60) [] []),.tm 32]] (.ops [w1 34 .nilCheck [.tm 33]] (.ops [Zy 35 0 34] (.ops [Zw 36 2 35] (.ops [ZS 2 2 36] .leaf)))))))))))) (.ops [Zy 31 0 30] (.br (.ops [w1 25 (.call 91) [.tm 24]] (.br (.ops [w1 27 (.call 59) [.tm 25,.cn (.fn (.func 92) [] []),.tm 26]] (.br (.ops [w1 28 (.call 94) [.tm 27,.cn (.int .i64 575),.cn (.int .i64 1000)]] (.ops [Zw 32 2 31] (.ops [w1 33 (.call 59) [.tm 28,.cn (.fn (.func 60) [] []),.tm 32]] (.ops [w1 34 .nilCheck [.tm 33]] (.ops [Zy 35 0 34] (.ops [Zw 36 2 35] (.ops [ZS 2 2 36] .leaf))))))) (.ops [Zw 32 2 31] (.ops [w1 28 (.call 94) [.tm 27,.cn (.int .i64 575),.cn (.int .i64 1000)]] (.ops [w1 33 (.call 59) [.tm 28,.cn (.fn (.func 60) [] []),.tm 32]] (.ops [w1 34 .nilCheck [.tm 33]] (.ops [Zy 35 0 34] (.ops [Zw 36 2 35] (.ops [ZS 2 2 36] .leaf))))))))) (.ops [Zw 32 2 31] (.ops [w1 27 (.call 59) [.tm 25,.cn (.fn (.func 92) [] []),.tm 26]] (.ops [w1 28 (.call 94) [.tm 27,.cn (.int .i64 575),.cn (.int .i64 1000)]] (.ops [w1 33 (.call 59) [.tm 28,.cn (.fn (.func 60) [] []),.tm 32]] (.ops [w1 34 .nilCheck [.tm 33]] (.ops [Zy 35 0 34] (.ops [Zw 36 2 35] (.ops [ZS 2 2 36] .leaf)))))))))) (.ops [Zw 32 2 31] (.ops [w1 25 (.call 91) [.tm 24]] (.ops [w1 27 (.call 59) [.tm 25,.cn (.fn (.func 92) [] []),.tm 26]] (.ops [w1 28 (.call 94) [.tm 27,.cn (.int .i64 575),.cn (.int .i64 1000)]] (.ops [w1 33 (.call 59) [.tm 28,.cn (.fn (.func 60) [] []),.tm 32]] (.ops [w1 34 .nilCheck [.tm 33]] (.ops [Zy 35 0 34] (.ops [Zw 36 2 35] (.ops [ZS 2 2 36] .leaf)))))))))))))))))))) (.seq (ZR [Za 37 0 1,Zf 38 1 37,Zq 39 .neq 38 2] (ZC 39 (.region [Za 40 2 1,Zf 41 1 40,Zc 42 91 41,u1 43 (.call 94) [.tm 42,.cn (.int .i64 30665),.cn (.int .i64 100000)],u1 44 .nilCheck [.tm 43],Za 45 0 44,Zt 46 2 45,Zs 2 3 46]) .skip)) (.seq (.draw [] [Zw 47 2 2,Zw 48 2 3,⟨Zs 2 2 47,[.tm 3]⟩,ZS 2 3 48]) .ret))))))⟩
theorem YFo:Yg YGc Tryz.f56=some v56:=by kernel_rfl
def ofSC:Ctr:={ alias:=false,of:=fun l=>match l with
 | [.int .i64 n]=> .fin (.ptr 0 0) [.box [.int .i64 n,.int .i64 n,.int .i64 0]]
 |_=>noC}
def L2:Env:={ ct:=fun _=>none,fn:=fun _=>none,meth:=fun _ _=>none}
theorem L2_ok:Yq YGc L2:=by
 refine⟨fun f c h=>?_,fun f vf h=>?_,(fun _ _ _ h=>by cases h),by kernel_rfl,(fun _ h=>by cases h)⟩
 ·cases h
 ·cases h
theorem ofS_c:ofSC.ok YGc 91:=by
 refine YfP Tryz.func91 YFV L2_ok 100 ofSC fun args k h=>?_
 simp only[ofSC]at h
 split at h
 ·rename_i n
  refine⟨[.int .i64 n],by simp [leL,le],?_⟩
  dsimp only[v91,go_sem,reduceIte]
  simp only[Yc,YGa,YF9,reduceCtorEq,YF8]
  exact⟨h,trivial,⟨trivial,trivial,trivial,trivial⟩,trivial⟩
 ·exact h.1.elim
def corC:Ctr:={ alias:=false,of:=fun l=>match l with
 | [.agg [.int .i64 a,.int .i64 b,.int .i64 c,.int .i64 d,.int .i64 e]]=> .pre (chkB ⟨a,b,c,d,e⟩=0) (.fin (.tup [.agg (enc2 (Ydk ⟨a,b,c,d,e⟩)),.agg (enc2 (endF ⟨a,b,c,d,e⟩))]) [])
 |_=>noC}
theorem YpZ{k:SV->List HO->Prop}{al:Bool}{hp:List HO}{p q:Iv}(h:k (.tup [.agg (enc2 p),.agg (enc2 q)]) []):YD al k (.tup [.agg [.int .i64 p.1,.int .i64 p.2],.agg [.int .i64 q.1,.int .i64 q.2]]) hp:=
 YC (show k _ []from h) (Yv (.tup [.agg [.int .i64 p.1,.int .i64 p.2],.agg [.int .i64 q.1,.int .i64 q.2]]) ⟨⟨trivial,trivial,trivial⟩,⟨trivial,trivial,trivial⟩,trivial⟩) (fun _=>by simp [enc2,Yl,Ym])
def L1:Env:={ ct:=fun n=>match n with|92=>some mulC|60=>some quoC|24=>some sclC|118=>some rootC|91=>some ofSC|_=>none,fn:=fun n=>match n with|59=>some v59|94=>some v94|93=>some v93|96=>some v96|_=>none,meth:=fun _ _=>none,lo:=fun n=>match n with|59=>true|94=>true|93=>true|_=>false}
theorem Yej:L1.ct 92=some mulC:=rfl
theorem Yeh:L1.ct 60=some quoC:=rfl
theorem Yef:L1.ct 24=some sclC:=rfl
theorem YcD:L1.ct 118=some rootC:=rfl
theorem Yei:L1.ct 91=some ofSC:=rfl
theorem Yeg:L1.ct 59=none:=rfl
theorem Yen:L1.fn 59=some v59:=rfl
theorem Yel:L1.ct 94=none:=rfl
theorem Yep:L1.fn 94=some v94:=rfl
theorem Yek:L1.ct 93=none:=rfl
theorem Yeo:L1.fn 93=some v93:=rfl
theorem Yem:L1.ct 96=none:=rfl
theorem Yeq:L1.fn 96=some v96:=rfl
theorem L1_ok:Yq YGc L1:=by
 refine⟨fun f c h=>?_,fun f vf h=>?_,(fun _ _ _ h=>by cases h),by kernel_rfl,fun f h=>?_⟩
 ·simp only[L1]at h
  split at h
  ·cases h;exact⟨YnC,Tryz.f92,Tryz.func92,by kernel_rfl,by kernel_rfl⟩
  ·cases h;exact⟨Ywf,Tryz.f60,Tryz.func60,by kernel_rfl,by kernel_rfl⟩
  ·cases h;exact⟨Ysy,Tryz.f24,Tryz.func24,by kernel_rfl,by kernel_rfl⟩
  ·cases h;exact⟨YzO,Tryz.f118,Tryz.func118,by kernel_rfl,by kernel_rfl⟩
  ·cases h;exact⟨ofS_c,Tryz.f91,Tryz.func91,by kernel_rfl,by kernel_rfl⟩
  ·cases h
 ·simp only[L1]at h
  split at h
  ·cases h;exact⟨Tryz.f59,Tryz.func59,YsZ,Tryz.f59,Tryz.func59,by kernel_rfl,by kernel_rfl⟩
  ·cases h;exact⟨Tryz.f94,Tryz.func94,Ywv,Tryz.f94,Tryz.func94,by kernel_rfl,by kernel_rfl⟩
  ·cases h;exact⟨Tryz.f93,Tryz.func93,YFX,Tryz.f93,Tryz.func93,by kernel_rfl,by kernel_rfl⟩
  ·cases h;exact⟨Tryz.f96,Tryz.func96,Ys0,Tryz.f96,Tryz.func96,by kernel_rfl,by kernel_rfl⟩
  ·cases h
 ·simp only[L1]at h
  split at h
  ·kernel_rfl
  ·kernel_rfl
  ·kernel_rfl
  ·cases h
theorem Yer:L1.lo 59=true:=rfl
theorem Yet:L1.lo 94=true:=rfl
theorem Yes:L1.lo 93=true:=rfl
theorem YCm:corC.ok YGc 56:=by
 refine Yb Tryz.func56 YFo L1_ok 600 corC fun args k h=>?_
 simp only[corC]at h
 split at h
 ·rename_i a b c d e
  obtain⟨hchk,h⟩:=h
  obtain⟨_,⟨b0,b1⟩,⟨c0,c1⟩,⟨d0,d1⟩,e0,e1⟩:=Yqp hchk
  dsimp only at b0 b1 c0 c1 d0 d1 e0 e1
  have M1:(mulF (d,d) (e,e)).2=0:=by rw[YrN (by omega) d1 (by omega) e1]
  have M2:(mulF (b,b) (b,b)).2=0:=by rw[YrN (by omega) (by omega) (by omega) (by omega)]
  have M3:(sclF ((mulF (b,b) (b,b)).1.1,(mulF (b,b) (b,b)).1.2) 575 1000).2=0:=by
   have hb1:b*b<=500000*500000:=YbE b1 b1 (by omega) (by decide)
   have hb0:0<=b*b:=YHv (by omega) (by omega)
   rw[YrN (by omega) (by omega) (by omega) (by omega)]
   exact YnZ hb0 (Int.le_refl _) (by simp only;omega) (by decide) (by decide) (by decide) (by decide)
  have hN:¬a=2->k (.tup [.agg (enc2 (Ydk ⟨a,b,c,d,e⟩)),.agg (enc2 (sclF (c,c) 30665 100000).1)]) []:=fun hc=>by
   have h:k (.tup [.agg (enc2 (Ydk ⟨a,b,c,d,e⟩)),.agg (enc2 (endF ⟨a,b,c,d,e⟩))]) []:=h
   rw[endF,if_neg hc]at h;exact h
  have hY:a=2->k (.tup [.agg (enc2 (Ydk ⟨a,b,c,d,e⟩)),.agg (enc2 ((0,0):Iv))]) []:=fun hc=>by
   have h:k (.tup [.agg (enc2 (Ydk ⟨a,b,c,d,e⟩)),.agg (enc2 (endF ⟨a,b,c,d,e⟩))]) []:=h
   rw[endF,if_pos hc]at h;exact h
  refine⟨[.agg [.int .i64 a,.int .i64 b,.int .i64 c,.int .i64 d,.int .i64 e]],by simp [leL,le],?_⟩
  dsimp only[v56,Yej,Yeh,Yef,YcD,Yei,ofSC,mulC,quoC,sclC,rootC,iv2C,ivoC,enc2,Yeg,Yen,Yer,v59,Yel,Yep,Yet,v94,Yek,Yeo,Yes,v93,Yem,Yeq,v96,go_sem,reduceIte]
  simp only[Yc,YGa,YF9,reduceCtorEq,YF8]
  (refine YbR _ (by((try dsimp only[Yej,Yeh,Yef,YcD,Yei,ofSC,mulC,quoC,sclC,rootC,iv2C,ivoC,enc2,Yeg,Yen,Yer,v59,Yel,Yep,Yet,v94,Yek,Yeo,Yes,v93,Yem,Yeq,v96,go_sem,reduceIte]);(try simp only[Yc,YGa,YF9,reduceCtorEq,YF8]));exact⟨by decide,by decide,rfl,fun hh=>absurd trivial hh⟩) ?_;(try simp only[M1,M2,M3]);((try dsimp only[Yej,Yeh,Yef,YcD,Yei,ofSC,mulC,quoC,sclC,rootC,iv2C,ivoC,enc2,Yeg,Yen,Yer,v59,Yel,Yep,Yet,v94,Yek,Yeo,Yes,v93,Yem,Yeq,v96,go_sem,reduceIte]);(try simp only[Yc,YGa,YF9,reduceCtorEq,YF8])))
  (refine YbR _ (by((try dsimp only[Yej,Yeh,Yef,YcD,Yei,ofSC,mulC,quoC,sclC,rootC,iv2C,ivoC,enc2,Yeg,Yen,Yer,v59,Yel,Yep,Yet,v94,Yek,Yeo,Yes,v93,Yem,Yeq,v96,go_sem,reduceIte]);(try simp only[Yc,YGa,YF9,reduceCtorEq,YF8]));exact⟨by decide,by decide,rfl,fun hh=>absurd trivial hh⟩) ?_;(try simp only[M1,M2,M3]);((try dsimp only[Yej,Yeh,Yef,YcD,Yei,ofSC,mulC,quoC,sclC,rootC,iv2C,ivoC,enc2,Yeg,Yen,Yer,v59,Yel,Yep,Yet,v94,Yek,Yeo,Yes,v93,Yem,Yeq,v96,go_sem,reduceIte]);(try simp only[Yc,YGa,YF9,reduceCtorEq,YF8])))
  repeat' (first|apply YGH| (refine YbR _ (by((try dsimp only[Yej,Yeh,Yef,YcD,Yei,ofSC,mulC,quoC,sclC,rootC,iv2C,ivoC,enc2,Yeg,Yen,Yer,v59,Yel,Yep,Yet,v94,Yek,Yeo,Yes,v93,Yem,Yeq,v96,go_sem,reduceIte]);(try simp only[Yc,YGa,YF9,reduceCtorEq,YF8]));exact⟨by decide,by decide,rfl,fun hh=>absurd trivial hh⟩) ?_;(try simp only[M1,M2,M3]);((try dsimp only[Yej,Yeh,Yef,YcD,Yei,ofSC,mulC,quoC,sclC,rootC,iv2C,ivoC,enc2,Yeg,Yen,Yer,v59,Yel,Yep,Yet,v94,Yek,Yeo,Yes,v93,Yem,Yeq,v96,go_sem,reduceIte]);(try simp only[Yc,YGa,YF9,reduceCtorEq,YF8]))))
  all_goals first
   |exact fun hc=>⟨by decide,by decide,YpZ (hN hc),fun hh=>absurd trivial hh⟩
   |exact fun hc=>YpZ (hY hc)
 ·exact h.1.elim
def v57:VF:=⟨75,[.tmp 10,.cell 11 true 2,.tmp 12],(ZR [u1 5 .box [.tm 0],u1 6 .box [.tm 1],u1 10 .mov [.cn (.val (.pointer none))],Zn 11,Zi 12 0] (.seq (ZR [Zt 19 5 5,Zc 20 35 19,Zm 13 20] (ZR [Zm 21 13,Zq 22 .neq 21 0] (ZC 22 (ZR [u1 23 (.build [(.int .i64 0),(.int .i64 0)] []) [],Zm 24 13,u1 10 .mov [.cn (.val (.pointer none))],Zs 2 11 23,Zm 12 24] .ret) .skip))) (ZR [Zm 26 4,Zc 27 95 26,Zm 25 27,Ze 28 0 25,Ze 29 1 25,Zn 14,Zs 2 14 28,Zm 12 29] (.seq (ZR [Zm 30 12,Zq 31 .neq 30 0,Zm 32 31,Zj 33 32 false 0 6,Zh 34 32 false 1 33,Zg 35 32 false 2,u2 36 32 false (.cmp .lss) [.tm 34,.tm 35],u1 37 .or [.tm 32,.tm 36],Zm 38 37,Zj 39 38 false 0 6,Zh 40 38 false 1 39,Zj 41 38 false 1 6,Zh 42 38 false 1 41,u2 43 38 false (.cmp .gtr) [.tm 40,.tm 42],u1 44 .or [.tm 38,.tm 43],Zm 45 44,Zj 46 45 false 1 6,Zh 47 45 false 1 46,Zg 48 45 false 3,u2 49 45 false (.cmp .gtr) [.tm 47,.tm 48],u1 50 .or [.tm 45,.tm 49]] (ZC 50 (ZR [u1 51 (.build [(.int .i64 0),(.int .i64 0)] []) [],u1 10 .mov [.cn (.val (.pointer none))],Zs 2 11 51,Zi 12 2] .ret) .skip)) (ZR [u1 52 (.build [(.int .i64 0),(.int .i64 0),(.int .i64 0),(.int .i64 0)] [(1,1),(2,1),(3,1)]) [.cn (.int .i64 500),.cn (.int .i64 250),.cn (.int .i64 500)],u1 15 (.allocArr 4 1 [(.int .i64 0),(.int .i64 0),(.int .i64 0),(.int .i64 0)]) [],Zs 4 15 52] (ZR [Zt 54 5 5,Zc 55 56 54,Zm 53 55,Ze 56 0 53,Ze 57 1 53,Zn 16,Zn 17,Zs 2 16 56,Zs 2 17 57] (ZR [Zt 58 2 16,u1 59 (.build [(.int .i64 0),(.int .i64 0),(.int .i64 0)] [(0,2)]) [.tm 58],u1 60 .box [.tm 59],Zm 18 60] (.seq (.drawT [] (.ops [Zw 61 2 14] (.ops [w1 62 (.build [(.int .i64 0),(.int .i64 0),(.int .i64 0)] [(0,2)]) [.tm 61]] (.ops [Zy 64 0 5] (.ops [Zv 65 1 64] (.ops [w1 66 (.idxArr 4 1) [.tm 15,.tm 65]] (.ops [Zv 67 1 66] (.br (.ops [w1 63 .box [.tm 62]] (.br (.ops [w1 68 (.call 94) [.tm 63,.tm 67,.cn (.int .i64 1)]] (.br (.ops [Zu 69 18] (.ops [Zw 70 2 17] (.ops [w1 71 (.call 59) [.tm 69,.cn (.fn (.func 62) [] []),.tm 70]] (.ops [w1 72 .nilCheck [.tm 71]] (.ops [Zy 73 0 72] (.ops [Zw 74 2 73] (.ops [Zu 10 68] (.ops [ZS 2 11 74] (.ops [w1 12 .mov [.cn (.int .i64 0)]] .leaf))))))))) (.ops [Zw 70 2 17] (.ops [Zu 69 18] (.ops [w1 71 (.call 59) [.tm 69,.cn (.fn (.func 62) [] []),.tm 70]] (.ops [w1 72 .nilCheck [.tm 71]] (.ops [Zy 73 0 72] (.ops [Zw 74 2 73] (.ops [Zu 10 68] (.ops [ZS 2 11 74] (.ops [w1 12 .mov [.cn (.int .i64 0)]] .leaf))))))))))) (.br (.ops [Zu 69 18] (.br (.ops [w1 68 (.call 94) [.tm 63,.tm 67,.cn (.int .i64 1)]] (.ops [Zw 70 2 17] (.ops [w1 71 (.call 59) [.tm 69,.cn (.fn (.func 62) [] []),.tm 70]] (.ops [w1 72 .nilCheck [.tm 71]] (.ops [Zy 73 0 72] (.ops [Zw 74 2 73] (.ops [Zu 10 68] (.ops [ZS 2 11 74] (.ops [w1 12 .mov [.cn (.int .i64 0)]] .leaf))))))))) (.ops [Zw 70 2 17] (.ops [w1 68 (.call 94) [.tm 63,.tm 67,.cn (.int .i64 1)]] (.ops [w1 71 (.call 59) [.tm 69,.cn (.fn (.func 62) [] []),.tm 70]] (.ops [w1 72 .nilCheck [.tm 71]] (.ops [Zy 73 0 72] (.ops [Zw 74 2 73] (.ops [Zu 10 68] (.ops [ZS 2 11 74] (.ops [w1 12 .mov [.cn (.int .i64 0)]] .leaf))))))))))) (.ops [Zw 70 2 17] (.br (.ops [w1 68 (.call 94) [.tm 63,.tm 67,.cn (.int .i64 1)]] (.ops [Zu 69 18] (.ops [w1 71 (.call 59) [.tm 69,.cn (.fn (.func 62) [] []),.tm 70]] (.ops [w1 72 .nilCheck [.tm 71]] (.ops [Zy 73 0 72] (.ops [Zw 74 2 73] (.ops [Zu 10 68] (.ops [ZS 2 11 74] (.ops [w1 12 .mov [.cn (.int .i64 0)]] .leaf))))))))) (.ops [Zu 69 18] (.ops [w1 68 (.call 94) [.tm 63,.tm 67,.cn (.int .i64 1)]] (.ops [w1 71 (.call 59) [.tm 69,.cn (.fn (.func 62) [] []),.tm 70]] (.ops [w1 72 .nilCheck [.tm 71]] (.ops [Zy 73 0 72] (.ops [Zw 74 2 73] (.ops [Zu 10 68] (.ops [ZS 2 11 74] (.ops [w1 12 .mov [.cn (.int .i64 0)]] .leaf)))))))))))))) (.br (.ops [Zu 69 18] (.br (.ops [w1 63 .box [.tm 62]] (.br (.ops [w1 68 (.call 94) [.tm 63,.tm 67,.cn (.int .i64 1)]] (.ops [Zw 70 2 17] (.ops [w1 71 (.call 59) [.tm 69,.cn (.fn (.func 62) [] []),.tm 70]] (.ops [w1 72 .nilCheck [.tm 71]] (.ops [Zy 73 0 72] (.ops [Zw 74 2 73] (.ops [Zu 10 68] (.ops [ZS 2 11 74] (.ops [w1 12 .mov [.cn (.int .i64 0)]] .leaf))))))))) (.ops [Zw 70 2 17] (.ops [w1 68 (.call 94) [.tm 63,.tm 67,.cn (.int .i64 1)]] (.ops [w1 71 (.call 59) [.tm 69,.cn (.fn (.func 62) [] []),.tm 70]] (.ops [w1 72 .nilCheck [.tm 71]] (.ops [Zy 73 0 72] (.ops [Zw 74 2 73] (.ops [Zu 10 68] (.ops [ZS 2 11 74] (.ops [w1 12 .mov [.cn (.int .i64 0)]] .leaf))))))))))) (.ops [Zw 70 2 17] (.ops [w1 63 .box [.tm 62]] (.ops [w1 68 (.call 94) [.tm 63,.tm 67,.cn (.int .i64 1)]] (.ops [w1 71 (.call 59) [.tm 69,.cn (.fn (.func 62) [] []),.tm 70]] (.ops [w1 72 .nilCheck [.tm 71]] (.ops [Zy 73 0 72] (.ops [Zw 74 2 73] (.ops [Zu 10 68] (.ops [ZS 2 11 74] (.ops [w1 12 .mov [.cn (.int .i64 0)]] .leaf)))))))))))) (.ops [Zw 70 2 17] (.br (.ops [w1 63 .box [.tm 62]] (.br (.ops [w1 68 (.call 94) [.tm 63,.tm 67,.cn (.int .i64 1)]] (.ops [Zu 69 18] (.ops [w1 71 (.call 59) [.tm 69,.cn (.fn (.func 62) [] []),.tm 70]] (.ops [w1 72 .nilCheck [.tm 71]] (.ops [Zy 73 0 72] (.ops [Zw 74 2 73] (.ops [Zu 10 68] (.ops [ZS 2 11 74] (.ops [w1 12 .mov [.cn (.int .i64 0)]] .leaf))))))))) (.ops [Zu 69 18] (.ops [w1 68 (.call 94) [.tm 63,.tm 67,.cn (.int .i64 1)]] (.ops [w1 71 (.call 59) [.tm 69,.cn (.fn (.func 62) [] []),.tm 70]] (.ops [w1 72 .nilCheck [.tm 71]] (.ops [Zy 73 0 72] (.ops [Zw 74 2 73] (.ops [Zu 10 68] (.ops [ZS 2 11 74] (.ops [w1 12 .mov [.cn (.int .i64 0)]] .leaf))))))))))) (.ops [Zu 69 18] (.ops [w1 63 .box [.tm 62]] (.ops [w1 68 (.call 94) [.tm 63,.tm 67,.cn (.int .i64 1)]] (.ops [w1 71 (.call 59) [.tm 69,.cn (.fn (.func 62) [] []),.tm 70]] (.ops [w1 72 .nilCheck [.tm 71]] (.ops [Zy 73 0 72] (.ops [Zw 74 2 73] (.ops [Zu 10 68] (.ops [ZS 2 11 74] (.ops [w1 12 .mov [.cn (.int .i64 0)]] .leaf))))))))))))))))))))) .ret))))))))⟩
theorem YFp:Yg YGc Tryz.f57=some v57:=by kernel_rfl
def v58:VF:=⟨34,[.cell 4 true 2,.tmp 5],(ZR [Zn 4,Zi 5 0] (.seq (ZR [Zm 6 0,u1 7 .nilCheck [.tm 6],Za 8 2 7,Za 9 0 8,Zf 10 1 9,Zq 11 .neq 10 0,Zm 12 11,Zg 13 12 false 0,u2 14 12 false .nilCheck [.tm 13],Zj 15 12 false 0 14,Zj 16 12 false 0 15,Zh 17 12 false 1 16,u2 18 12 false (.cmp .lss) [.tm 17,.cn (.int .i64 1)],u1 19 .or [.tm 12,.tm 18],Zm 20 19,Zg 21 20 false 0,u2 22 20 false .nilCheck [.tm 21],Zj 23 20 false 0 22,Zj 24 20 false 1 23,Zh 25 20 false 1 24,Zg 26 20 false 1,u2 27 20 false (.cmp .gtr) [.tm 25,.tm 26],u1 28 .or [.tm 20,.tm 27]] (ZC 28 (ZR [u1 29 (.build [(.int .i64 0),(.int .i64 0)] []) [],Zs 2 4 29,Zi 5 7] .ret) .skip)) (ZR [Zm 30 0,u1 31 .nilCheck [.tm 30],Za 32 0 31,Zt 33 2 32,Zs 2 4 33,Zi 5 0] .ret)))⟩
theorem YFq:Yg YGc Tryz.f58=some v58:=by kernel_rfl
def begH(B:Bdy)(x:Iv)(t:Int):List HO:=[.box [.int .i64 B.kind,.int .i64 B.bottom,.int .i64 B.top,.int .i64 B.mouth,.int .i64 B.cut],.box [.int .i64 x.1,.int .i64 x.2],.box [.int .i64 (Ycf B).1,.int .i64 (Ycf B).2],.box [.int .i64 (Yax t).1.1,.int .i64 (Yax t).1.2],.own false 1 4 (YaN 1 [.int .i64 0,.int .i64 500,.int .i64 250,.int .i64 500]),.box [.int .i64 (Ydk B).1,.int .i64 (Ydk B).2],.box [.int .i64 (endF B).1,.int .i64 (endF B).2],.box [.int .i64 (Ycf B).1,.int .i64 (Ycf B).2,.int .i64 (addF (Ydk B) (endF B)).2],.box [.int .i64 (wayF B t).1.1,.int .i64 (wayF B t).1.2,.int .i64 (wayF B t).2],.box [.int .i64 (wayF B t).1.1,.int .i64 (wayF B t).1.2],.box [.int .i64 (endF B).1,.int .i64 (endF B).2],.box [.int .i64 (Ycf B).1,.int .i64 (Ycf B).2]]
def begC:Ctr:={ alias:=false,of:=fun l=>match l with
 | [.agg [.int .i64 a,.int .i64 b,.int .i64 c,.int .i64 d,.int .i64 e],.agg [.int .i64 x0,.int .i64 x1],.int .i64 least,.int .i64 most,.int .i64 t]=>
   if chkB ⟨a,b,c,d,e⟩=0 then
    if(Yax t).2≠0\/x0<least\/x1<x0\/most<x1 then
     .fin (.tup [.val (.pointer none),.agg [.int .i64 0,.int .i64 0],.int .i64 2]) [.box [.int .i64 a,.int .i64 b,.int .i64 c,.int .i64 d,.int .i64 e],.box [.int .i64 x0,.int .i64 x1],.box [.int .i64 0,.int .i64 0],.box [.int .i64 (Yax t).1.1,.int .i64 (Yax t).1.2]]
    else .fin (.tup [.ptr 8 0,.agg [.int .i64 (Ycf ⟨a,b,c,d,e⟩).1,.int .i64 (Ycf ⟨a,b,c,d,e⟩).2],.int .i64 0]) (begH ⟨a,b,c,d,e⟩ (x0,x1) t)
   else .fin (.tup [.val (.pointer none),.agg [.int .i64 0,.int .i64 0],.int .i64 (chkB ⟨a,b,c,d,e⟩)]) [.box [.int .i64 a,.int .i64 b,.int .i64 c,.int .i64 d,.int .i64 e],.box [.int .i64 x0,.int .i64 x1],.box [.int .i64 0,.int .i64 0]]
 |_=>noC}
theorem Yqb(B:Bdy)(x:Iv)(t:Int):Yl (.tup [.ptr 8 0,.agg [.int .i64 (Ycf B).1,.int .i64 (Ycf B).2],.int .i64 0])/\Ybk (begH B x t):=by
 refine⟨by simp [Yl,Ym],?_⟩
 simp only[begH,Ybk,Ym,Yl,true_and,and_true]
 intro k hk
 match k,hk with
 |0,_=>exact⟨trivial,trivial⟩
 |1,_=>exact⟨trivial,trivial⟩
 |2,_=>exact⟨trivial,trivial⟩
 |3,_=>exact⟨trivial,trivial⟩
def L3:Env:={ ct:=fun n=>match n with|35=>some chkBC|95=>some speedC|56=>some corC|62=>some addC|24=>some sclC|_=>none,fn:=fun n=>match n with|59=>some v59|94=>some v94|96=>some v96|_=>none,meth:=fun _ _=>none,lo:=fun n=>match n with|59=>true|94=>true|_=>false}
theorem YbX:L3.ct 35=some chkBC:=rfl
theorem Yb2:L3.ct 95=some speedC:=rfl
theorem YbY:L3.ct 56=some corC:=rfl
theorem Yb0:L3.ct 62=some addC:=rfl
theorem YbW:L3.ct 24=some sclC:=rfl
theorem YbZ:L3.ct 59=none:=rfl
theorem Yb4:L3.fn 59=some v59:=rfl
theorem Yb1:L3.ct 94=none:=rfl
theorem Yb5:L3.fn 94=some v94:=rfl
theorem Yb3:L3.ct 96=none:=rfl
theorem Yb6:L3.fn 96=some v96:=rfl
theorem L3_ok:Yq YGc L3:=by
 refine⟨fun f c h=>?_,fun f vf h=>?_,(fun _ _ _ h=>by cases h),by kernel_rfl,fun f h=>?_⟩
 ·simp only[L3]at h
  split at h
  ·cases h;exact⟨Yqo,Tryz.f35,Tryz.func35,by kernel_rfl,by kernel_rfl⟩
  ·cases h;exact⟨YzX,Tryz.f95,Tryz.func95,by kernel_rfl,by kernel_rfl⟩
  ·cases h;exact⟨YCm,Tryz.f56,Tryz.func56,by kernel_rfl,by kernel_rfl⟩
  ·cases h;exact⟨YfL,Tryz.f62,Tryz.func62,by kernel_rfl,by kernel_rfl⟩
  ·cases h;exact⟨Ysy,Tryz.f24,Tryz.func24,by kernel_rfl,by kernel_rfl⟩
  ·cases h
 ·simp only[L3]at h
  split at h
  ·cases h;exact⟨Tryz.f59,Tryz.func59,YsZ,Tryz.f59,Tryz.func59,by kernel_rfl,by kernel_rfl⟩
  ·cases h;exact⟨Tryz.f94,Tryz.func94,Ywv,Tryz.f94,Tryz.func94,by kernel_rfl,by kernel_rfl⟩
  ·cases h;exact⟨Tryz.f96,Tryz.func96,Ys0,Tryz.f96,Tryz.func96,by kernel_rfl,by kernel_rfl⟩
  ·cases h
 ·simp only[L3]at h
  split at h
  ·kernel_rfl
  ·kernel_rfl
  ·cases h
theorem Yb7:L3.lo 59=true:=rfl
theorem Yb8:L3.lo 94=true:=rfl
theorem beg_c:begC.ok YGc 57:=by
 refine YfP Tryz.func57 YFp L3_ok 600 begC fun args k h=>?_
 simp only[begC]at h
 split at h
 ·rename_i a b c d e x0 x1 least most t
  refine⟨[.agg [.int .i64 a,.int .i64 b,.int .i64 c,.int .i64 d,.int .i64 e],.agg [.int .i64 x0,.int .i64 x1],.int .i64 least,.int .i64 most,.int .i64 t],by simp [leL,le],?_⟩
  dsimp only[v57,YbX,Yb2,YbY,Yb0,YbW,chkBC,speedC,corC,sclC,addC,iv2C,ivoC,enc2,YbZ,Yb4,Yb7,v59,Yb1,Yb5,Yb8,v94,Yb3,Yb6,v96,go_sem,reduceIte]
  simp only[Yc,YGa,YF9,reduceCtorEq,YF8]
  refine⟨fun hc=>?_,fun hc=>⟨by decide,by decide,fun hg=>?_,fun hg=>⟨by decide,hc,by decide,by decide,?_⟩⟩⟩
  ·rw[if_neg hc]at h
   exact⟨h,by simp [Yl,Ym],by simp [Ybk,Ym,Yl]⟩
  ·rw[if_pos hc,if_pos (by simpa [or_assoc]using hg)]at h
   exact⟨h,by simp [Yl,Ym],by simp [Ybk,Ym,Yl]⟩
  ·have hgood:k (.tup [.ptr 8 0,.agg [.int .i64 (Ycf ⟨a,b,c,d,e⟩).1,.int .i64 (Ycf ⟨a,b,c,d,e⟩).2],.int .i64 0]) (begH ⟨a,b,c,d,e⟩ (x0,x1) t):=by
    rw[if_pos hc,if_neg (fun hh=>by
     simp only[YG8,YG0,decide_eq_true_eq,decide_eq_false_iff_not]at hg
     omega)]at h
    exact h
   have hfr:=Yqb ⟨a,b,c,d,e⟩ (x0,x1) t
   have ha:a=1\/a=2\/a=3:=by
    obtain⟨⟨h1,h2⟩,_⟩:=Yqp hc
    dsimp only at h1 h2;omega
   rcases ha with rfl|rfl|rfl
   ·refine⟨by decide,by decide,?_,?_⟩
    all_goals ((try dsimp only[Int.reduceToNat,YHC,YHw,Int.toNat_one,YbX,Yb2,YbY,Yb0,YbW,chkBC,speedC,corC,sclC,addC,iv2C,ivoC,enc2,YbZ,Yb4,Yb7,v59,Yb1,Yb5,Yb8,v94,Yb3,Yb6,v96,go_sem,reduceIte]);(try simp only[Yc,YGa,YF9,reduceCtorEq,YF8]))
    all_goals repeat' (first|exact⟨hgood,hfr⟩ |apply YGH| (refine YbR _ (by((try dsimp only[Int.reduceToNat,YHC,YHw,Int.toNat_one,YbX,Yb2,YbY,Yb0,YbW,chkBC,speedC,corC,sclC,addC,iv2C,ivoC,enc2,YbZ,Yb4,Yb7,v59,Yb1,Yb5,Yb8,v94,Yb3,Yb6,v96,go_sem,reduceIte]);(try simp only[Yc,YGa,YF9,reduceCtorEq,YF8]));exact⟨by decide,by decide,rfl,fun hh=>absurd trivial hh⟩) ?_;((try dsimp only[Int.reduceToNat,YHC,YHw,Int.toNat_one,YbX,Yb2,YbY,Yb0,YbW,chkBC,speedC,corC,sclC,addC,iv2C,ivoC,enc2,YbZ,Yb4,Yb7,v59,Yb1,Yb5,Yb8,v94,Yb3,Yb6,v96,go_sem,reduceIte]);(try simp only[Yc,YGa,YF9,reduceCtorEq,YF8]))))
   ·refine⟨by decide,by decide,?_,?_⟩
    all_goals ((try dsimp only[Int.reduceToNat,YHC,YHw,Int.toNat_one,YbX,Yb2,YbY,Yb0,YbW,chkBC,speedC,corC,sclC,addC,iv2C,ivoC,enc2,YbZ,Yb4,Yb7,v59,Yb1,Yb5,Yb8,v94,Yb3,Yb6,v96,go_sem,reduceIte]);(try simp only[Yc,YGa,YF9,reduceCtorEq,YF8]))
    all_goals repeat' (first|exact⟨hgood,hfr⟩ |apply YGH| (refine YbR _ (by((try dsimp only[Int.reduceToNat,YHC,YHw,Int.toNat_one,YbX,Yb2,YbY,Yb0,YbW,chkBC,speedC,corC,sclC,addC,iv2C,ivoC,enc2,YbZ,Yb4,Yb7,v59,Yb1,Yb5,Yb8,v94,Yb3,Yb6,v96,go_sem,reduceIte]);(try simp only[Yc,YGa,YF9,reduceCtorEq,YF8]));exact⟨by decide,by decide,rfl,fun hh=>absurd trivial hh⟩) ?_;((try dsimp only[Int.reduceToNat,YHC,YHw,Int.toNat_one,YbX,Yb2,YbY,Yb0,YbW,chkBC,speedC,corC,sclC,addC,iv2C,ivoC,enc2,YbZ,Yb4,Yb7,v59,Yb1,Yb5,Yb8,v94,Yb3,Yb6,v96,go_sem,reduceIte]);(try simp only[Yc,YGa,YF9,reduceCtorEq,YF8]))))
   ·refine⟨by decide,by decide,?_,?_⟩
    all_goals ((try dsimp only[Int.reduceToNat,YHC,YHw,Int.toNat_one,YbX,Yb2,YbY,Yb0,YbW,chkBC,speedC,corC,sclC,addC,iv2C,ivoC,enc2,YbZ,Yb4,Yb7,v59,Yb1,Yb5,Yb8,v94,Yb3,Yb6,v96,go_sem,reduceIte]);(try simp only[Yc,YGa,YF9,reduceCtorEq,YF8]))
    all_goals repeat' (first|exact⟨hgood,hfr⟩ |apply YGH| (refine YbR _ (by((try dsimp only[Int.reduceToNat,YHC,YHw,Int.toNat_one,YbX,Yb2,YbY,Yb0,YbW,chkBC,speedC,corC,sclC,addC,iv2C,ivoC,enc2,YbZ,Yb4,Yb7,v59,Yb1,Yb5,Yb8,v94,Yb3,Yb6,v96,go_sem,reduceIte]);(try simp only[Yc,YGa,YF9,reduceCtorEq,YF8]));exact⟨by decide,by decide,rfl,fun hh=>absurd trivial hh⟩) ?_;((try dsimp only[Int.reduceToNat,YHC,YHw,Int.toNat_one,YbX,Yb2,YbY,Yb0,YbW,chkBC,speedC,corC,sclC,addC,iv2C,ivoC,enc2,YbZ,Yb4,Yb7,v59,Yb1,Yb5,Yb8,v94,Yb3,Yb6,v96,go_sem,reduceIte]);(try simp only[Yc,YGa,YF9,reduceCtorEq,YF8]))))
 ·exact h.1.elim
def v31:VF:=⟨31,[.cell 6 true 2,.tmp 7],(ZR [u1 3 .box [.tm 0],u1 4 .box [.tm 1],Zn 6,Zi 7 0] (ZR [Zt 12 5 3,Zt 13 2 4,Zm 14 2,u1 15 (.call 57) [.tm 12,.tm 13,.cn (.int .i64 1000),.cn (.int .i64 20000000),.tm 14],Zm 11 15,Ze 16 0 11,Ze 17 1 11,Ze 18 2 11,Zn 9,Zm 8 16,Zs 2 9 17,Zm 10 18] (.seq (ZR [Zm 19 10,Zq 20 .neq 19 0] (ZC 20 (ZR [u1 21 (.build [(.int .i64 0),(.int .i64 0)] []) [],Zm 22 10,Zs 2 6 21,Zm 7 22] .ret) .skip)) (.seq (.drawT [] (.ops [Zu 23 8] (.ops [Zw 24 2 4] (.br (.ops [w1 25 (.call 59) [.tm 23,.cn (.fn (.func 60) [] []),.tm 24]] (.ops [Zw 26 2 9] (.ops [w1 27 (.call 59) [.tm 25,.cn (.fn (.func 61) [] []),.tm 26]] (.ops [w1 28 (.call 58) [.tm 27,.cn (.int .i64 12000000)]] (.ops [ZE 29 0 28] (.ops [ZE 30 1 28] (.ops [ZS 2 6 29] (.ops [Zu 7 30] .leaf)))))))) (.ops [Zw 26 2 9] (.ops [w1 25 (.call 59) [.tm 23,.cn (.fn (.func 60) [] []),.tm 24]] (.ops [w1 27 (.call 59) [.tm 25,.cn (.fn (.func 61) [] []),.tm 26]] (.ops [w1 28 (.call 58) [.tm 27,.cn (.int .i64 12000000)]] (.ops [ZE 29 0 28] (.ops [ZE 30 1 28] (.ops [ZS 2 6 29] (.ops [Zu 7 30] .leaf)))))))))))) .ret))))⟩
theorem YE2:Yg YGc Tryz.f31=some v31:=by kernel_rfl
def v33:VF:=⟨38,[.cell 6 true 2,.tmp 7],(ZR [u1 3 .box [.tm 0],u1 4 .box [.tm 1],Zn 6,Zi 7 0] (ZR [Zt 13 5 3,Zt 14 2 4,Zm 15 2,u1 16 (.call 57) [.tm 13,.tm 14,.cn (.int .i64 1),.cn (.int .i64 12000000),.tm 15],Zm 12 16,Ze 17 0 12,Ze 18 1 12,Ze 19 2 12,Zn 9,Zm 8 17,Zs 2 9 18,Zm 10 19] (.seq (ZR [Zm 20 10,Zq 21 .neq 20 0] (ZC 21 (ZR [u1 22 (.build [(.int .i64 0),(.int .i64 0)] []) [],Zm 23 10,Zs 2 6 22,Zm 7 23] .ret) .skip)) (ZR [Zt 24 2 4,u1 25 (.build [(.int .i64 0),(.int .i64 0),(.int .i64 0)] [(0,2)]) [.tm 24],u1 26 .box [.tm 25],Zt 27 2 9,u1 28 (.call 59) [.tm 26,.cn (.fn (.func 62) [] []),.tm 27],Zm 11 28] (ZR [Zm 29 8,Zm 30 11,u1 31 .nilCheck [.tm 30],Za 32 0 31,Zt 33 2 32,u1 34 (.call 59) [.tm 29,.cn (.fn (.func 60) [] []),.tm 33],u1 35 (.call 58) [.tm 34,.cn (.int .i64 200000000)],Ze 36 0 35,Ze 37 1 35,Zs 2 6 36,Zm 7 37] .ret)))))⟩
theorem YE4:Yg YGc Tryz.f33=some v33:=by kernel_rfl
def lenC:Ctr:={ alias:=false,of:=fun l=>match l with
 | [.agg [.int .i64 a,.int .i64 b,.int .i64 c,.int .i64 d,.int .i64 e],.agg [.int .i64 x0,.int .i64 x1],.int .i64 t]=>
   .fin (.tup [.agg (enc2 (lenF ⟨a,b,c,d,e⟩ (x0,x1) t).1),.int .i64 (lenF ⟨a,b,c,d,e⟩ (x0,x1) t).2]) []
 |_=>noC}
def pitC:Ctr:={ alias:=false,of:=fun l=>match l with
 | [.agg [.int .i64 a,.int .i64 b,.int .i64 c,.int .i64 d,.int .i64 e],.agg [.int .i64 x0,.int .i64 x1],.int .i64 t]=>
   .fin (.tup [.agg (enc2 (pitF ⟨a,b,c,d,e⟩ (x0,x1) t).1),.int .i64 (pitF ⟨a,b,c,d,e⟩ (x0,x1) t).2]) []
 |_=>noC}
theorem Yc8{k:SV->List HO->Prop}{al:Bool}{hp:List HO}{p:Iv}{e:Int}(h:k (.tup [.agg (enc2 p),.int .i64 e]) []):YD al k (.tup [.agg [.int .i64 p.1,.int .i64 p.2],.int .i64 e]) hp:=
 YC (show k _ []from h) (Yv (.tup [.agg [.int .i64 p.1,.int .i64 p.2],.int .i64 e]) ⟨⟨trivial,trivial,trivial⟩,trivial,trivial⟩) (fun _=>by simp [enc2,Yl,Ym])
def fitsC:Ctr:={ alias:=false,of:=fun l=>match l with
 | [.xp _ [.int .i64 lo,.int .i64 hi,.int .i64 e],.int .i64 most]=> .fin (.tup [.agg (enc2 (Yhy (lo,hi) e most).1),.int .i64 (Yhy (lo,hi) e most).2]) []
 |_=>noC}
def L40:Env:={ ct:=fun _=>none,fn:=fun _=>none,meth:=fun _ _=>none}
theorem YBp:Yq YGc L40:=by
 refine⟨fun f c h=>?_,fun f vf h=>?_,(fun _ _ _ h=>by cases h),by kernel_rfl,(fun _ h=>by cases h)⟩
 ·cases h
 ·cases h
theorem YCD:fitsC.ok YGc 58:=by
 refine Yb Tryz.func58 YFq YBp 200 fitsC fun args k h=>?_
 simp only[fitsC]at h
 split at h
 ·rename_i tt lo hi e most
  refine⟨[.xp tt [.int .i64 lo,.int .i64 hi,.int .i64 e],.int .i64 most],⟨⟨id,Yd _⟩,⟨rfl,rfl⟩,trivial⟩,?_⟩
  dsimp only[v58,go_sem,reduceIte]
  simp only[Yc,YGa,YF9,reduceCtorEq,YF8]
  refine⟨fun hc=>?_,fun hc=>?_⟩
  ·rw[show Yhy (lo,hi) e most=((0,0),7)by
    rw[Yhy,if_pos]
    simp only[YG6,YGA,decide_eq_true_eq,decide_eq_false_iff_not]at hc
    simp only;omega]at h
   exact Yc8 (p:=(0,0)) h
  ·rw[show Yhy (lo,hi) e most=((lo,hi),0)by
    rw[Yhy,if_neg]
    simp only[YG8,YG0,decide_eq_true_eq,decide_eq_false_iff_not]at hc
    simp only;omega]at h
   exact Yc8 (p:=(lo,hi)) h
 ·exact h.1.elim
def L4:Env:={ ct:=fun n=>match n with|57=>some begC|60=>some quoC|61=>some subC|62=>some addC|58=>some fitsC|_=>none,fn:=fun n=>match n with|59=>some v59|96=>some v96|_=>none,meth:=fun _ _=>none,lo:=fun n=>match n with|59=>true|_=>false}
theorem Yal:L4.ct 57=some begC:=rfl
theorem Yao:L4.ct 60=some quoC:=rfl
theorem Yap:L4.ct 61=some subC:=rfl
theorem Yaq:L4.ct 62=some addC:=rfl
theorem Yam:L4.ct 58=some fitsC:=rfl
theorem Yan:L4.ct 59=none:=rfl
theorem Yas:L4.fn 59=some v59:=rfl
theorem Yar:L4.ct 96=none:=rfl
theorem Yat:L4.fn 96=some v96:=rfl
theorem YBq:Yq YGc L4:=by
 refine⟨fun f c h=>?_,fun f vf h=>?_,(fun _ _ _ h=>by cases h),by kernel_rfl,fun f h=>?_⟩
 ·simp only[L4]at h
  split at h
  ·cases h;exact⟨beg_c,Tryz.f57,Tryz.func57,by kernel_rfl,by kernel_rfl⟩
  ·cases h;exact⟨Ywf,Tryz.f60,Tryz.func60,by kernel_rfl,by kernel_rfl⟩
  ·cases h;exact⟨YEG,Tryz.f61,Tryz.func61,by kernel_rfl,by kernel_rfl⟩
  ·cases h;exact⟨YfL,Tryz.f62,Tryz.func62,by kernel_rfl,by kernel_rfl⟩
  ·cases h;exact⟨YCD,Tryz.f58,Tryz.func58,by kernel_rfl,by kernel_rfl⟩
  ·cases h
 ·simp only[L4]at h
  split at h
  ·cases h;exact⟨Tryz.f59,Tryz.func59,YsZ,Tryz.f59,Tryz.func59,by kernel_rfl,by kernel_rfl⟩
  ·cases h;exact⟨Tryz.f96,Tryz.func96,Ys0,Tryz.f96,Tryz.func96,by kernel_rfl,by kernel_rfl⟩
  ·cases h
 ·simp only[L4]at h
  split at h
  ·kernel_rfl
  ·cases h
theorem Yau:L4.lo 59=true:=rfl
theorem len_c:lenC.ok YGc 31:=by
 refine Yb Tryz.func31 YE2 YBq 600 lenC fun args k h=>?_
 simp only[lenC]at h
 split at h
 ·rename_i a b c d e x0 x1 t
  refine⟨[.agg [.int .i64 a,.int .i64 b,.int .i64 c,.int .i64 d,.int .i64 e],.agg [.int .i64 x0,.int .i64 x1],.int .i64 t],by simp [leL,le],?_⟩
  by_cases hc:chkB ⟨a,b,c,d,e⟩=0
  ·by_cases hg:(Yax t).2≠0\/x0<1000\/x1<x0\/20000000<x1
   ·dsimp only[v31,begC,Yal,Yao,Yap,Yaq,quoC,subC,addC,iv2C,ivoC,enc2,Yan,Yas,Yau,v59,Yar,Yat,v96,Yam,fitsC,go_sem,reduceIte]
    simp only[if_pos hc,if_pos hg]
    ((try dsimp only[Yal,Yao,Yap,Yaq,quoC,subC,addC,iv2C,ivoC,enc2,Yan,Yas,Yau,v59,Yar,Yat,v96,Yam,fitsC,go_sem,reduceIte]);(try simp only[Yc,YGa,YF9,reduceCtorEq,YF8]))
    refine⟨by decide,by decide,by decide,fun _=>?_,fun hh=>absurd hh (by decide)⟩
    rw[show lenF ⟨a,b,c,d,e⟩ (x0,x1) t=((0,0),2)by rw[lenF,show begE ⟨a,b,c,d,e⟩ (x0,x1) 1000 20000000 t=2 by rw[begE,if_neg (fun hh=>hh hc),if_pos hg],if_pos (by decide)]]at h
    exact Yc8 (p:=(0,0)) h
   ·have hB:begE ⟨a,b,c,d,e⟩ (x0,x1) 1000 20000000 t=0:=by rw[begE,if_neg (fun hh=>hh hc),if_neg hg]
    have MW:(wayF ⟨a,b,c,d,e⟩ t).2=0:=Ys3 _ _
    have MQ:(quoF ((wayF ⟨a,b,c,d,e⟩ t).1.1,(wayF ⟨a,b,c,d,e⟩ t).1.2) (x0,x1)).2=0:=by
     obtain⟨w0,w1,w2⟩:=YF4 ⟨a,b,c,d,e⟩ t
     exact YDO w0 w1 (by omega) (by simp only;omega) (by simp only;omega) (by simp only;omega)
    have hL:lenF ⟨a,b,c,d,e⟩ (x0,x1) t=Yhy (subF (quoF (wayF ⟨a,b,c,d,e⟩ t).1 (x0,x1)).1 (Ycf ⟨a,b,c,d,e⟩)).1 (subF (quoF (wayF ⟨a,b,c,d,e⟩ t).1 (x0,x1)).1 (Ycf ⟨a,b,c,d,e⟩)).2 12000000:=by
     rw[lenF,hB,if_neg (by decide),MW,show(quoF (wayF ⟨a,b,c,d,e⟩ t).1 (x0,x1)).2=0 from MQ]
     rfl
    rw[hL]at h
    dsimp only[v31,begC,Yal,Yao,Yap,Yaq,quoC,subC,addC,iv2C,ivoC,enc2,Yan,Yas,Yau,v59,Yar,Yat,v96,Yam,fitsC,go_sem,reduceIte]
    simp only[if_pos hc,if_neg hg,begH,Yc,YGa,YF9,reduceCtorEq,YF8]
    simp only[MW]
    ((try dsimp only[Yal,Yao,Yap,Yaq,quoC,subC,addC,iv2C,ivoC,enc2,Yan,Yas,Yau,v59,Yar,Yat,v96,Yam,fitsC,go_sem,reduceIte]);(try simp only[Yc,YGa,YF9,reduceCtorEq,YF8]))
    refine⟨by decide,by decide,by decide,fun hh=>absurd trivial hh,?_⟩
    repeat' (first|exact Yc8 h| (first|apply YGH| (refine YbR _ (by((try dsimp only[Yal,Yao,Yap,Yaq,quoC,subC,addC,iv2C,ivoC,enc2,Yan,Yas,Yau,v59,Yar,Yat,v96,Yam,fitsC,go_sem,reduceIte]);(try simp only[Yc,YGa,YF9,reduceCtorEq,YF8]));exact⟨by decide,by decide,rfl,fun hh=>absurd trivial hh⟩) ?_;(try simp only[MW,MQ]);((try dsimp only[Yal,Yao,Yap,Yaq,quoC,subC,addC,iv2C,ivoC,enc2,Yan,Yas,Yau,v59,Yar,Yat,v96,Yam,fitsC,go_sem,reduceIte]);(try simp only[Yc,YGa,YF9,reduceCtorEq,YF8])))) |decide)
  ·dsimp only[v31,begC,Yal,Yao,Yap,Yaq,quoC,subC,addC,iv2C,ivoC,enc2,Yan,Yas,Yau,v59,Yar,Yat,v96,Yam,fitsC,go_sem,reduceIte]
   simp only[if_neg hc]
   ((try dsimp only[Yal,Yao,Yap,Yaq,quoC,subC,addC,iv2C,ivoC,enc2,Yan,Yas,Yau,v59,Yar,Yat,v96,Yam,fitsC,go_sem,reduceIte]);(try simp only[Yc,YGa,YF9,reduceCtorEq,YF8]))
   refine⟨by decide,by decide,by decide,fun _=>?_,fun hh=>absurd hh hc⟩
   rw[show lenF ⟨a,b,c,d,e⟩ (x0,x1) t=((0,0),chkB ⟨a,b,c,d,e⟩)by rw[lenF,show begE ⟨a,b,c,d,e⟩ (x0,x1) 1000 20000000 t=chkB ⟨a,b,c,d,e⟩by rw[begE,if_pos hc],if_pos hc]]at h
   exact Yc8 (p:=(0,0)) h
 ·exact h.1.elim
theorem pit_c:pitC.ok YGc 33:=by
 refine Yb Tryz.func33 YE4 YBq 600 pitC fun args k h=>?_
 simp only[pitC]at h
 split at h
 ·rename_i a b c d e x0 x1 t
  refine⟨[.agg [.int .i64 a,.int .i64 b,.int .i64 c,.int .i64 d,.int .i64 e],.agg [.int .i64 x0,.int .i64 x1],.int .i64 t],by simp [leL,le],?_⟩
  by_cases hc:chkB ⟨a,b,c,d,e⟩=0
  ·by_cases hg:(Yax t).2≠0\/x0<1\/x1<x0\/12000000<x1
   ·dsimp only[v33,begC,Yal,Yao,Yap,Yaq,quoC,subC,addC,iv2C,ivoC,enc2,Yan,Yas,Yau,v59,Yar,Yat,v96,Yam,fitsC,go_sem,reduceIte]
    simp only[if_pos hc,if_pos hg]
    ((try dsimp only[Yal,Yao,Yap,Yaq,quoC,subC,addC,iv2C,ivoC,enc2,Yan,Yas,Yau,v59,Yar,Yat,v96,Yam,fitsC,go_sem,reduceIte]);(try simp only[Yc,YGa,YF9,reduceCtorEq,YF8]))
    refine⟨by decide,by decide,by decide,fun _=>?_,fun hh=>absurd hh (by decide)⟩
    rw[show pitF ⟨a,b,c,d,e⟩ (x0,x1) t=((0,0),2)by rw[pitF,show begE ⟨a,b,c,d,e⟩ (x0,x1) 1 12000000 t=2 by rw[begE,if_neg (fun hh=>hh hc),if_pos hg],if_pos (by decide)]]at h
    exact Yc8 (p:=(0,0)) h
   ·have hB:begE ⟨a,b,c,d,e⟩ (x0,x1) 1 12000000 t=0:=by rw[begE,if_neg (fun hh=>hh hc),if_neg hg]
    have MW:(wayF ⟨a,b,c,d,e⟩ t).2=0:=Ys3 _ _
    have hL:pitF ⟨a,b,c,d,e⟩ (x0,x1) t=Yhy (quoF (wayF ⟨a,b,c,d,e⟩ t).1 (addF (x0,x1) (Ycf ⟨a,b,c,d,e⟩)).1).1 (quoF (wayF ⟨a,b,c,d,e⟩ t).1 (addF (x0,x1) (Ycf ⟨a,b,c,d,e⟩)).1).2 200000000:=by
     rw[pitF,hB,if_neg (by decide),MW]
     rfl
    rw[hL]at h
    dsimp only[v33,begC,Yal,Yao,Yap,Yaq,quoC,subC,addC,iv2C,ivoC,enc2,Yan,Yas,Yau,v59,Yar,Yat,v96,Yam,fitsC,go_sem,reduceIte]
    simp only[if_pos hc,if_neg hg,begH,Yc,YGa,YF9,reduceCtorEq,YF8]
    simp only[MW]
    ((try dsimp only[Yal,Yao,Yap,Yaq,quoC,subC,addC,iv2C,ivoC,enc2,Yan,Yas,Yau,v59,Yar,Yat,v96,Yam,fitsC,go_sem,reduceIte]);(try simp only[Yc,YGa,YF9,reduceCtorEq,YF8]))
    refine⟨by decide,by decide,by decide,fun hh=>absurd trivial hh,?_⟩
    repeat' (first|exact Yc8 h|exact fun hh=>absurd trivial hh| (first|apply YGH| (refine YbR _ (by((try dsimp only[Yal,Yao,Yap,Yaq,quoC,subC,addC,iv2C,ivoC,enc2,Yan,Yas,Yau,v59,Yar,Yat,v96,Yam,fitsC,go_sem,reduceIte]);(try simp only[Yc,YGa,YF9,reduceCtorEq,YF8]));exact⟨by decide,by decide,rfl,fun hh=>absurd trivial hh⟩) ?_;(try simp only[MW]);((try dsimp only[Yal,Yao,Yap,Yaq,quoC,subC,addC,iv2C,ivoC,enc2,Yan,Yas,Yau,v59,Yar,Yat,v96,Yam,fitsC,go_sem,reduceIte]);(try simp only[Yc,YGa,YF9,reduceCtorEq,YF8])))) |decide)
  ·dsimp only[v33,begC,Yal,Yao,Yap,Yaq,quoC,subC,addC,iv2C,ivoC,enc2,Yan,Yas,Yau,v59,Yar,Yat,v96,Yam,fitsC,go_sem,reduceIte]
   simp only[if_neg hc]
   ((try dsimp only[Yal,Yao,Yap,Yaq,quoC,subC,addC,iv2C,ivoC,enc2,Yan,Yas,Yau,v59,Yar,Yat,v96,Yam,fitsC,go_sem,reduceIte]);(try simp only[Yc,YGa,YF9,reduceCtorEq,YF8]))
   refine⟨by decide,by decide,by decide,fun _=>?_,fun hh=>absurd hh hc⟩
   rw[show pitF ⟨a,b,c,d,e⟩ (x0,x1) t=((0,0),chkB ⟨a,b,c,d,e⟩)by rw[pitF,show begE ⟨a,b,c,d,e⟩ (x0,x1) 1 12000000 t=chkB ⟨a,b,c,d,e⟩by rw[begE,if_pos hc],if_pos hc]]at h
   exact Yc8 (p:=(0,0)) h
 ·exact h.1.elim
end Go.Proofs.YtmiclogmkfobgaaGreat
