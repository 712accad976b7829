/- Layouts, walked: what a board and pipes must be; where pipes stand; Check. -/
import Derived.Test.YtlfhmpkopcnheaaGreatMgX40g
import Derived.Test.YtlfhmpkopcnheaaGreatProg
import Derived.Test.YtlfhmpkopcnheaaGreatMgX40f
open Bool renaming and_eq_true->YHn,false_eq_true->YHG,not_eq_true->YIp,not_eq_true'->YHD,or_eq_false_iff->YHp,or_eq_true->YHS
open Int renaming eq_ofNat_of_zero_le->YHv,le_refl->YIs,mul_nonneg->YIe,toNat->YH0,toNat_natCast->YHj
open Go.IntWalk renaming i64_in->YHi
open List renaming any_eq_false->YHP,any_eq_true->YIt,foldl_cons->YHX,getD_eq_getElem?_getD->YHo,getElem?_append->YIh,getElem?_append_left->YH6,getElem?_drop->YIn,getElem?_eq_getElem->YH2,getElem?_take->YH3,length_append->YHM,length_cons->YH8,length_drop->YIg,length_take->YHV,map_cons->YHH,mem_append->YHO,mem_cons->YHI,mem_cons_of_mem->YHu,mem_cons_self->YHw,mem_of_mem_drop->YIm,range->YIc,take_length->YIq
open Nat renaming eq_zero_or_pos->YH4,le_refl->YHr,le_trans->YHC,lt_or_ge->YHA,mod_lt->YIk,mul_comm->YHq,mul_le_mul->YHE,mul_pow->YIl,pow_le_pow_left->YHN,pow_mul->YHQ,pow_pos->YIv,reduceAdd->YHf,reduceEqDiff->YHg,reduceLeDiff->YHh,zero_le->YHK
open Go.Proofs.Tryz renaming prog->YHk
set_option linter.all false
namespace Go.Proofs.YtlfhmpkopcnheaaGreat
open Go Go.Vx
set_option maxRecDepth 100000
set_option maxHeartbeats 4000000
def encS(p:Std):List SV:=[.int .i64 p.x,.int .i64 p.y,.int .i64 p.r,.int .i64 p.h]
def encT(p:Int×Int):List SV:=[.int .i64 p.1,.int .i64 p.2]
def brdP(b:Brd)(w d c a s:Int)(n sz:Nat)(get:Nat->List SV):Prop:=(w=b.w/\d=b.d/\c=b.c/\a=b.a/\s=b.s)/\lsP 2 encT n sz get b.wk
def Yes(t z:Bool)(b:Brd):List SV:=[.int .i64 b.w,.int .i64 b.d,.int .i64 b.c,.int .i64 b.a,.int .i64 b.s,.vs t z b.wk.length 2 (fun k=>encT (b.wk.getD k default))]
theorem Yh0{b:Brd}{w d c a s:Int}{t z:Bool}{n sz:Nat}{get:Nat->List SV}(h:brdP b w d c a s n sz get):
 le 0 0 (.agg [.int .i64 w,.int .i64 d,.int .i64 c,.int .i64 a,.int .i64 s,.vs t z n sz get]) (.agg (Yes t z b)):=by
 obtain⟨⟨rfl,rfl,rfl,rfl,rfl⟩,rfl,rfl,h⟩:=h
 simpa [Yes,leL,le]using h
theorem Ybv(b:Brd):brdP b b.w b.d b.c b.a b.s b.wk.length 2 (fun k=>encT (b.wk.getD k default)):=⟨⟨rfl,rfl,rfl,rfl,rfl⟩,YD⟩
def v61:VF:=⟨15,[.tmp 6],(ZR [u1 6 .mov [.cn (.bool false)]] (ZR [Zm 7 0,Zm 8 1,Zr 9 .lss 7 8,Zm 10 9,Zg 11 10 false 0,Zg 12 10 false 2,u2 13 10 false (.cmp .gtr) [.tm 11,.tm 12],u1 14 .or [.tm 10,.tm 13],Zm 6 14] .ret))⟩
theorem YGv:Ye YHk Tryz.f61=some v61:=by kernel_rfl
def v24:VF:=⟨33,[.tmp 2],(ZR [u1 1 .box [.tm 0],u1 2 .mov [.cn (.bool false)]] (ZR [u1 3 .mov [.cn (.fn (.func 60) [] [])]] (ZR [Za 4 0 1,Zf 5 1 4,u1 6 (.call 61) [.tm 5,.cn (.int .i64 1),.cn (.int .i64 10000000)],Zm 7 6,Zj 8 7 false 1 1,Zh 9 7 false 1 8,u2 10 7 false (.call 61) [.tm 9,.cn (.int .i64 1),.cn (.int .i64 10000000)],u1 11 .or [.tm 7,.tm 10],Zm 12 11,Zj 13 12 false 2 1,Zh 14 12 false 1 13,u2 15 12 false (.call 61) [.tm 14,.cn (.int .i64 0),.cn (.int .i64 1000000)],u1 16 .or [.tm 12,.tm 15],Zm 17 16,Zj 18 17 false 4 1,Zh 19 17 false 1 18,u2 20 17 false (.call 61) [.tm 19,.cn (.int .i64 0),.cn (.int .i64 1000000)],u1 21 .or [.tm 17,.tm 20],Zm 22 21,Zj 23 22 false 3 1,Zh 24 22 false 1 23,u2 25 22 false (.call 61) [.tm 24,.cn (.int .i64 1),.cn (.int .i64 10000000)],u1 26 .or [.tm 22,.tm 25],Zm 27 26,Zj 28 27 false 5 1,Zh 29 27 false 1 28,Zg 30 27 false 3,u2 31 27 false (.call 62) [.tm 29,.tm 30],u1 32 .or [.tm 27,.tm 31],Zm 2 32] .ret)))⟩
theorem YFU:Ye YHk Tryz.f24=some v24:=by kernel_rfl
def v60:VF:=⟨11,[.tmp 2],(ZR [u1 1 .box [.tm 0],u1 2 .mov [.cn (.bool false)]] (ZR [Za 3 0 1,Zf 4 1 3,u1 5 (.call 61) [.tm 4,.cn (.int .i64 (-10000000)),.cn (.int .i64 20000000)],Zm 6 5,Zj 7 6 false 1 1,Zh 8 6 false 1 7,u2 9 6 false (.call 61) [.tm 8,.cn (.int .i64 (-10000000)),.cn (.int .i64 20000000)],u1 10 .or [.tm 6,.tm 9],Zm 2 10] .ret))⟩
theorem YGu:Ye YHk Tryz.f60=some v60:=by kernel_rfl
def v26:VF:=⟨11,[.tmp 2],(ZR [u1 1 .box [.tm 0],u1 2 .mov [.cn (.bool false)]] (ZR [Za 3 0 1,Zf 4 1 3,u1 5 (.call 61) [.tm 4,.cn (.int .i64 1),.cn (.int .i64 1000000)],Zm 6 5,Zj 7 6 false 1 1,Zh 8 6 false 1 7,u2 9 6 false (.call 61) [.tm 8,.cn (.int .i64 1),.cn (.int .i64 12000000)],u1 10 .or [.tm 6,.tm 9],Zm 2 10] .ret))⟩
theorem YFW:Ye YHk Tryz.f26=some v26:=by kernel_rfl
def v43:VF:=⟨24,[.tmp 4],(ZR [u1 2 .box [.tm 0],Zi 4 0] (ZR [u1 5 .mov [.cn (.fn (.func 77) [] [])]] (.seq (.block 0 (ZR [Za 7 5 2,Zf 8 1 7,Zl 9 8,Zq 10 .gtr 9 8,Zm 11 10,Zg 12 11 false 1,u2 13 11 false .len [.tm 12],u2 14 11 false (.cmp .gtr) [.tm 13,.cn (.int .i64 200)],u1 15 .or [.tm 11,.tm 14],Zm 6 15] (ZC 6 (ZR [Zi 4 3] .ret) (ZR [Zt 17 6 2,Zc 18 24 17,Zm 19 18,Zg 20 19 false 1,Zg 21 19 false 5,u2 22 19 false (.call 78) [.tm 20,.tm 21],u1 23 .or [.tm 19,.tm 22],Zm 16 23] (ZC 16 (ZR [Zi 4 2] .ret) .skip))))) (ZR [Zi 4 0] .ret))))⟩
theorem YGd:Ye YHk Tryz.f43=some v43:=by kernel_rfl
def v77:VF:=⟨19,[.tmp 2],(ZR [u1 1 .box [.tm 0],u1 2 .mov [.cn (.bool false)]] (ZR [Za 3 2 1,Zf 4 1 3,Za 5 3 1,Zf 6 1 5,u1 7 (.build [(.int .i64 0),(.int .i64 0)] [(0,1),(1,1)]) [.tm 4,.tm 6],Zc 8 26 7,Zm 9 8,Zj 10 9 false 0 1,Zh 11 9 false 1 10,u2 12 9 false (.call 61) [.tm 11,.cn (.int .i64 0),.cn (.int .i64 10000000)],u1 13 .or [.tm 9,.tm 12],Zm 14 13,Zj 15 14 false 1 1,Zh 16 14 false 1 15,u2 17 14 false (.call 61) [.tm 16,.cn (.int .i64 0),.cn (.int .i64 10000000)],u1 18 .or [.tm 14,.tm 17],Zm 2 18] .ret))⟩
theorem YGK:Ye YHk Tryz.f77=some v77:=by kernel_rfl
def v62:VF:=⟨9,[.tmp 4],(ZR [u1 4 .mov [.cn (.bool false)]] (ZR [Zm 5 0,Zm 6 1,Zd 7 92 5 6,Zq 8 .geq 7 0,Zm 4 8] .ret))⟩
theorem YGw:Ye YHk Tryz.f62=some v62:=by kernel_rfl
def v92:VF:=⟨19,[.tmp 4],(ZR [Zi 4 0] (.seq (ZR [Zm 6 0,Zl 7 6,Zi 8 0] (.block 0 (.loop (ZR [Zr 9 .lss 8 7] (.seq (ZC 9 .skip (.exit 0)) (.seq (.block 1 (ZR [Zm 10 8,Zm 5 10] (ZR [Zm 11 1,Zm 12 0,Zm 13 5,Zx 14 2 12 13,Zt 15 2 14,u1 16 .callv [.tm 11,.tm 15]] (ZC 16 (ZR [Zm 17 5,Zm 4 17] .ret) .skip)))) (.region [Zp 18 8 1,Zm 8 18]))))))) (ZR [Zi 4 (-1)] .ret)))⟩
theorem YGY:Ye YHk Tryz.f92=some v92:=by kernel_rfl
def v78:VF:=⟨9,[.tmp 4],(ZR [u1 4 .mov [.cn (.bool false)]] (ZR [Zm 5 0,Zm 6 1,Zd 7 113 5 6,Zq 8 .geq 7 0,Zm 4 8] .ret))⟩
theorem YxU:Ye YHk Tryz.f78=some v78:=by kernel_rfl
def v113:VF:=⟨19,[.tmp 4],(ZR [Zi 4 0] (.seq (ZR [Zm 6 0,Zl 7 6,Zi 8 0] (.block 0 (.loop (ZR [Zr 9 .lss 8 7] (.seq (ZC 9 .skip (.exit 0)) (.seq (.block 1 (ZR [Zm 10 8,Zm 5 10] (ZR [Zm 11 1,Zm 12 0,Zm 13 5,Zx 14 4 12 13,Zt 15 4 14,u1 16 .callv [.tm 11,.tm 15]] (ZC 16 (ZR [Zm 17 5,Zm 4 17] .ret) .skip)))) (.region [Zp 18 8 1,Zm 8 18]))))))) (ZR [Zi 4 (-1)] .ret)))⟩
theorem YtJ:Ye YHk Tryz.f113=some v113:=by kernel_rfl
def v25:VF:=⟨9,[.tmp 4],(ZR [u1 4 .mov [.cn (.bool false)]] (ZR [Zm 5 0,Zm 6 1,Zd 7 63 5 6,Zq 8 .geq 7 0,Zm 4 8] .ret))⟩
theorem YFV:Ye YHk Tryz.f25=some v25:=by kernel_rfl
def v63:VF:=⟨19,[.tmp 4],(ZR [Zi 4 0] (.seq (ZR [Zm 6 0,Zl 7 6,Zi 8 0] (.block 0 (.loop (ZR [Zr 9 .lss 8 7] (.seq (ZC 9 .skip (.exit 0)) (.seq (.block 1 (ZR [Zm 10 8,Zm 5 10] (ZR [Zm 11 1,Zm 12 0,Zm 13 5,Zx 14 2 12 13,Zt 15 2 14,u1 16 .callv [.tm 11,.tm 15]] (ZC 16 (ZR [Zm 17 5,Zm 4 17] .ret) .skip)))) (.region [Zp 18 8 1,Zm 8 18]))))))) (ZR [Zi 4 (-1)] .ret)))⟩
theorem YGx:Ye YHk Tryz.f63=some v63:=by kernel_rfl
def outC:Ctr:={ alias:=false,of:=fun l=>match l with
 | [.int .i64 n,.int .i64 lo,.int .i64 hi]=> .fin (.bool (outF n lo hi)) []
 |_=>noC}
def E0:Env:={ ct:=fun _=>none,fn:=fun _=>none,meth:=fun _ _=>none}
theorem E0_ok:Yn YHk E0:=by
 refine⟨fun f c h=>?_,fun f vf h=>?_,(fun _ _ _ h=>by cases h),by kernel_rfl,(fun _ h=>by cases h),(fun _ _ h=>by cases h)⟩
 ·cases h
 ·cases h
theorem YnZ:outC.ok YHk 61:=by
 refine Yb Tryz.func61 YGv E0_ok 100 outC fun args k h=>⟨args,?_⟩
 simp only[outC]at h
 split at h
 ·refine⟨by simp [leL,le],?_⟩
  dsimp only[v61,go_sem,reduceIte,YHf]
  simp only[Yc,YHf,YHh,reduceCtorEq,YHg]
  have h:k _ []:=h
  unfold outF at h
  exact Yi h
 ·exact h.1.elim
def ptC:Ctr:={ alias:=false,of:=fun l=>match l with
 | [.agg [.int .i64 x,.int .i64 y]]=> .fin (.bool (Yfv (x,y))) []
 |_=>noC}
def ftC:Ctr:={ alias:=false,of:=fun l=>match l with
 | [.agg [.int .i64 r,.int .i64 h]]=> .fin (.bool (Yja r h)) []
 |_=>noC}
def ppC:Ctr:={ alias:=false,of:=fun l=>match l with
 | [.agg [.int .i64 x,.int .i64 y,.int .i64 r,.int .i64 h]]=> .fin (.bool (Yg4 ⟨x,y,r,h⟩)) []
 |_=>noC}
def E1:Env:={ ct:=fun n=>match n with|61=>some outC|_=>none,fn:=fun _=>none,meth:=fun _ _=>none}
theorem YpL:E1.ct 61=some outC:=rfl
theorem YCs:Yn YHk E1:=by
 refine⟨fun f c h=>?_,fun f vf h=>?_,(fun _ _ _ h=>by cases h),by kernel_rfl,(fun _ h=>by cases h),(fun _ _ h=>by cases h)⟩
 ·simp only[E1]at h
  split at h
  ·cases h;exact⟨YnZ,Tryz.f61,Tryz.func61,by kernel_rfl,by kernel_rfl⟩
  ·cases h
 ·cases h
theorem pt_ok:ptC.ok YHk 60:=by
 refine Yb Tryz.func60 YGu YCs 100 ptC fun args k h=>⟨args,?_⟩
 simp only[ptC]at h
 split at h
 ·refine⟨by simp [leL,le],?_⟩
  dsimp only[v60,YpL,outC,go_sem,reduceIte,YHf]
  simp only[Yc,YHf,YHh,reduceCtorEq,YHg]
  have h:k _ []:=h
  exact Yi h
 ·exact h.1.elim
theorem YDM:ftC.ok YHk 26:=by
 refine Yb Tryz.func26 YFW YCs 100 ftC fun args k h=>⟨args,?_⟩
 simp only[ftC]at h
 split at h
 ·refine⟨by simp [leL,le],?_⟩
  dsimp only[v26,YpL,outC,go_sem,reduceIte,YHf]
  simp only[Yc,YHf,YHh,reduceCtorEq,YHg]
  have h:k _ []:=h
  exact Yi h
 ·exact h.1.elim
def E2:Env:={ ct:=fun n=>match n with|61=>some outC|26=>some ftC|_=>none,fn:=fun _=>none,meth:=fun _ _=>none}
theorem Yx0:E2.ct 61=some outC:=rfl
theorem YxZ:E2.ct 26=some ftC:=rfl
theorem E2_ok:Yn YHk E2:=by
 refine⟨fun f c h=>?_,fun f vf h=>?_,(fun _ _ _ h=>by cases h),by kernel_rfl,(fun _ h=>by cases h),(fun _ _ h=>by cases h)⟩
 ·simp only[E2]at h
  split at h
  ·cases h;exact⟨YnZ,Tryz.f61,Tryz.func61,by kernel_rfl,by kernel_rfl⟩
  ·cases h;exact⟨YDM,Tryz.f26,Tryz.func26,by kernel_rfl,by kernel_rfl⟩
  ·cases h
 ·cases h
theorem pp_ok:ppC.ok YHk 77:=by
 refine Yb Tryz.func77 YGK E2_ok 100 ppC fun args k h=>⟨args,?_⟩
 simp only[ppC]at h
 split at h
 ·refine⟨by simp [leL,le],?_⟩
  dsimp only[v77,Yx0,YxZ,outC,ftC,go_sem,reduceIte,YHf]
  simp only[Yc,YHf,YHh,reduceCtorEq,YHg]
  have h:k _ []:=h
  exact Yi h
 ·exact h.1.elim
def YvG(f:Int×Int):Bool:=Yja f.1 f.2
def YAt(g:Nat)(cap:List SV)(F:Int×Int->Bool):Prop:=g=60/\cap=[]/\F=Yfv
def YAr(g:Nat)(cap:List SV)(F:Int×Int->Bool):Prop:=g=26/\cap=[]/\F=YvG
def YAs(g:Nat)(cap:List SV)(F:Std->Bool):Prop:=g=77/\cap=[]/\F=Yg4
def anyC{α:Type}[Inhabited α](size:Nat)(e:α->List SV)(P:Nat->List SV->(α->Bool)->Prop):Ctr:={ alias:=false,of:=fun l=>match l with
 | [.vs _ _ n sz get,.fn (.func g) [] cap]=> .ex (List α) fun l=> .ex (α->Bool) fun F=> .pre (lsP size e n sz get l/\l.length<=1000000000000/\P g cap F) (.fin (.bool (l.any F)) [])
 |_=>noC}
def YyR:Ctr:=anyC 2 encT YAt
def YyM:Ctr:=anyC 2 encT YAr
def YyP:Ctr:=anyC 4 encS YAs
def E3:Env:={ ct:=fun n=>match n with|60=>some ptC|_=>none,fn:=fun n=>match n with|92=>some v92|_=>none,meth:=fun _ _=>none}
theorem Yx1:E3.ct 60=some ptC:=rfl
theorem Yx2:E3.ct 92=none:=rfl
theorem Yx3:E3.fn 92=some v92:=rfl
theorem E3_ok:Yn YHk E3:=by
 refine⟨fun f c h=>?_,fun f vf h=>?_,(fun _ _ _ h=>by cases h),by kernel_rfl,(fun _ h=>by cases h),(fun _ _ h=>by cases h)⟩
 ·simp only[E3]at h
  split at h
  ·cases h;exact⟨pt_ok,Tryz.f60,Tryz.func60,by kernel_rfl,by kernel_rfl⟩
  ·cases h
 ·simp only[E3]at h
  split at h
  ·cases h;exact⟨Tryz.f92,Tryz.func92,YGY,Tryz.f92,Tryz.func92,by kernel_rfl,by kernel_rfl⟩
  ·cases h
theorem YyS:(anyC 2 encT YAt).ok YHk 62:=by
 refine Yb Tryz.func62 YGw E3_ok 100 (anyC 2 encT YAt) fun args k h=>?_
 simp only[anyC]at h
 split at h
 ·rename_i t z n sz get g cap
  obtain⟨l,F,⟨⟨rfl,rfl,hg⟩,hl,rfl,rfl,rfl⟩,h⟩:=h
  refine⟨[.vs t z l.length 2 (fun k=>encT (l.getD k default)),.fn (.func 60) [] []],⟨by simpa [le]using hg,by simp [YgS,bndL],trivial⟩,?_⟩
  have h:k (.bool (l.any Yfv)) []:=h
  dsimp only[v62,v92,Yx2,Yx3,encT,go_sem,reduceIte,YHf]
  simp only[Yc,YHf,YHh,reduceCtorEq,YHg]
  obtain⟨F,hF⟩:∃F,F=Yfv:=⟨_,rfl⟩
  rw[<-hF]at h
  refine Loop.keep [0,0,5,0] Nat (fun i=>[(8,.int .i64 i)]) (fun _=>[]) [] (fun i=>i<=l.length/\∀j,j<i->F (l.getD j default)=false) (fun i=>l.length-i) ?_ ?_
  ·refine⟨0,⟨YHK _,fun j h=>by omega⟩,?_⟩
   dsimp only[go_sem,reduceIte,YHf]
   simp only[Ya]
   simp
  ·rintro i ⟨hi,ha⟩
   dsimp only[Yx1,ptC,encT,YHj,go_sem,reduceIte,YHf]
   simp only[Yc,YHf,YHh,reduceCtorEq,YHg]
   simp only[show Yfv (((l.getD i default).1,(l.getD i default).2))=F (l.getD i default)by rw[hF]]
   refine⟨fun hlt=>⟨⟨by omega,hlt⟩,fun hb=>?_,fun hb=>?_⟩,fun hge=>?_⟩
   ·have e:l.any F=true:=YIt.2 ⟨_,Yh (by omega:i<l.length),hb⟩
    have e2:decide (0<=(i:Int))=true:=decide_eq_true (by omega)
    rw[e2]
    exact Yi (by rw[e]at h;exact h)
   ·refine⟨i+1,⟨by omega,fun j hj=>?_⟩,by omega,?_⟩
    ·rcases YHA j i with h'|h'
     ·exact ha j h'
     ·obtain rfl:j=i:=by omega
      exact hb
    ·simp only[Y0 (i:=i) (n:=l.length) (by omega) (by omega),Ya] <;> simp
   ·have e:l.any F=false:=YHP.2 fun x hx=>by
     obtain⟨j,hj,rfl⟩:=YQ hx
     rw[ha j (by omega)];simp
    exact Yi (by rw[e]at h;exact h)
 ·exact h.1.elim
def E4:Env:={ ct:=fun n=>match n with|26=>some ftC|_=>none,fn:=fun n=>match n with|63=>some v63|_=>none,meth:=fun _ _=>none}
theorem Yx4:E4.ct 26=some ftC:=rfl
theorem Yx5:E4.ct 63=none:=rfl
theorem Yx6:E4.fn 63=some v63:=rfl
theorem E4_ok:Yn YHk E4:=by
 refine⟨fun f c h=>?_,fun f vf h=>?_,(fun _ _ _ h=>by cases h),by kernel_rfl,(fun _ h=>by cases h),(fun _ _ h=>by cases h)⟩
 ·simp only[E4]at h
  split at h
  ·cases h;exact⟨YDM,Tryz.f26,Tryz.func26,by kernel_rfl,by kernel_rfl⟩
  ·cases h
 ·simp only[E4]at h
  split at h
  ·cases h;exact⟨Tryz.f63,Tryz.func63,YGx,Tryz.f63,Tryz.func63,by kernel_rfl,by kernel_rfl⟩
  ·cases h
theorem YyN:(anyC 2 encT YAr).ok YHk 25:=by
 refine Yb Tryz.func25 YFV E4_ok 100 (anyC 2 encT YAr) fun args k h=>?_
 simp only[anyC]at h
 split at h
 ·rename_i t z n sz get g cap
  obtain⟨l,F,⟨⟨rfl,rfl,hg⟩,hl,rfl,rfl,rfl⟩,h⟩:=h
  refine⟨[.vs t z l.length 2 (fun k=>encT (l.getD k default)),.fn (.func 26) [] []],⟨by simpa [le]using hg,by simp [YgS,bndL],trivial⟩,?_⟩
  have h:k (.bool (l.any YvG)) []:=h
  dsimp only[v25,v63,Yx5,Yx6,encT,go_sem,reduceIte,YHf]
  simp only[Yc,YHf,YHh,reduceCtorEq,YHg]
  obtain⟨F,hF⟩:∃F,F=YvG:=⟨_,rfl⟩
  rw[<-hF]at h
  refine Loop.keep [0,0,5,0] Nat (fun i=>[(8,.int .i64 i)]) (fun _=>[]) [] (fun i=>i<=l.length/\∀j,j<i->F (l.getD j default)=false) (fun i=>l.length-i) ?_ ?_
  ·refine⟨0,⟨YHK _,fun j h=>by omega⟩,?_⟩
   dsimp only[go_sem,reduceIte,YHf]
   simp only[Ya]
   simp
  ·rintro i ⟨hi,ha⟩
   dsimp only[Yx4,ftC,encT,YHj,go_sem,reduceIte,YHf]
   simp only[Yc,YHf,YHh,reduceCtorEq,YHg]
   simp only[show Yja (l.getD i default).1 (l.getD i default).2=F (l.getD i default)by rw[hF];rfl]
   refine⟨fun hlt=>⟨⟨by omega,hlt⟩,fun hb=>?_,fun hb=>?_⟩,fun hge=>?_⟩
   ·have e:l.any F=true:=YIt.2 ⟨_,Yh (by omega:i<l.length),hb⟩
    have e2:decide (0<=(i:Int))=true:=decide_eq_true (by omega)
    rw[e2]
    exact Yi (by rw[e]at h;exact h)
   ·refine⟨i+1,⟨by omega,fun j hj=>?_⟩,by omega,?_⟩
    ·rcases YHA j i with h'|h'
     ·exact ha j h'
     ·obtain rfl:j=i:=by omega
      exact hb
    ·simp only[Y0 (i:=i) (n:=l.length) (by omega) (by omega),Ya] <;> simp
   ·have e:l.any F=false:=YHP.2 fun x hx=>by
     obtain⟨j,hj,rfl⟩:=YQ hx
     rw[ha j (by omega)];simp
    exact Yi (by rw[e]at h;exact h)
 ·exact h.1.elim
def E5:Env:={ ct:=fun n=>match n with|77=>some ppC|_=>none,fn:=fun n=>match n with|113=>some v113|_=>none,meth:=fun _ _=>none}
theorem Yx7:E5.ct 77=some ppC:=rfl
theorem Yud:E5.ct 113=none:=rfl
theorem Yue:E5.fn 113=some v113:=rfl
theorem E5_ok:Yn YHk E5:=by
 refine⟨fun f c h=>?_,fun f vf h=>?_,(fun _ _ _ h=>by cases h),by kernel_rfl,(fun _ h=>by cases h),(fun _ _ h=>by cases h)⟩
 ·simp only[E5]at h
  split at h
  ·cases h;exact⟨pp_ok,Tryz.f77,Tryz.func77,by kernel_rfl,by kernel_rfl⟩
  ·cases h
 ·simp only[E5]at h
  split at h
  ·cases h;exact⟨Tryz.f113,Tryz.func113,YtJ,Tryz.f113,Tryz.func113,by kernel_rfl,by kernel_rfl⟩
  ·cases h
theorem YyQ:(anyC 4 encS YAs).ok YHk 78:=by
 refine Yb Tryz.func78 YxU E5_ok 100 (anyC 4 encS YAs) fun args k h=>?_
 simp only[anyC]at h
 split at h
 ·rename_i t z n sz get g cap
  obtain⟨l,F,⟨⟨rfl,rfl,hg⟩,hl,rfl,rfl,rfl⟩,h⟩:=h
  refine⟨[.vs t z l.length 4 (fun k=>encS (l.getD k default)),.fn (.func 77) [] []],⟨by simpa [le]using hg,by simp [YgS,bndL],trivial⟩,?_⟩
  have h:k (.bool (l.any Yg4)) []:=h
  dsimp only[v78,v113,Yud,Yue,encS,go_sem,reduceIte,YHf]
  simp only[Yc,YHf,YHh,reduceCtorEq,YHg]
  obtain⟨F,hF⟩:∃F,F=Yg4:=⟨_,rfl⟩
  rw[<-hF]at h
  refine Loop.keep [0,0,5,0] Nat (fun i=>[(8,.int .i64 i)]) (fun _=>[]) [] (fun i=>i<=l.length/\∀j,j<i->F (l.getD j default)=false) (fun i=>l.length-i) ?_ ?_
  ·refine⟨0,⟨YHK _,fun j h=>by omega⟩,?_⟩
   dsimp only[go_sem,reduceIte,YHf]
   simp only[Ya]
   simp
  ·rintro i ⟨hi,ha⟩
   dsimp only[Yx7,ppC,encS,YHj,go_sem,reduceIte,YHf]
   simp only[Yc,YHf,YHh,reduceCtorEq,YHg]
   simp only[show Yg4 ⟨(l.getD i default).x,(l.getD i default).y,(l.getD i default).r,(l.getD i default).h⟩=F (l.getD i default)by rw[hF]]
   refine⟨fun hlt=>⟨⟨by omega,hlt⟩,fun hb=>?_,fun hb=>?_⟩,fun hge=>?_⟩
   ·have e:l.any F=true:=YIt.2 ⟨_,Yh (by omega:i<l.length),hb⟩
    have e2:decide (0<=(i:Int))=true:=decide_eq_true (by omega)
    rw[e2]
    exact Yi (by rw[e]at h;exact h)
   ·refine⟨i+1,⟨by omega,fun j hj=>?_⟩,by omega,?_⟩
    ·rcases YHA j i with h'|h'
     ·exact ha j h'
     ·obtain rfl:j=i:=by omega
      exact hb
    ·simp only[Y0 (i:=i) (n:=l.length) (by omega) (by omega),Ya] <;> simp
   ·have e:l.any F=false:=YHP.2 fun x hx=>by
     obtain⟨j,hj,rfl⟩:=YQ hx
     rw[ha j (by omega)];simp
    exact Yi (by rw[e]at h;exact h)
 ·exact h.1.elim
def wrC:Ctr:={ alias:=false,of:=fun l=>match l with
 | [.agg [.int .i64 w,.int .i64 d,.int .i64 c,.int .i64 a,.int .i64 s,.vs _ _ n sz get]]=> .ex Brd fun b=> .pre (brdP b w d c a s n sz get/\b.wk.length<=8) (.fin (.bool (YeW b)) [])
 |_=>noC}
def chC:Ctr:={ alias:=false,of:=fun l=>match l with
 | [.agg [.int .i64 w,.int .i64 d,.int .i64 c,.int .i64 a,.int .i64 s,.vs _ _ n sz get],.vs _ _ n' sz' get']=> .ex Brd fun b=> .ex (List Std) fun l=> .pre (brdP b w d c a s n sz get/\lsP 4 encS n' sz' get' l) (.fin (.int .i64 (chkF b l)) [])
 |_=>noC}
def E6:Env:={ ct:=fun n=>match n with|61=>some outC|62=>some YyR|_=>none,fn:=fun _=>none,meth:=fun _ _=>none}
theorem Yx8:E6.ct 61=some outC:=rfl
theorem Yx9:E6.ct 62=some YyR:=rfl
theorem E6_ok:Yn YHk E6:=by
 refine⟨fun f c h=>?_,fun f vf h=>?_,(fun _ _ _ h=>by cases h),by kernel_rfl,(fun _ h=>by cases h),(fun _ _ h=>by cases h)⟩
 ·simp only[E6]at h
  split at h
  ·cases h;exact⟨YnZ,Tryz.f61,Tryz.func61,by kernel_rfl,by kernel_rfl⟩
  ·cases h;exact⟨YyS,Tryz.f62,Tryz.func62,by kernel_rfl,by kernel_rfl⟩
  ·cases h
 ·cases h
theorem YHb:wrC.ok YHk 24:=by
 refine Yb Tryz.func24 YFU E6_ok 100 wrC fun args k h=>?_
 simp only[wrC]at h
 split at h
 ·rename_i w d c a s t z n sz get
  obtain⟨b,⟨hb,h8⟩,h⟩:=h
  refine⟨[.agg (Yes t z b)],⟨Yh0 hb,trivial⟩,?_⟩
  have h:k (.bool (YeW b)) []:=h
  dsimp only[v24,Yx8,Yx9,outC,YyR,anyC,Yes,encT,go_sem,reduceIte,YHf]
  simp only[Yc,YHf,YHh,reduceCtorEq,YHg]
  exact⟨b.wk,Yfv,fun _=>⟨YD,by omega,rfl,rfl,rfl⟩,Yi h⟩
 ·exact h.1.elim
def E7:Env:={ ct:=fun n=>match n with|24=>some wrC|78=>some YyP|_=>none,fn:=fun _=>none,meth:=fun _ _=>none}
theorem Yya:E7.ct 24=some wrC:=rfl
theorem Yyb:E7.ct 78=some YyP:=rfl
theorem E7_ok:Yn YHk E7:=by
 refine⟨fun f c h=>?_,fun f vf h=>?_,(fun _ _ _ h=>by cases h),by kernel_rfl,(fun _ h=>by cases h),(fun _ _ h=>by cases h)⟩
 ·simp only[E7]at h
  split at h
  ·cases h;exact⟨YHb,Tryz.f24,Tryz.func24,by kernel_rfl,by kernel_rfl⟩
  ·cases h;exact⟨YyQ,Tryz.f78,Tryz.func78,by kernel_rfl,by kernel_rfl⟩
  ·cases h
 ·cases h
theorem ch_ok:chC.ok YHk 43:=by
 refine Yb Tryz.func43 YGd E7_ok 100 chC fun args k h=>?_
 simp only[chC]at h
 split at h
 ·rename_i w d c a s t z n sz get t' z' n' sz' get'
  obtain⟨b,l,⟨hb,rfl,rfl,hg⟩,h⟩:=h
  refine⟨[.agg (Yes t z b),.vs t' z' l.length 4 (fun k=>encS (l.getD k default))],⟨Yh0 hb,by simpa [le]using hg,trivial⟩,?_⟩
  have h:k (.int .i64 (chkF b l)) []:=h
  dsimp only[v43,Yya,Yyb,wrC,YyP,anyC,Yes,encT,encS,go_sem,reduceIte,YHf]
  simp only[Yc,YHf,YHh,reduceCtorEq,YHg]
  unfold chkF at h
  refine⟨fun hb=>?_,fun hb=>?_⟩
  ·simp only[YHS,decide_eq_true_eq]at hb
   rw[if_pos (by omega)]at h
   exact Yj h
  ·simp only[YHp,decide_eq_false_iff_not]at hb
   rw[if_neg (by omega)]at h
   refine⟨b,⟨Ybv b,by omega⟩,l,Yg4,fun _=>⟨YD,by omega,rfl,rfl,rfl⟩,fun hc=>?_,fun hc=>?_⟩
   ·rw[if_pos hc]at h;exact Yj h
   ·rw[if_neg (by rw[hc];simp)]at h;exact Yj h
 ·exact h.1.elim
def v80:VF:=⟨12,[.tmp 4],(ZR [Zi 4 0] (ZR [Zm 5 0,Zm 6 0,Zo 7 .mul 5 6,Zm 8 1,Zm 9 1,Zo 10 .mul 8 9,Zo 11 .add 7 10,Zm 4 11] .ret))⟩
theorem YGM:Ye YHk Tryz.f80=some v80:=by kernel_rfl
def v79:VF:=⟨26,[.tmp 3],(ZR [u1 2 .box [.tm 0],u1 3 .mov [.cn (.bool false)]] (ZR [Za 4 0 2,Zf 5 1 4,Za 6 2 2,Zf 7 1 6,Za 8 0 1,Zf 9 1 8,Za 10 2 2,Zf 11 1 10,Zo 12 .sub 9 11,u1 13 (.call 61) [.tm 5,.tm 7,.tm 12],Zm 14 13,Zj 15 14 false 1 2,Zh 16 14 false 1 15,Zj 17 14 false 2 2,Zh 18 14 false 1 17,Zj 19 14 false 1 1,Zh 20 14 false 1 19,Zj 21 14 false 2 2,Zh 22 14 false 1 21,u2 23 14 false (.ari .sub) [.tm 20,.tm 22],u2 24 14 false (.call 61) [.tm 16,.tm 18,.tm 23],u1 25 .or [.tm 14,.tm 24],Zm 3 25] .ret))⟩
theorem YGL:Ye YHk Tryz.f79=some v79:=by kernel_rfl
def v44:VF:=⟨55,[.tmp 4],(ZR [u1 2 .box [.tm 0],Zi 4 0] (ZR [u1 11 (.mkfn (.func 79) 0) [.tm 2],Zm 5 11] (.seq (ZR [Zm 12 1,Zm 13 5,Zd 14 78 12 13] (ZC 14 (ZR [Zi 4 7] .ret) .skip)) (.seq (ZR [Zm 15 1,Zl 16 15,Zi 17 0] (.block 0 (.loop (ZR [Zr 18 .lss 17 16] (.seq (ZC 18 .skip (.exit 0)) (.seq (.block 1 (ZR [Zm 19 17,Zx 20 4 15 17,Zt 21 4 20,u1 7 (.alloc [(.int .i64 0),(.int .i64 0),(.int .i64 0),(.int .i64 0)]) [],Zm 6 19,Zs 4 7 21] (ZR [Zm 22 1,Zm 23 6,u1 24 (.slice 4 false true) [.tm 22,.tm 23],Zl 25 24,Zi 26 0] (.block 2 (.loop (ZR [Zr 27 .lss 26 25] (.seq (ZC 27 .skip (.exit 2)) (.seq (.block 3 (ZR [Zx 28 4 24 26,Zt 29 4 28,u1 9 (.alloc [(.int .i64 0),(.int .i64 0),(.int .i64 0),(.int .i64 0)]) [],Zs 4 9 29] (ZR [Za 30 2 7,Zf 31 1 30,Za 32 2 9,Zf 33 1 32,Zo 34 .add 31 33,Za 35 2 2,Zf 36 1 35,Zo 37 .add 34 36,Zm 10 37] (ZR [Za 38 0 7,Zf 39 1 38,Za 40 0 9,Zf 41 1 40,Zo 42 .sub 39 41,Za 43 1 7,Zf 44 1 43,Za 45 1 9,Zf 46 1 45,Zo 47 .sub 44 46,Zd 48 80 42 47,Zm 49 10,Zm 50 10,Zo 51 .mul 49 50,Zr 52 .lss 48 51] (ZC 52 (ZR [Zi 4 8] .ret) .skip))))) (.region [Zp 53 26 1,Zm 26 53]))))))))) (.region [Zp 54 17 1,Zm 17 54]))))))) (ZR [Zi 4 0] .ret)))))⟩
theorem YGe:Ye YHk Tryz.f44=some v44:=by kernel_rfl
def v18:VF:=⟨15,[.tmp 4],(ZR [u1 2 .box [.tm 0],Zi 4 0] (.seq (ZR [Zt 6 6 2,Zm 7 1,Zd 8 43 6 7,Zm 5 8] (ZR [Zm 9 5,Zq 10 .neq 9 0] (ZC 10 (ZR [Zm 11 5,Zm 4 11] .ret) .skip))) (ZR [Zt 12 6 2,Zm 13 1,Zd 14 44 12 13,Zm 4 14] .ret)))⟩
theorem YFO:Ye YHk Tryz.f18=some v18:=by kernel_rfl
def midN(x:Int):Prop:= -100000000<=x/\x<=100000000
theorem Ye8{x y:Int}(hx:midN x)(hy:midN y): -10000000000000000<=x*y/\x*y<=10000000000000000:=by
 have h:(x*y).natAbs<=100000000*100000000:=by
  rw[Int.natAbs_mul]
  exact YHE (by have:=hx.1;have:=hx.2;omega) (by have:=hy.1;have:=hy.2;omega)
 omega
theorem YN{x:Int}(h: -1000000000000000000<=x/\x<=1000000000000000000):IntKind.i64.wrap x=x:=YHi x (by omega)
theorem sq0(x:Int):0<=x*x:=by
 rw[<-Int.natAbs_mul_self];exact Int.natCast_nonneg _
theorem sq_w{x y:Int}(hx:midN x)(hy:midN y):IntKind.i64.wrap (IntKind.i64.wrap (x*x)+IntKind.i64.wrap (y*y))=sqF x y/\0<=sqF x y/\sqF x y<=20000000000000000:=by
 have a:=Ye8 hx hx
 have b:=Ye8 hy hy
 have a0:=sq0 x
 have b0:=sq0 y
 unfold sqF
 rw[YN (x:=x*x) (by omega),YN (x:=y*y) (by omega),YN (by omega)]
 omega
def sqC:Ctr:={ alias:=false,of:=fun l=>match l with
 | [.int .i64 x,.int .i64 y]=> .pre (midN x/\midN y) (.fin (.int .i64 (sqF x y)) [])
 |_=>noC}
def F0:Env:={ ct:=fun _=>none,fn:=fun _=>none,meth:=fun _ _=>none}
theorem F0_ok:Yn YHk F0:=by
 refine⟨fun f c h=>?_,fun f vf h=>?_,(fun _ _ _ h=>by cases h),by kernel_rfl,(fun _ h=>by cases h),(fun _ _ h=>by cases h)⟩
 ·cases h
 ·cases h
theorem sq_ok:sqC.ok YHk 80:=by
 refine Yb Tryz.func80 YGM F0_ok 100 sqC fun args k h=>⟨args,?_⟩
 simp only[sqC]at h
 split at h
 ·refine⟨by simp [leL,le],?_⟩
  obtain⟨⟨hx,hy⟩,h⟩:=h
  dsimp only[v80,go_sem,reduceIte,YHf]
  simp only[Yc,YHf,YHh,reduceCtorEq,YHg]
  rw[(sq_w hx hy).1]
  exact Yj h
 ·exact h.1.elim
def predO(g:Nat)(cap:List SV)(F:Std->Bool):Prop:=g=79/\∃(t:Bool) (b:Brd) (c:Int) (rest:List SV),cap=[.xp t (.int .i64 b.w:: .int .i64 b.d:: .int .i64 c::rest)]/\okB b/\F=offF b
def offC:Ctr:={ alias:=false,of:=fun l=>match l with
 | [.agg [.int .i64 x,.int .i64 y,.int .i64 r,.int .i64 h],.xp _ (.int .i64 w:: .int .i64 d::_)]=> .ex Brd fun b=> .pre (w=b.w/\d=b.d/\okB b/\okP ⟨x,y,r,h⟩) (.fin (.bool (offF b ⟨x,y,r,h⟩)) [])
 |_=>noC}
def F1:Env:={ ct:=fun n=>match n with|61=>some outC|_=>none,fn:=fun _=>none,meth:=fun _ _=>none}
theorem Yyc:F1.ct 61=some outC:=rfl
theorem F1_ok:Yn YHk F1:=by
 refine⟨fun f c h=>?_,fun f vf h=>?_,(fun _ _ _ h=>by cases h),by kernel_rfl,(fun _ h=>by cases h),(fun _ _ h=>by cases h)⟩
 ·simp only[F1]at h
  split at h
  ·cases h;exact⟨YnZ,Tryz.f61,Tryz.func61,by kernel_rfl,by kernel_rfl⟩
  ·cases h
 ·cases h
theorem YEm:offC.ok YHk 79:=by
 refine Yb Tryz.func79 YGL F1_ok 100 offC fun args k h=>⟨args,?_⟩
 simp only[offC]at h
 split at h
 ·rename_i x y r hh t w d rest
  obtain⟨b,⟨rfl,rfl,hb,hp⟩,h⟩:=h
  refine⟨Yx _ ⟨⟨trivial,trivial,trivial,trivial,trivial⟩,trivial,trivial⟩,?_⟩
  dsimp only[v79,Yyc,outC,go_sem,reduceIte,YHf]
  simp only[Yc,YHf,YHh,reduceCtorEq,YHg]
  obtain⟨⟨_,_⟩,⟨_,_⟩,_⟩:=hb
  obtain⟨⟨_,_⟩,_⟩:=hp
  dsimp only at*
  rw[YN (x:=b.w-r) (by omega),YN (x:=b.d-r) (by omega)]
  exact Yi h
 ·exact h.1.elim
def anyOC:Ctr:={ alias:=false,of:=fun l=>match l with
 | [.vs _ _ n sz get,.fn (.func g) [] cap]=> .ex (List Std) fun l=> .ex (Std->Bool) fun F=> .pre (lsP 4 encS n sz get l/\l.length<=1000000000000/\predO g cap F/\∀p∈l,okP p) (.fin (.bool (l.any F)) [])
 |_=>noC}
def F2:Env:={ ct:=fun n=>match n with|79=>some offC|_=>none,fn:=fun n=>match n with|113=>some v113|_=>none,meth:=fun _ _=>none}
theorem Yyd:F2.ct 79=some offC:=rfl
theorem Yuf:F2.ct 113=none:=rfl
theorem Yug:F2.fn 113=some v113:=rfl
theorem F2_ok:Yn YHk F2:=by
 refine⟨fun f c h=>?_,fun f vf h=>?_,(fun _ _ _ h=>by cases h),by kernel_rfl,(fun _ h=>by cases h),(fun _ _ h=>by cases h)⟩
 ·simp only[F2]at h
  split at h
  ·cases h;exact⟨YEm,Tryz.f79,Tryz.func79,by kernel_rfl,by kernel_rfl⟩
  ·cases h
 ·simp only[F2]at h
  split at h
  ·cases h;exact⟨Tryz.f113,Tryz.func113,YtJ,Tryz.f113,Tryz.func113,by kernel_rfl,by kernel_rfl⟩
  ·cases h
theorem YyO:anyOC.ok YHk 78:=by
 refine Yb Tryz.func78 YxU F2_ok 100 anyOC fun args k h=>?_
 simp only[anyOC]at h
 split at h
 ·rename_i t z n sz get g cap
  obtain⟨l,F,⟨⟨rfl,rfl,hg⟩,hl,⟨rfl,t2,b,c,rest,rfl,hb0,rfl⟩,hall⟩,h⟩:=h
  refine⟨[.vs t z l.length 4 (fun k=>encS (l.getD k default)),.fn (.func 79) [] [.xp t2 (.int .i64 b.w:: .int .i64 b.d:: .int .i64 c::rest)]],⟨by simpa [le]using hg,by simp [YgS,bndL,bnd],trivial⟩,?_⟩
  have h:k (.bool (l.any (offF b))) []:=h
  dsimp only[v78,v113,Yuf,Yug,encS,go_sem,reduceIte,YHf]
  simp only[Yc,YHf,YHh,reduceCtorEq,YHg]
  obtain⟨F,hF⟩:∃F,F=offF b:=⟨_,rfl⟩
  rw[<-hF]at h
  refine Loop.keep [0,0,5,0] Nat (fun i=>[(8,.int .i64 i)]) (fun _=>[]) [] (fun i=>i<=l.length/\∀j,j<i->F (l.getD j default)=false) (fun i=>l.length-i) ?_ ?_
  ·refine⟨0,⟨YHK _,fun j h=>by omega⟩,?_⟩
   dsimp only[go_sem,reduceIte,YHf]
   simp only[Ya]
   simp
  ·rintro i ⟨hi,ha⟩
   dsimp only[Yyd,offC,encS,YHj,go_sem,reduceIte,YHf]
   simp only[Yc,YHf,YHh,reduceCtorEq,YHg]
   refine⟨fun hlt=>⟨⟨by omega,hlt⟩,b,⟨rfl,rfl,hb0,hall _ (Yh (by omega))⟩,?_⟩,fun hge=>?_⟩
   simp only[show offF b ⟨(l.getD i default).x,(l.getD i default).y,(l.getD i default).r,(l.getD i default).h⟩=F (l.getD i default)by rw[hF]]
   refine⟨fun hb=>?_,fun hb=>?_⟩
   ·have e:l.any F=true:=YIt.2 ⟨_,Yh (by omega:i<l.length),hb⟩
    have e2:decide (0<=(i:Int))=true:=decide_eq_true (by omega)
    rw[e2]
    exact Yi (by rw[e]at h;exact h)
   ·refine⟨i+1,⟨by omega,fun j hj=>?_⟩,by omega,?_⟩
    ·rcases YHA j i with h'|h'
     ·exact ha j h'
     ·obtain rfl:j=i:=by omega
      exact hb
    ·simp only[Y0 (i:=i) (n:=l.length) (by omega) (by omega),Ya] <;> simp
   ·have e:l.any F=false:=YHP.2 fun x hx=>by
     obtain⟨j,hj,rfl⟩:=YQ hx
     rw[ha j (by omega)];simp
    exact Yi (by rw[e]at h;exact h)
 ·exact h.1.elim
theorem YEh{b:Brd}{p q:Std}(hb:okB b)(hp:okP p)(hq:okP q):midN (IntKind.i64.wrap (p.x-q.x))/\midN (IntKind.i64.wrap (p.y-q.y))/\((sqF (IntKind.i64.wrap (p.x-q.x)) (IntKind.i64.wrap (p.y-q.y))<IntKind.i64.wrap (IntKind.i64.wrap (IntKind.i64.wrap (p.r+q.r)+b.c)*IntKind.i64.wrap (IntKind.i64.wrap (p.r+q.r)+b.c)))↔Ypd b p q=true):=by
 obtain⟨_,_,⟨_,_⟩,_⟩:=hb
 obtain⟨⟨_,_⟩,_,⟨_,_⟩,_,_⟩:=hp
 obtain⟨⟨_,_⟩,_,⟨_,_⟩,_,_⟩:=hq
 have m:midN (p.r+q.r+b.c):=⟨by omega,by omega⟩
 have e:=Ye8 m m
 rw[YN (x:=p.x-q.x) (by omega),YN (x:=p.y-q.y) (by omega),YN (x:=p.r+q.r) (by omega),YN (x:=p.r+q.r+b.c) (by omega),YN (by omega)]
 exact⟨⟨by omega,by omega⟩,⟨by omega,by omega⟩,decide_eq_true_iff.symm⟩
def staC:Ctr:={ alias:=false,of:=fun l=>match l with
 | [.agg [.int .i64 w,.int .i64 d,.int .i64 c,.int .i64 a,.int .i64 s,.vs _ _ n sz get],.vs _ _ n' sz' get']=> .ex Brd fun b=> .ex (List Std) fun l=> .pre (brdP b w d c a s n sz get/\lsP 4 encS n' sz' get' l/\okB b/\(∀p∈l,okP p)/\l.length<=200) (.fin (.int .i64 (Yhp b l)) [])
 |_=>noC}
def F3:Env:={ ct:=fun n=>match n with|80=>some sqC|78=>some anyOC|_=>none,fn:=fun _=>none,meth:=fun _ _=>none}
theorem Yyf:F3.ct 80=some sqC:=rfl
theorem Yye:F3.ct 78=some anyOC:=rfl
theorem F3_ok:Yn YHk F3:=by
 refine⟨fun f c h=>?_,fun f vf h=>?_,(fun _ _ _ h=>by cases h),by kernel_rfl,(fun _ h=>by cases h),(fun _ _ h=>by cases h)⟩
 ·simp only[F3]at h
  split at h
  ·cases h;exact⟨sq_ok,Tryz.f80,Tryz.func80,by kernel_rfl,by kernel_rfl⟩
  ·cases h;exact⟨YyO,Tryz.f78,Tryz.func78,by kernel_rfl,by kernel_rfl⟩
  ·cases h
 ·cases h
theorem YFy:staC.ok YHk 44:=by
 refine Yb Tryz.func44 YGe F3_ok 200 staC fun args k h=>?_
 simp only[staC]at h
 split at h
 ·rename_i w d c a s t z n sz get t' z' n' sz' get'
  obtain⟨b,l,⟨hbp,⟨rfl,rfl,hg⟩,hb,hl,hlen⟩,h⟩:=h
  refine⟨[.agg (Yes t z b),.vs t' z' l.length 4 (fun k=>encS (l.getD k default))],⟨Yh0 hbp,by simpa [le]using hg,trivial⟩,?_⟩
  have h:k (.int .i64 (Yhp b l)) []:=h
  dsimp only[v44,Yye,anyOC,Yes,encT,encS,go_sem,reduceIte,YHf]
  simp only[Yc,YHf,YHh,reduceCtorEq,YHg]
  unfold Yhp at h
  refine⟨l,offF b,⟨YD,by omega,⟨rfl,_,b,_,_,rfl,hb,rfl⟩,hl⟩,fun hc=>?_,fun hc=>?_⟩
  ·rw[if_pos hc]at h;exact Yj h
  ·rw[if_neg (by rw[hc];simp)]at h
   refine Loop.keep [1,0,12,0,0] Nat (fun i=>[(17,.int .i64 i)]) (fun _=>[]) [] (fun i=>i<=l.length/\∀j,j<i->(l.take j).any (Ypd b (l.getD j default))=false) (fun i=>l.length-i) ?_ ?_
   ·refine⟨0,⟨YHK _,fun j h=>by omega⟩,?_⟩
    dsimp only[go_sem,reduceIte,YHf]
    simp only[Ya]
    simp
   ·rintro i ⟨hi,ha⟩
    dsimp only[encS,YHj,go_sem,reduceIte,YHf]
    simp only[Yc,YHf,YHh,reduceCtorEq,YHg]
    refine⟨fun hlt=>⟨⟨by omega,hlt⟩,?_⟩,fun hge=>?_⟩
    ·refine⟨⟨by omega,by omega⟩,?_⟩
     have hpi:okP (l.getD i default):=hl _ (Yh (by omega))
     refine Loop.keep [1,0,4,7,0,0,6,0,0] Nat (fun j=>[(26,.int .i64 j)]) (fun _=>[]) [] (fun j=>j<=i/\∀m,m<j->Ypd b (l.getD i default) (l.getD m default)=false) (fun j=>i-j) ?_ ?_
     ·refine⟨0,⟨YHK _,fun j h=>by omega⟩,?_⟩
      dsimp only[go_sem,reduceIte,YHf]
      simp only[Ya]
      simp
     ·rintro j ⟨hj,hn⟩
      dsimp only[Yyf,sqC,encS,YHj,go_sem,reduceIte,YHf]
      simp only[Yc,YHf,YHh,reduceCtorEq,YHg]
      refine⟨fun hlj=>?_,fun hgj=>?_⟩
      ·have hpj:okP (l.getD j default):=hl _ (Yh (by omega))
       obtain⟨m1,m2,e⟩:=YEh hb hpi hpj
       simp only[e]
       refine⟨⟨by omega,hlj⟩,⟨m1,m2⟩,fun hh=>?_,fun hh=>?_⟩
       ·have e:Yoo b l=true:=YIt.2 ⟨i,List.mem_range.2 (by omega),YIt.2 ⟨_,?_,hh⟩⟩
        ·rw[if_pos e]at h;exact Yj h
        ·have:(l.take i).getD j default=l.getD j default:=by
          rw[YHo,YH3,if_pos (by omega),<-YHo]
         rw[<-this]
         exact Yh (by rw[YHV];omega)
       ·refine⟨j+1,⟨by omega,fun m hm=>?_⟩,by omega,?_⟩
        ·rcases YHA m j with h'|h'
         ·exact hn m h'
         ·obtain rfl:m=j:=by omega
          simpa using hh
        ·simp only[Y0 (i:=j) (n:=l.length) (by omega) (by omega),Ya] <;> simp
      ·obtain rfl:j=i:=by omega
       refine⟨j+1,⟨by omega,fun m hm=>?_⟩,by omega,?_⟩
       ·rcases YHA m j with h'|h'
        ·exact ha m h'
        ·obtain rfl:m=j:=by omega
         refine YHP.2 fun x hx=>?_
         obtain⟨q,hq,rfl⟩:=YQ hx
         rw[YHV]at hq
         have:(l.take m).getD q default=l.getD q default:=by
          rw[YHo,YH3,if_pos (by omega),<-YHo]
         rw[this,hn q (by omega)];simp
       ·simp only[Y0 (i:=j) (n:=l.length) (by omega) (by omega),Ya] <;> simp
    ·have e:Yoo b l=false:=YHP.2 fun x hx=>by
      have hx:=List.mem_range.1 hx
      rw[ha x (by omega)];simp
     rw[if_neg (by rw[e];simp)]at h
     exact Yj h
 ·exact h.1.elim
def ckC:Ctr:={ alias:=false,of:=fun l=>match l with
 | [.agg [.int .i64 w,.int .i64 d,.int .i64 c,.int .i64 a,.int .i64 s,.vs _ _ n sz get],.vs _ _ n' sz' get']=> .ex Brd fun b=> .ex (List Std) fun l=> .pre (brdP b w d c a s n sz get/\lsP 4 encS n' sz' get' l) (.fin (.int .i64 (Ygu b l)) [])
 |_=>noC}
def F4:Env:={ ct:=fun n=>match n with|43=>some chC|44=>some staC|_=>none,fn:=fun _=>none,meth:=fun _ _=>none}
theorem Yyg:F4.ct 43=some chC:=rfl
theorem Yyh:F4.ct 44=some staC:=rfl
theorem F4_ok:Yn YHk F4:=by
 refine⟨fun f c h=>?_,fun f vf h=>?_,(fun _ _ _ h=>by cases h),by kernel_rfl,(fun _ h=>by cases h),(fun _ _ h=>by cases h)⟩
 ·simp only[F4]at h
  split at h
  ·cases h;exact⟨ch_ok,Tryz.f43,Tryz.func43,by kernel_rfl,by kernel_rfl⟩
  ·cases h;exact⟨YFy,Tryz.f44,Tryz.func44,by kernel_rfl,by kernel_rfl⟩
  ·cases h
 ·cases h
theorem ck_ok:ckC.ok YHk 18:=by
 refine Yb Tryz.func18 YFO F4_ok 200 ckC fun args k h=>?_
 simp only[ckC]at h
 split at h
 ·rename_i w d c a s t z n sz get t' z' n' sz' get'
  obtain⟨b,l,⟨hbp,rfl,rfl,hg⟩,h⟩:=h
  refine⟨[.agg (Yes t z b),.vs t' z' l.length 4 (fun k=>encS (l.getD k default))],⟨Yh0 hbp,by simpa [le]using hg,trivial⟩,?_⟩
  have h:k (.int .i64 (Ygu b l)) []:=h
  dsimp only[v18,Yyg,Yyh,chC,staC,Yes,encT,encS,go_sem,reduceIte,YHf]
  simp only[Yc,YHf,YHh,reduceCtorEq,YHg]
  unfold Ygu at h
  refine⟨b,l,⟨Ybv b,YD⟩,fun hc=>?_,fun hc=>?_⟩
  ·rw[if_pos hc]at h;exact Yj h
  ·rw[if_neg (by rw[hc];simp)]at h
   obtain⟨h1,h2,h3⟩:=Yrq hc
   exact⟨b,l,⟨Ybv b,YD,h1,h2,h3⟩,Yj h⟩
 ·exact h.1.elim
theorem YDe{k:SV->List HO->Prop}{al:Bool}{hp:List HO}{κ κ':IntKind}{x y:Int}(h:k (.agg [.int κ x,.int κ' y]) []):Yz al k (.agg [.int κ x,.int κ' y]) hp:=
 YE (show k _ []from h) (YC (.agg [.int κ x,.int κ' y]) ⟨trivial,trivial,trivial⟩) (fun _=>by simp [Yt,Ys])
theorem YvJ{α:Type}[Inhabited α]{l:List α}{x:α}{k:Nat}:(l++[x]).getD k default=if k<l.length then l.getD k default else if k=l.length then x else default:=by
 rw[YHo,YIh]
 split
 ·rfl
 ·split
  ·rename_i h1 h2;subst h2;simp
  ·rename_i h1 h2
   have:¬k-l.length=0:=by omega
   simp [this]
def v27:VF:=⟨81,[.cell 8 true 4],(ZR [u1 4 .box [.tm 0],u1 8 (.alloc [(.int .i64 0),(.int .i64 0),(.int .i64 0),(.bool false)]) []] (ZR [u1 16 (.mkfn (.func 64) 0) [.tm 8],Zm 9 16] (ZR [Za 17 2 4,Zf 18 1 17,u1 19 .neg [.tm 18],Zm 10 19,Zi 11 0] (.seq (ZR [Zm 20 1,Zm 21 3,u1 22 (.slice 2 true false) [.tm 20,.tm 21],Zl 23 22,Zi 24 0] (.block 0 (.loop (ZR [Zr 25 .lss 24 23] (.seq (ZC 25 .skip (.exit 0)) (.seq (.block 1 (ZR [Zm 26 24,Zx 27 2 22 24,Zt 28 2 27,Zn 13,Zm 12 26,Zs 2 13 28] (ZR [Zm 29 10,Za 30 2 4,Zf 31 1 30,Za 32 0 13,Zf 33 1 32,u1 34 (.ari .mul) [.cn (.int .i64 2),.tm 33],Zo 35 .add 31 34,Zo 36 .add 29 35,Zm 10 36] (ZR [Zm 37 11,Za 38 0 13,Zf 39 1 38,u1 40 (.ari .mul) [.cn (.int .i64 2),.tm 39],u1 41 .max [.tm 37,.tm 40],Zm 11 41] (.seq (ZR [Zm 42 10,Za 43 0 4,Zf 44 1 43,Zr 45 .gtr 42 44] (ZC 45 (.exit 0) .skip)) (ZR [Zm 46 2,Zm 47 3,Zm 48 12,Zo 49 .add 47 48,Zp 50 49 1,Zx 51 4 46 50,Zt 52 4 51,u1 14 (.alloc [(.int .i64 0),(.int .i64 0),(.int .i64 0),(.bool false)]) [],Zs 4 14 52] (.seq (ZR [Za 53 3 14,Zf 54 1 53,u1 55 .not [.tm 54]] (ZC 55 (.exit 1) .skip)) (ZR [Zm 56 11,Za 57 0 14,Zf 58 1 57,Zo 59 .add 56 58,Za 60 1 14,Zf 61 1 60,u1 62 (.ari .add) [.cn (.int .i64 1),.tm 61],Zm 63 12,Zp 64 63 1,u1 65 (.build [(.int .i64 0),(.int .i64 0),(.int .i64 0),(.bool false)] [(0,1),(1,1),(2,1),(3,1)]) [.tm 59,.tm 62,.tm 64,.cn (.bool true)],u1 15 (.alloc [(.int .i64 0),(.int .i64 0),(.int .i64 0),(.bool false)]) [],Zs 4 15 65] (.seq (ZR [Za 66 1 14,Zf 67 1 66,Zq 68 .gtr 67 0] (ZC 68 (.region [Za 69 0 15,Zf 70 1 69,Za 71 2 4,Zf 72 1 71,Zo 73 .add 70 72,Za 74 0 15,Zs 1 74 73]) .skip)) (ZR [Zm 75 9,Zt 76 4 15,u1 77 .callv [.tm 75,.tm 76]] (ZC 77 (.region [Zt 78 4 15,Zs 4 8 78]) .skip))))))))))) (.region [Zp 79 24 1,Zm 24 79]))))))) (ZR [Zt 80 4 8,Zs 4 8 80] .ret)))))⟩
theorem YFX:Ye YHk Tryz.f27=some v27:=by kernel_rfl
def v64:VF:=⟨28,[.tmp 3],(ZR [u1 2 .box [.tm 0],u1 3 .mov [.cn (.bool false)]] (ZR [Za 4 3 1,Zf 5 1 4,u1 6 .not [.tm 5],Zm 7 6,Zj 8 7 false 0 2,Zh 9 7 false 1 8,Zj 10 7 false 0 1,Zh 11 7 false 1 10,u2 12 7 false (.cmp .lss) [.tm 9,.tm 11],u1 13 .or [.tm 7,.tm 12],Zm 14 13,Zj 15 14 false 0 2,Zh 16 14 false 1 15,Zj 17 14 false 0 1,Zh 18 14 false 1 17,u2 19 14 false (.cmp .eql) [.tm 16,.tm 18],Zg 20 14 false 19,Zj 21 20 true 1 2,Zh 22 20 true 1 21,Zj 23 20 true 1 1,Zh 24 20 true 1 23,u2 25 20 true (.cmp .lss) [.tm 22,.tm 24],u2 26 14 false .and [.tm 20,.tm 25],u1 27 .or [.tm 14,.tm 26],Zm 3 27] .ret))⟩
theorem YGy:Ye YHk Tryz.f64=some v64:=by kernel_rfl
def v28:VF:=⟨33,[.cell 4 true 2],(ZR [Zn 4] (.seq (ZR [Zm 7 0,Zl 8 7,Zq 9 .lss 8 1] (ZC 9 .stuck .skip)) (ZR [Zm 11 0,u1 12 (.idxAddr 2) [.tm 11,.cn (.int .i64 0)],Zt 13 2 12,Zn 5,Zs 2 5 13] (.seq (ZR [Zi 6 1] (.block 0 (.loop (.seq (ZR [Zm 14 6,Zm 15 0,Zl 16 15,Zr 17 .lss 14 16] (ZC 17 .skip (.exit 0))) (.seq (.block 1 (.seq (.draw [] [Zu 20 1,Zu 21 0,Zu 22 6,ZX 23 2 21 22,Zw 24 2 23,Zw 25 2 5,w1 26 .callv [.tm 20,.tm 24,.tm 25],w1 27 (.cmp .gtr) [.tm 26,.cn (.int .i64 0)]]) (ZC 27 (.region [Zm 28 0,Zm 29 6,Zx 30 2 28 29,Zt 31 2 30,Zs 2 5 31]) .skip))) (.region [Zm 18 6,Zp 19 18 1,Zm 6 19])))))) (ZR [Zt 32 2 5,Zs 2 4 32] .ret)))))⟩
theorem YFY:Ye YHk Tryz.f28=some v28:=by kernel_rfl
def v29:VF:=⟨10,[.tmp 4],(ZR [u1 2 .box [.tm 0],u1 3 .box [.tm 1],Zi 4 0] (ZR [Za 5 0 2,Zf 6 1 5,Za 7 0 3,Zf 8 1 7,Zo 9 .sub 6 8,Zm 4 9] .ret))⟩
theorem YFZ:Ye YHk Tryz.f29=some v29:=by kernel_rfl
def encP(p:Plan):List SV:=[.int .i64 p.depth,.int .i64 p.rows,.int .i64 p.first,.bool p.is]
def r1C:Ctr:={ alias:=false,of:=fun l=>match l with
 | [.agg [.int .i64 a,.int .i64 b],.agg [.int .i64 c,.int .i64 d]]=> .pre ((1<=a/\a<=1000000)/\1<=c/\c<=1000000) (.fin (.int .i64 (a-c)) [])
 |_=>noC}
def I0:Env:={ ct:=fun _=>none,fn:=fun _=>none,meth:=fun _ _=>none}
theorem I0_ok:Yn YHk I0:=by
 refine⟨fun f c h=>?_,fun f vf h=>?_,(fun _ _ _ h=>by cases h),by kernel_rfl,(fun _ h=>by cases h),(fun _ _ h=>by cases h)⟩
 ·cases h
 ·cases h
theorem r1_ok:r1C.ok YHk 29:=by
 refine Yb Tryz.func29 YFZ I0_ok 200 r1C fun args k h=>⟨args,?_⟩
 simp only[r1C]at h
 split at h
 ·rename_i a b c d
  refine⟨by simp [leL,le],?_⟩
  obtain⟨⟨ha,hc⟩,h⟩:=h
  dsimp only[v29,go_sem,reduceIte,YHf]
  simp only[Yc,YHf,YHh,reduceCtorEq,YHg]
  rw[YN (by omega)]
  exact Yj h
 ·exact h.1.elim
def maxG(l:List Ft):Ft:=l.foldl (fun m f=>if m.1<f.1 then f else m) (l.headD default)
def mxC:Ctr:={ alias:=false,of:=fun l=>match l with
 | [.vs _ _ n sz get,.fn (.func g) [] []]=> .ex (List Ft) fun l=> .pre (lsP 2 encT n sz get l/\0<l.length/\l.length<=1000000/\g=29/\∀f∈l,okF f) (.fin (.agg (encT (maxG l))) [])
 |_=>noC}
def I1:Env:={ ct:=fun n=>match n with|29=>some r1C|_=>none,fn:=fun _=>none,meth:=fun _ _=>none}
theorem Yyi:I1.ct 29=some r1C:=rfl
theorem I1_ok:Yn YHk I1:=by
 refine⟨fun f c h=>?_,fun f vf h=>?_,(fun _ _ _ h=>by cases h),by kernel_rfl,(fun _ h=>by cases h),(fun _ _ h=>by cases h)⟩
 ·simp only[I1]at h
  split at h
  ·cases h;exact⟨r1_ok,Tryz.f29,Tryz.func29,by kernel_rfl,by kernel_rfl⟩
  ·cases h
 ·cases h
theorem Yv2(l:List Ft)(i:Nat)(m:Ft)(hm:okF m)(h:∀f∈l,okF f):okF ((l.take i).foldl (fun m f=>if m.1<f.1 then f else m) m):=by
 induction i with
 |zero=>exact hm
 |succ i ih=>
  rcases YHA i l.length with h'|h'
  ·rw[Ym h']
   split
   ·exact h _ (Yh h')
   ·exact ih
  ·rw[Ycj (by omega)];rw[Ycj h']at ih;exact ih
theorem mx_ok:mxC.ok YHk 28:=by
 refine Yb Tryz.func28 YFY I1_ok 200 mxC fun args k h=>?_
 simp only[mxC]at h
 split at h
 ·rename_i t z n sz get g
  obtain⟨l,⟨⟨rfl,rfl,hg⟩,h0,hmax,rfl,hall⟩,h⟩:=h
  refine⟨[.vs t z l.length 2 (fun k=>encT (l.getD k default)),.fn (.func 29) [] []],⟨by simpa [le]using hg,by simp [YgS,bndL,bnd],trivial⟩,?_⟩
  have h:k (.agg (encT (maxG l))) []:=h
  dsimp only[v28,encT,go_sem,reduceIte,YHf]
  simp only[Yc,YHf,YHh,reduceCtorEq,YHg]
  have hhd:l.headD default=l.getD 0 default:=by cases l <;> rfl
  have hm0:okF (l.headD default):=by rw[hhd];exact hall _ (Yh h0)
  obtain⟨M,hM⟩:∃M:Nat->Ft,M=fun i=>(l.take i).foldl (fun m f=>if m.1<f.1 then f else m) (l.headD default):=⟨_,rfl⟩
  have hMok:∀i,okF (M i):=fun i=>by rw[hM];exact Yv2 l i _ hm0 hall
  have hM1:M 1=l.getD 0 default:=by
   rw[hM];dsimp only
   rw[Ym (i:=0) h0,List.take_zero,List.foldl_nil,hhd,if_neg (by omega)]
  have hMl:M l.length=maxG l:=by rw[hM];dsimp only;rw[YIq];rfl
  have hMs:∀i,i<l.length->M (i+1)=if(M i).1<(l.getD i default).1 then l.getD i default else M i:=fun i hi=>by rw[hM];exact Ym hi
  clear hM
  refine⟨fun hh=>by omega,fun _=>⟨⟨by decide,by omega⟩,?_⟩⟩
  refine Loop.keep [0,0,2,0,0] Nat (fun i=>[(6,.int .i64 i)]) (fun i=>[(1,.box (encT (M i)))]) [] (fun i=>1<=i/\i<=l.length) (fun i=>l.length-i) ?_ ?_
  ·refine⟨1,⟨by omega,by omega⟩,?_⟩
   rw[hM1]
   dsimp only[encT,go_sem,reduceIte,YHf]
   simp only[Ya]
   simp
  ·rintro i ⟨hi1,hi⟩
   dsimp only[Yyi,r1C,encT,YHj,go_sem,reduceIte,YHf]
   simp only[Yc,YHf,YHh,reduceCtorEq,YHg]
   refine⟨fun hlt=>⟨⟨by omega,hlt⟩,⟨(hall _ (Yh (by omega))).1,(hMok i).1⟩,fun hb=>⟨⟨by omega,hlt⟩,i+1,⟨by omega,by omega⟩,by omega,?_⟩,fun hb=>⟨i+1,⟨by omega,by omega⟩,by omega,?_⟩⟩,fun hge=>?_⟩
   ·rw[hMs i (by omega),if_pos (by omega)]
    simp only[Y0 (i:=i) (n:=l.length) (by omega) (by omega),Ya] <;> simp
   ·rw[hMs i (by omega),if_neg (by omega)]
    simp only[Y0 (i:=i) (n:=l.length) (by omega) (by omega),Ya] <;> simp
   ·obtain rfl:i=l.length:=by omega
    rw[hMl]
    exact YDe h
 ·exact h.1.elim
def btC:Ctr:={ alias:=false,of:=fun l=>match l with
 | [.agg [.int .i64 a,.int .i64 b,.int .i64 c,.bool d],.xp _ [.int .i64 e,.int .i64 f,.int .i64 g,.bool i]]=> .fin (.bool (Yas ⟨a,b,c,d⟩ ⟨e,f,g,i⟩)) []
 |_=>noC}
def I2:Env:={ ct:=fun _=>none,fn:=fun _=>none,meth:=fun _ _=>none}
theorem I2_ok:Yn YHk I2:=by
 refine⟨fun f c h=>?_,fun f vf h=>?_,(fun _ _ _ h=>by cases h),by kernel_rfl,(fun _ h=>by cases h),(fun _ _ h=>by cases h)⟩
 ·cases h
 ·cases h
theorem bt_ok:btC.ok YHk 64:=by
 refine Yb Tryz.func64 YGy I2_ok 200 btC fun args k h=>⟨args,?_⟩
 simp only[btC]at h
 split at h
 ·rename_i a b c d t e f g i
  refine⟨Yx _ ⟨⟨trivial,trivial,trivial,trivial,trivial⟩,trivial,trivial⟩,?_⟩
  have h:k (.bool (Yas ⟨a,b,c,d⟩ ⟨e,f,g,i⟩)) []:=h
  dsimp only[v64,go_sem,reduceIte,YHf]
  simp only[Yc,YHf,YHh,reduceCtorEq,YHg]
  unfold Yas at h
  exact⟨fun x y=>by rw[x,decide_eq_true y];rfl,Yi h⟩
 ·exact h.1.elim
def besC:Ctr:={ alias:=false,of:=fun l=>match l with
 | [.agg [.int .i64 w,.int .i64 d,.int .i64 c,.int .i64 a,.int .i64 s,.vs _ _ n sz get],.vs _ _ n' sz' get',.vs _ _ n2 sz2 get2,.int .i64 i]=> .ex Brd fun b=> .ex (List Ft) fun l=> .ex (List Plan) fun pl=> .pre (brdP b w d c a s n sz get/\lsP 2 encT n' sz' get' l/\lsP 4 encP n2 sz2 get2 pl/\(0<=i/\i<l.length)/\pl.length=l.length+1/\okB b/\(∀f∈l,okF f)/\l.length<=200/\∀p∈pl,okPl p) (.fin (.agg (encP (Yq7 b (l.drop i.toNat) (pl.drop (i.toNat+1))))) [])
 |_=>noC}
theorem Yds{α:Type}[Inhabited α]{l:List α}{k:Nat}(h:k<l.length):l.drop k=l.getD k default::l.drop (k+1):=by
 rw[YHo,YH2 h]
 exact List.drop_eq_getElem_cons h
theorem Yo3{α:Type}[Inhabited α]{l:List α}{k:Nat}:(l.drop k).headD default=l.getD k default:=by
 rcases YHA k l.length with h|h
 ·rw[Yds h];rfl
 ·rw[List.drop_of_length_le h,YHo,List.getElem?_eq_none h];rfl
theorem Yra{b:Brd}{l:List Ft}{ps:List Plan}{wide deep:Int}{k:Nat}{out:Plan}(h:k<l.length):
 YdV b (l.drop k) (ps.drop k) wide deep k out=if b.w<wide+(b.c+2*(l.getD k default).1)then out else
  YdV b (l.drop (k+1)) (ps.drop (k+1)) (wide+(b.c+2*(l.getD k default).1)) (max deep (2*(l.getD k default).1)) (k+1)
   (if(ps.getD k default).is=false then out else if Yas (YdN b (max deep (2*(l.getD k default).1)) (ps.getD k default) k) out then YdN b (max deep (2*(l.getD k default).1)) (ps.getD k default) k else out):=by
 rw[Yds h,YdV,Yo3,List.tail_drop]
theorem YeU(n k:Nat):Yhr n k=n-k:=by cases k <;> rfl
theorem YgK{α:Type}[Inhabited α]{l:List α}{i k:Nat}:(l.drop i).getD k default=l.getD (i+k) default:=by
 rw[YHo,YIn,<-YHo]
def I3:Env:={ ct:=fun n=>match n with|64=>some btC|_=>none,fn:=fun _=>none,meth:=fun _ _=>none}
theorem Yyj:I3.ct 64=some btC:=rfl
theorem I3_ok:Yn YHk I3:=by
 refine⟨fun f c h=>?_,fun f vf h=>?_,(fun _ _ _ h=>by cases h),by kernel_rfl,(fun _ h=>by cases h),(fun _ _ h=>by cases h)⟩
 ·simp only[I3]at h
  split at h
  ·cases h;exact⟨bt_ok,Tryz.f64,Tryz.func64,by kernel_rfl,by kernel_rfl⟩
  ·cases h
 ·cases h
theorem Yxa{k:SV->List HO->Prop}{al:Bool}{hp:List HO}{p:Plan}(h:k (.agg (encP p)) []):Yz al k (.agg [.int .i64 p.depth,.int .i64 p.rows,.int .i64 p.first,.bool p.is]) hp:=
 YE (show k _ []from h) (YC (.agg (encP p)) ⟨trivial,trivial,trivial,trivial,trivial⟩) (fun _=>by simp [encP,Yt,Ys])
theorem YDq:besC.ok YHk 27:=by
 refine Yb Tryz.func27 YFX I3_ok 400 besC fun args k h=>?_
 simp only[besC]at h
 split at h
 ·rename_i w d c a s t z n sz get t' z' n' sz' get' t2 z2 n2 sz2 get2 i
  obtain⟨b,l,pl,⟨hbp,⟨rfl,rfl,hg⟩,⟨rfl,rfl,hg2⟩,⟨hi0,hi1⟩,hpl,hb,hl,hlen,hps⟩,h⟩:=h
  obtain⟨i,rfl⟩:=YHv hi0
  simp only[YHj]at h
  refine⟨[.agg (Yes t z b),.vs t' z' l.length 2 (fun k=>encT (l.getD k default)),.vs t2 z2 pl.length 4 (fun k=>encP (pl.getD k default)),.int .i64 i],⟨Yh0 hbp,by simpa [le]using hg,by simpa [le]using hg2,⟨rfl,rfl⟩,trivial⟩,?_⟩
  have h:k (.agg (encP (Yq7 b (l.drop i) (pl.drop (i+1))))) []:=h
  dsimp only[v27,Yes,encT,encS,YHj,go_sem,reduceIte,YHf]
  simp only[Yc,YHf,YHh,reduceCtorEq,YHg]
  have hb':=hb
  obtain⟨⟨w1,w2⟩,_,⟨c1,c2⟩,_⟩:=hb'
  have hn:IntKind.i64.wrap (0-b.c)= -b.c:=by rw[YN (by omega)];omega
  refine⟨⟨by omega,by omega⟩,?_⟩
  rw[hn]
  have hsl:IntKind.i64.wrap 0=0:=YN (by omega)
  refine Loop.keep [2,0,0,3,0,0,0,10,0,0] (Nat×Int×Int×Plan) (fun x=>[(10,.int .i64 x.2.1),(11,.int .i64 x.2.2.1),(24,.int .i64 x.1)]) (fun x=>[(1,.box (encP x.2.2.2))]) [] (fun x=>x.1<=l.length-i/\(-1000000<=x.2.1/\x.2.1<=3000000*x.1)/\(0<=x.2.2.1/\x.2.2.1<=2000000)/\YdV b ((l.drop i).drop x.1) ((pl.drop (i+1)).drop x.1) x.2.1 x.2.2.1 x.1 x.2.2.2=Yq7 b (l.drop i) (pl.drop (i+1))) (fun x=>l.length-i-x.1) ?_ ?_
  ·refine⟨(0, -b.c,0,⟨0,0,0,false⟩),⟨YHK _,⟨by dsimp only;omega,by dsimp only;omega⟩,⟨YIs _,by dsimp only;omega⟩,rfl⟩,?_⟩
   dsimp only[encP,go_sem,reduceIte,YHf]
   simp only[Ya]
   exact⟨by omega,by omega,by omega,rfl⟩
  ·rintro⟨j,wide,deep,out⟩ ⟨hj,⟨hw1,hw2⟩,⟨hd1,hd2⟩,hbest⟩
   dsimp only at hj hw1 hw2 hd1 hd2 hbest
   dsimp only[Yyj,btC,encT,encP,YHj,go_sem,reduceIte,YHf]
   simp only[Yc,YHf,YHh,reduceCtorEq,YHg]
   simp only[YeU,YbK]
   refine⟨fun hlt=>?_,fun hge=>?_⟩
   ·have hj':j<(l.drop i).length:=by rw[YIg];omega
    have hf:okF (l.getD (i+j) default):=hl _ (Yh (by omega))
    have hr:okPl (pl.getD (i+j+1) default):=hps _ (Yh (by omega))
    rw[Yra hj',YgK,YgK,show i+1+j=i+j+1 by omega]at hbest
    have e3:IntKind.i64.wrap (IntKind.i64.wrap ((i:Int)+(j:Int))+1)=((i+j+1:Nat):Int):=by
     rw[YN (x:=(i:Int)+j) (by omega),YN (by omega)];omega
    have ej:IntKind.i64.wrap ((j:Int)+1)=((j+1:Nat):Int):=by rw[YN (by omega)];omega
    simp only[e3,ej,YHj]
    generalize l.getD (i+j) default=f at*
    generalize pl.getD (i+j+1) default=r at*
    obtain⟨⟨f1,f2⟩,_⟩:=hf
    obtain⟨⟨r1,r2⟩,⟨r3,r4⟩,_⟩:=hr
    have e2:IntKind.i64.wrap (2*f.1)=2*f.1:=YN (by omega)
    have e1:IntKind.i64.wrap (wide+IntKind.i64.wrap (b.c+2*f.1))=wide+(b.c+2*f.1):=by
     rw[YN (x:=b.c+2*f.1) (by omega),YN (by omega)]
    simp only[e2,e1]
    have e4:IntKind.i64.wrap (max deep (2*f.1)+r.depth)=max deep (2*f.1)+r.depth:=YN (by omega)
    have e5:IntKind.i64.wrap (1+r.rows)=1+r.rows:=YN (by omega)
    have e6:IntKind.i64.wrap (max deep (2*f.1)+r.depth+b.c)=max deep (2*f.1)+r.depth+b.c:=YN (by omega)
    simp only[e4,e5,e6]
    refine⟨⟨by omega,hlt⟩,fun hb=>?_,fun hb=>⟨⟨by omega,by omega⟩,fun hi=>?_,fun hi=>?_⟩⟩
    ·rw[if_pos hb]at hbest
     rw[<-hbest]at h
     exact Yxa h
    ·rw[if_neg hb,if_pos hi]at hbest
     refine⟨(j+1,wide+(b.c+2*f.1),max deep (2*f.1),out),⟨by dsimp only;omega,⟨by dsimp only;omega,by dsimp only;omega⟩,⟨by dsimp only;omega,by dsimp only;omega⟩,hbest⟩,by dsimp only;omega,?_⟩
     simp only[Ya]
     omega
    ·rw[if_neg hb,if_neg (by rw[hi];simp)]at hbest
     refine⟨fun hp=>?_,fun hp=>?_⟩
     ·have hC:YdN b (max deep (2*f.1)) r j=⟨max deep (2*f.1)+r.depth+b.c,1+r.rows,((j+1:Nat):Int),true⟩:=by
       unfold YdN;rw[if_pos hp];rfl
      rw[hC]at hbest
      refine⟨fun hbt=>?_,fun hbt=>?_⟩
      ·rw[if_pos (show Yas _ out=true from hbt)]at hbest
       refine⟨(j+1,wide+(b.c+2*f.1),max deep (2*f.1),_),⟨by dsimp only;omega,⟨by dsimp only;omega,by dsimp only;omega⟩,⟨by dsimp only;omega,by dsimp only;omega⟩,hbest⟩,by dsimp only;omega,?_⟩
       simp only[Ya]
       omega
      ·rw[if_neg (show¬Yas _ out=true by intro hh;have hbt:Yas _ out=false:=hbt;rw[hh]at hbt;cases hbt)]at hbest
       refine⟨(j+1,wide+(b.c+2*f.1),max deep (2*f.1),out),⟨by dsimp only;omega,⟨by dsimp only;omega,by dsimp only;omega⟩,⟨by dsimp only;omega,by dsimp only;omega⟩,hbest⟩,by dsimp only;omega,?_⟩
       simp only[Ya]
       omega
     ·have hC:YdN b (max deep (2*f.1)) r j=⟨max deep (2*f.1)+r.depth,1+r.rows,((j+1:Nat):Int),true⟩:=by
       unfold YdN;rw[if_neg hp,Int.add_zero];rfl
      rw[hC]at hbest
      refine⟨fun hbt=>?_,fun hbt=>?_⟩
      ·rw[if_pos (show Yas _ out=true from hbt)]at hbest
       refine⟨(j+1,wide+(b.c+2*f.1),max deep (2*f.1),_),⟨by dsimp only;omega,⟨by dsimp only;omega,by dsimp only;omega⟩,⟨by dsimp only;omega,by dsimp only;omega⟩,hbest⟩,by dsimp only;omega,?_⟩
       simp only[Ya]
       omega
      ·rw[if_neg (show¬Yas _ out=true by intro hh;have hbt:Yas _ out=false:=hbt;rw[hh]at hbt;cases hbt)]at hbest
       refine⟨(j+1,wide+(b.c+2*f.1),max deep (2*f.1),out),⟨by dsimp only;omega,⟨by dsimp only;omega,by dsimp only;omega⟩,⟨by dsimp only;omega,by dsimp only;omega⟩,hbest⟩,by dsimp only;omega,?_⟩
       simp only[Ya]
       omega
   ·have hj':j=(l.drop i).length:=by rw[YIg];omega
    rw[hj',List.drop_of_length_le (YHr _),YdV]at hbest
    rw[<-hbest]at h
    exact Yxa h
 ·exact h.1.elim
def v10:VF:=⟨130,[.tmp 4,.tmp 5],(ZR [u1 2 .box [.tm 0],u1 4 .mov [.cn .nil],Zi 5 0] (.seq (.block 0 (ZR [Za 17 5 2,Zf 18 1 17,Zl 19 18,Zq 20 .gtr 19 8,Zm 21 20,Zg 22 21 false 1,u2 23 21 false .len [.tm 22],u2 24 21 false (.cmp .gtr) [.tm 23,.cn (.int .i64 200)],u1 25 .or [.tm 21,.tm 24],Zm 16 25] (ZC 16 (ZR [u1 4 .mov [.cn .nil],Zi 5 3] .ret) (ZR [Zt 27 6 2,Zc 28 24 27,Zm 29 28,Zg 30 29 false 1,u2 31 29 false (.call 25) [.tm 30,.cn (.fn (.func 26) [] [])],u1 32 .or [.tm 29,.tm 31],Zm 26 32] (ZC 26 (ZR [u1 4 .mov [.cn .nil],Zi 5 2] .ret) .skip))))) (ZR [Zm 33 1,Zl 34 33,Zp 35 34 1,u1 36 (.make 4 32 [(.int .i64 0),(.int .i64 0),(.int .i64 0),(.bool false)]) [.tm 35,.tm 35],Zm 6 36] (ZR [Zm 37 6,Zm 38 1,Zl 39 38,Zx 40 4 37 39,Za 41 3 40,u0 (.store 1) [.tm 41,.cn (.bool true)]] (.seq (ZR [Zm 42 1,Zl 43 42,u1 44 (.ari .sub) [.tm 43,.cn (.int .i64 1)],Zm 7 44] (.block 1 (.loop (.seq (ZR [Zm 45 7,Zq 46 .geq 45 0] (ZC 46 .skip (.exit 1))) (.seq (.block 2 (.region [Zm 49 6,Zm 50 7,Zt 51 6 2,Zm 52 1,Zm 53 6,Zm 54 7,u1 55 (.call 27) [.tm 51,.tm 52,.tm 53,.tm 54],Zx 56 4 49 50,Zs 4 56 55])) (.region [Zm 47 7,u1 48 (.ari .sub) [.tm 47,.cn (.int .i64 1)],Zm 7 48])))))) (.seq (.seq (.draw [] [Zu 57 6,w1 58 (.idxAddr 4) [.tm 57,.cn (.int .i64 0)],Zy 59 3 58,Zv 60 1 59,w1 61 .not [.tm 60],Zu 62 61,⟨Zg 63 62 false 6,[]⟩,⟨u2 64 62 false (.idxAddr 4) [.tm 63,.cn (.int .i64 0)],[]⟩,⟨Zj 65 62 false 0 64,[]⟩,⟨Zh 66 62 false 1 65,[]⟩,⟨Zj 67 62 false 1 2,[]⟩,⟨Zh 68 62 false 1 67,[]⟩,⟨u2 69 62 false (.cmp .gtr) [.tm 66,.tm 68],[]⟩,w1 70 .or [.tm 62,.tm 69]]) (ZC 70 (ZR [u1 4 .mov [.cn .nil],Zi 5 4] .ret) .skip)) (ZR [u1 8 .mov [.cn .nil]] (ZR [Zi 9 0] (.seq (ZR [Zi 10 0] (.block 3 (.loop (.seq (ZR [Zm 71 10,Zm 72 1,Zl 73 72,Zr 74 .lss 71 73] (ZC 74 .skip (.exit 3))) (.block 4 (ZR [Zm 75 1,Zm 76 10,Zm 77 10,Zm 78 6,Zm 79 10,Zx 80 4 78 79,Za 81 2 80,Zf 82 1 81,Zo 83 .add 77 82,u1 84 (.slice 2 true true) [.tm 75,.tm 76,.tm 83],Zm 11 84] (ZR [Zm 85 11,u1 86 (.call 28) [.tm 85,.cn (.fn (.func 29) [] [])],u1 87 (.field false 0 1) [.tm 86],Zm 12 87] (ZR [Zi 13 0] (.seq (ZR [Zm 88 11,Zl 89 88,Zi 90 0] (.block 5 (.loop (ZR [Zr 91 .lss 90 89] (.seq (ZC 91 .skip (.exit 5)) (.seq (.block 6 (ZR [Zx 92 2 88 90,Zt 93 2 92,Zn 15,Zs 2 15 93] (ZR [Zm 94 8,Zm 95 13,Za 96 0 15,Zf 97 1 96,Zo 98 .add 95 97,Zm 99 9,Zm 100 12,Zo 101 .add 99 100,Za 102 0 15,Zf 103 1 102,Za 104 1 15,Zf 105 1 104,u1 106 (.build [(.int .i64 0),(.int .i64 0),(.int .i64 0),(.int .i64 0)] [(0,1),(1,1),(2,1),(3,1)]) [.tm 98,.tm 101,.tm 103,.tm 105],u1 107 (.buildSlice 4 1 [(.int .i64 0),(.int .i64 0),(.int .i64 0),(.int .i64 0)] [(0,4)]) [.tm 106],u1 108 (.append 4 32 [(.int .i64 0),(.int .i64 0),(.int .i64 0),(.int .i64 0)]) [.tm 94,.tm 107],Zm 8 108] (.region [Zm 109 13,Za 110 0 15,Zf 111 1 110,u1 112 (.ari .mul) [.cn (.int .i64 2),.tm 111],Za 113 2 2,Zf 114 1 113,Zo 115 .add 112 114,Zo 116 .add 109 115,Zm 13 116])))) (.region [Zp 117 90 1,Zm 90 117]))))))) (ZR [Zm 118 9,Zm 119 12,u1 120 (.ari .mul) [.cn (.int .i64 2),.tm 119],Za 121 2 2,Zf 122 1 121,Zo 123 .add 120 122,Zo 124 .add 118 123,Zm 9 124] (.region [Zm 125 10,Zm 126 11,Zl 127 126,Zo 128 .add 125 127,Zm 10 128]))))))))))) (ZR [Zm 129 8,Zm 4 129,Zi 5 0] .ret))))))))))⟩
theorem YFG:Ye YHk Tryz.f10=some v10:=by kernel_rfl
def lsS(l:List Std):SV:= .vs true (decide (l.length=0)) l.length 4 (fun k=>encS (l.getD k default))
def rowC:Ctr:={ alias:=false,of:=fun l=>match l with
 | [.agg [.int .i64 w,.int .i64 d,.int .i64 c,.int .i64 a,.int .i64 s,.vs _ _ n sz get],.vs _ _ n' sz' get']=> .ex Brd fun b=> .ex (List Ft) fun l=> .pre (brdP b w d c a s n sz get/\lsP 2 encT n' sz' get' l/\l.length<=1000000000000) (.fin (.tup [lsS (YaQ b l).1,.int .i64 (YaQ b l).2]) [])
 |_=>noC}
def J0:Env:={ ct:=fun n=>match n with|24=>some wrC|25=>some YyM|27=>some besC|28=>some mxC|_=>none,fn:=fun _=>none,meth:=fun _ _=>none}
theorem Yyk:J0.ct 24=some wrC:=rfl
theorem Yyl:J0.ct 25=some YyM:=rfl
theorem Yym:J0.ct 27=some besC:=rfl
theorem Yyn:J0.ct 28=some mxC:=rfl
theorem J0_ok:Yn YHk J0:=by
 refine⟨fun f c h=>?_,fun f vf h=>?_,(fun _ _ _ h=>by cases h),by kernel_rfl,(fun _ h=>by cases h),(fun _ _ h=>by cases h)⟩
 ·simp only[J0]at h
  split at h
  ·cases h;exact⟨YHb,Tryz.f24,Tryz.func24,by kernel_rfl,by kernel_rfl⟩
  ·cases h;exact⟨YyN,Tryz.f25,Tryz.func25,by kernel_rfl,by kernel_rfl⟩
  ·cases h;exact⟨YDq,Tryz.f27,Tryz.func27,by kernel_rfl,by kernel_rfl⟩
  ·cases h;exact⟨mx_ok,Tryz.f28,Tryz.func28,by kernel_rfl,by kernel_rfl⟩
  ·cases h
 ·cases h
theorem YlM{k:SV->List HO->Prop}{al:Bool}{hp:List HO}{e:Int}(h:k (.tup [lsS [],.int .i64 e]) []):Yz al k (.tup [.nil,.int .i64 e]) hp:=
 YE h (by simp [expo,view,YaS,lsS,le,leL]) (fun _=>by simp [lsS,Yt,Ys])
theorem Yq4{b:Brd}{l:List Ft}(h:askF b l=0):okB b/\(∀f∈l,okF f)/\l.length<=200:=by
 unfold askF at h
 split at h
 ·cases h
 ·split at h
  ·cases h
  ·rename_i h1 h2
   rw[YIp,YHp]at h2
   refine⟨YlD (by omega) h2.1,fun p hp=>?_,by omega⟩
   have:=YHP.1 h2.2 p hp
   simp only[Yja,YIp,YHp,Yda]at this
   exact this
def zP:Plan:=⟨0,0,0,false⟩
def plG(b:Brd)(l:List Ft)(n:Nat):List Plan:=List.replicate n zP++Ya2 b (l.drop n)
theorem YsV{b:Brd}{l:List Ft}{n:Nat}(h:n<=l.length):(plG b l n).length=l.length+1:=by
 rw[plG,YHM,List.length_replicate,YeG,YIg];omega
theorem Ywi{b:Brd}{l:List Ft}{n:Nat}:(plG b l n).drop n=Ya2 b (l.drop n):=by
 rw[plG]
 have:=List.drop_left (l₁:=List.replicate n zP) (l₂:=Ya2 b (l.drop n))
 rwa [List.length_replicate]at this
theorem Yg5{b:Brd}{l:List Ft}{n k:Nat}(h:n<=l.length)(hk:k<=l.length):(plG b l n).getD k default=if k<n then zP else YF b (l.drop k):=by
 rw[plG,YHo]
 split
 ·rename_i hkn
  rw[YH6 (by rw[List.length_replicate];exact hkn),List.getElem?_replicate,if_pos hkn];rfl
 ·rename_i hkn
  rw[List.getElem?_append_right (by rw[List.length_replicate];omega),List.length_replicate,<-YHo,Yg9 b (by rw[YIg];omega),List.drop_drop,show n+(k-n)=k by omega]
theorem YEy{b:Brd}(hb:okB b){l:List Ft}{n:Nat}(hn:l.length<=200)(hl:∀f∈l,okF f):∀p∈plG b l n,okPl p:=by
 intro p hp
 rcases YHO.1 hp with hp|hp
 ·rw[List.eq_of_mem_replicate hp];simp [okPl,zP]
 ·exact Ywk hb.2.2.1 (by rw[YIg];omega) (fun f hf=>hl f (YIm hf)) p hp
theorem Ywj{b:Brd}{l:List Ft}{i:Nat}(h:i<l.length):Yq7 b (l.drop i) ((plG b l (i+1)).drop (i+1))=YF b (l.drop i):=by
 rw[Ywi,Yds h];rfl
theorem Ytf:rowC.ok YHk 10:=by
 refine Yb Tryz.func10 YFG J0_ok 400 rowC fun args k h=>?_
 simp only[rowC]at h
 split at h
 ·rename_i w d c a s t z n sz get t' z' n' sz' get'
  obtain⟨b,l,⟨hbp,⟨rfl,rfl,hg⟩,hbig⟩,h⟩:=h
  refine⟨[.agg (Yes t z b),.vs t' z' l.length 2 (fun k=>encT (l.getD k default))],⟨Yh0 hbp,by simpa [le]using hg,trivial⟩,?_⟩
  have h:k (.tup [lsS (YaQ b l).1,.int .i64 (YaQ b l).2]) []:=h
  dsimp only[v10,Yyk,Yyl,wrC,YyM,anyC,Yes,encT,encS,go_sem,reduceIte,YHf]
  simp only[Yc,YHf,YHh,reduceCtorEq,YHg]
  unfold YaQ at h
  refine⟨fun hb=>?_,fun hb=>?_⟩
  ·simp only[YHS,decide_eq_true_eq]at hb
   have e:askF b l=3:=by rw[askF,if_pos (by omega)]
   rw[e,if_pos (by decide)]at h
   exact YlM h
  ·simp only[YHp,decide_eq_false_iff_not]at hb
   refine⟨b,⟨Ybv b,by omega⟩,l,YvG,fun _=>⟨YD,by omega,rfl,rfl,rfl⟩,fun hc=>?_,fun hc=>?_⟩
   ·have e:askF b l=2:=by rw[askF,if_neg (by omega)];exact if_pos hc
    rw[e,if_pos (by decide)]at h
    exact YlM h
   ·have e:askF b l=0:=by rw[askF,if_neg (by omega)];exact if_neg (by intro hh;have hc:(YeW b|| l.any fun f=>Yja f.1 f.2)=false:=hc;rw[hc]at hh;cases hh)
    obtain⟨hbo,hlo,hlen⟩:=Yq4 e
    rw[e,if_neg (by decide)]at h
    have ew:IntKind.i64.wrap ((l.length:Int)+1)=((l.length+1:Nat):Int):=by rw[YN (by omega)];omega
    rw[ew]
    simp only[YHj]
    refine⟨⟨by decide,by omega,by omega,by unfold Y3;omega⟩,⟨by omega,by omega⟩,by omega,?_⟩
    refine Loop.keep [1,0,3,0] Nat (fun n=>[(7,.int .i64 ((n:Int)-1))]) (fun n=>[(1,.own false 4 (l.length+1) (fun k=>encP ((plG b l n).getD k default)))]) [] (fun n=>n<=l.length) (fun n=>n) ?_ ?_
    ·refine⟨l.length,YHr _,?_⟩
     dsimp only[go_sem,reduceIte,YHf]
     simp only[Ya]
     rw[YN (by omega)]
     refine⟨by omega,fun q hq=>?_⟩
     rw[Yg5 (YHr _) (by omega)]
     by_cases hql:q=l.length
     ·subst hql
      rw[if_pos rfl,if_neg (by omega),List.drop_of_length_le (YHr _),Yha]
      exact Yx [.int _ _,.int _ _,.int _ _,.bool _] ⟨trivial,trivial,trivial,trivial,trivial⟩
     ·rw[if_neg hql,if_pos (by omega)]
      exact Yx [.int _ _,.int _ _,.int _ _,.bool _] ⟨trivial,trivial,trivial,trivial,trivial⟩
    ·rintro n hn
     dsimp only[Yym,besC,encT,encP,YHj,go_sem,reduceIte,YHf]
     simp only[Yc,YHf,YHh,reduceCtorEq,YHg]
     refine⟨fun hlt=>?_,fun hge=>?_⟩
     ·obtain⟨i,rfl⟩:∃i,n=i+1:=⟨n-1,by omega⟩
      have ei:((i+1:Nat):Int)-1=(i:Int):=by omega
      rw[ei]
      simp only[YHj]
      refine⟨b,l,plG b l (i+1),⟨Ybv b,YD,⟨rfl,(YsV hn).symm,fun q _=>Yd _⟩,⟨by omega,by omega⟩,YsV hn,hbo,hlo,hlen,YEy hbo hlen hlo⟩,?_⟩
      rw[Ywj (by omega)]
      refine⟨⟨by omega,by omega⟩,by omega,i,by omega,by omega,?_⟩
      have ej:IntKind.i64.wrap ((i:Int)-1)=(i:Int)-1:=YN (by omega)
      simp only[ej,Ya]
      refine⟨by omega,fun q hq=>?_⟩
      rw[Yg5 (n:=i) (by omega) (by omega)]
      by_cases hqi:q=i
      ·subst hqi
       rw[if_pos rfl,if_neg (by omega)]
       exact Yx [.int _ _,.int _ _,.int _ _,.bool _] ⟨trivial,trivial,trivial,trivial,trivial⟩
      ·rw[if_neg hqi,Yg5 (n:=i+1) (by omega) (by omega)]
       by_cases hqn:q<i
       ·rw[if_pos hqn,if_pos (by omega)]
        exact Yx [.int _ _,.int _ _,.int _ _,.bool _] ⟨trivial,trivial,trivial,trivial,trivial⟩
       ·rw[if_neg hqn,if_neg (by omega)]
        exact Yx [.int _ _,.int _ _,.int _ _,.bool _] ⟨trivial,trivial,trivial,trivial,trivial⟩
     ·obtain rfl:n=0:=by omega
      have e0:(plG b l 0).getD (YH0 0) default=YF b l:=by
       show(plG b l 0).getD 0 default=_
       rw[Yg5 (YHK _) (YHK _)];rfl
      simp only[e0]
      refine⟨⟨by decide,by omega⟩,by show 0<l.length+1;omega,fun _=>⟨by decide,by omega⟩,fun _=>by show 0<l.length+1;omega,fun hh=>?_,fun hh=>?_⟩
      ·rw[if_pos (by simpa using hh)]at h
       exact YlM h
      ·have hh2:(YF b l).is=true/\¬b.d<(YF b l).depth:=by simpa using hh
       rw[if_neg (by rw[hh2.1];simp;omega)]at h
       obtain⟨T,hT⟩:∃T,T=YY b (YcS b l) l 0:=⟨_,rfl⟩
       have h:k (.tup [lsS (YY b (YcS b l) l 0),.int .i64 0]) []:=h
       rw[<-hT]at h
       refine Loop.keep [1,0,3,1,0,0] (Nat×Int×List Std) (fun x=>[(8,.own 2 0 x.2.2.length 4),(9,.int .i64 x.2.1),(10,.int .i64 x.1)]) (fun x=>[(2,.own (decide (x.2.2.length=0)) 4 x.2.2.length (fun k=>encS (x.2.2.getD k default)))]) [.gone] (fun x=>x.1<=l.length/\x.2.2.length=x.1/\(0<=x.2.1/\x.2.1<=3000000*x.1)/\(YF b (l.drop x.1)).is=true/\∃m,l.length-x.1<=m/\x.2.2++YY b (divG b m (l.drop x.1)) (l.drop x.1) x.2.1=T) (fun x=>l.length-x.1) ?_ ?_
       ·refine⟨(0,0,[]),⟨YHK _,rfl,⟨YIs _,by dsimp only;omega⟩,hh2.1,l.length,by dsimp only;omega,by rw[hT];rfl⟩,?_⟩
        dsimp only[go_sem,reduceIte,YHf]
        simp only[Ya]
        simp
       ·rintro⟨i,y,o⟩ ⟨hi,hol,⟨hy1,hy2⟩,hhi,m,hm,hTe⟩
        dsimp only at hi hol hy1 hy2 hhi hm hTe
        dsimp only[Yyn,mxC,encS,encT,encP,YHj,go_sem,reduceIte,YHf]
        simp only[Yc,YHf,YHh,reduceCtorEq,YHg]
        simp only[YeU,YbK]
        refine⟨fun hlt=>?_,fun hge=>?_⟩
        ·have hpg:(plG b l 0).getD i default=YF b (l.drop i):=by
          rw[Yg5 (YHK _) hi];rfl
         have hlp:∀f∈l.drop i,1<=f.1:=fun f hf=>(hlo f (YIm hf)).1.1
         obtain⟨j,hj,hfi,hwj,hnx,_⟩:=Ydx hbo.2.2.1.1 (l:=l.drop i) (by rw[YIg];omega) hlp hhi
         rw[YIg]at hj
         have efi:IntKind.i64.wrap ((i:Int)+((j:Int)+1))=((i+(j+1):Nat):Int):=by rw[YN (by omega)];omega
         simp only[hpg,hfi,efi,YHj]
         simp only[Nat.add_sub_cancel_left]
         obtain⟨R,hR⟩:∃R,R=(l.drop i).take (j+1):=⟨_,rfl⟩
         have hRl:R.length=j+1:=by rw[hR,YHV,YIg];omega
         have hRg:∀q,q<j+1->R.getD q default=l.getD (i+q) default:=fun q hq=>by
          rw[hR,YHo,YH3,if_pos hq,<-YHo,YgK]
         have hRo:∀f∈R,okF f:=fun f hf=>hlo f (YIm (List.mem_of_mem_take (by rw[<-hR];exact hf)))
         have hmx:(maxG R).1=Yk4 R:=Ysz (fun f hf=>(hRo f hf).1.1) (by omega)
         have hmr:=Yk5 R 0 hRo (YIs _) (by decide)
         refine⟨⟨by omega,by omega⟩,by omega,⟨by omega,by omega,by omega⟩,R,⟨⟨rfl,hRl.symm,fun q hq=>?_⟩,by omega,by omega,hRo⟩,?_⟩
         ·rw[hRg q hq];exact Yd _
         rw[hmx]
         obtain⟨M,hM⟩:∃M,M=Yk4 R:=⟨_,rfl⟩
         have hMr:0<=M/\M<=1000000:=by rw[hM];exact hmr
         rw[<-hM]
         refine Loop.keep [1,0,3,1,0,0,0,0,0,74,0,0] (Nat×Int×List Std) (fun x=>[(8,.own 2 0 x.2.2.length 4),(13,.int .i64 x.2.1),(90,.int .i64 x.1)]) (fun x=>[(2,.own (decide (x.2.2.length=0)) 4 x.2.2.length (fun k=>encS (x.2.2.getD k default)))]) [] (fun x=>x.1<=j+1/\x.2.2.length=i+x.1/\(0<=x.2.1/\x.2.1<=3000000*x.1)/\x.2.2++rowF b (y+M) (R.drop x.1) x.2.1=o++rowF b (y+M) R 0) (fun x=>j+1-x.1) ?_ ?_
         ·refine⟨(0,0,o),⟨YHK _,by dsimp only;omega,⟨YIs _,by dsimp only;omega⟩,rfl⟩,?_⟩
          dsimp only[encS,go_sem,reduceIte,YHf]
          simp only[Ya]
          exact⟨by omega,by omega,by omega,rfl⟩
         ·rintro⟨q,x,o'⟩ ⟨hq,hql,⟨hx1,hx2⟩,hoe⟩
          dsimp only at hq hql hx1 hx2 hoe
          dsimp only[encS,encT,YHj,go_sem,reduceIte,YHf]
          simp only[Yc,YHf,YHh,reduceCtorEq,YHg]
          refine⟨fun hlq=>?_,fun hgq=>?_⟩
          ·have hf:okF (l.getD (i+q) default):=hlo _ (Yh (by omega))
           have hRq:=hRg q (by omega)
           rw[Yds (show q<R.length by omega),hRq,rowF]at hoe
           generalize l.getD (i+q) default=f at*
           obtain⟨⟨f1,f2⟩,_⟩:=hf
           obtain⟨c1,c2⟩:=hbo.2.2.1
           have w1:IntKind.i64.wrap (x+f.1)=x+f.1:=YN (by omega)
           have w2:IntKind.i64.wrap (y+M)=y+M:=YN (by omega)
           have w3:IntKind.i64.wrap (x+IntKind.i64.wrap (IntKind.i64.wrap (2*f.1)+b.c))=x+(2*f.1+b.c):=by
            rw[YN (x:=2*f.1) (by omega),YN (x:=2*f.1+b.c) (by omega),YN (by omega)]
           have w4:IntKind.i64.wrap ((q:Int)+1)=((q+1:Nat):Int):=by rw[YN (by omega)];omega
           simp only[w1,w2,w3,w4]
           refine⟨⟨by omega,by omega⟩,by decide,⟨by unfold Y3;omega,fun p hp=>match p,hp with|0,_=>⟨rfl,trivial,trivial,trivial,trivial,trivial⟩⟩,(q+1,x+(2*f.1+b.c),o'++[⟨x+f.1,y+M,f.1,f.2⟩]),⟨by dsimp only;omega,by dsimp only;rw[YHM,List.length_singleton];omega,⟨by dsimp only;omega,by dsimp only;omega⟩,by dsimp only;rw[List.append_assoc];exact hoe⟩,by dsimp only;omega,?_⟩
           simp only[YHM,List.length_singleton,YvJ,Ya]
           refine⟨by omega,by simp,fun p hp=>?_⟩
           rcases YHA p o'.length with h'|h'
           ·simp only[if_pos h'];exact Yx [.int _ _,.int _ _,.int _ _,.int _ _] ⟨trivial,trivial,trivial,trivial,trivial⟩
           ·obtain rfl:p=o'.length:=by omega
            simp only[if_neg (Nat.lt_irrefl o'.length),if_pos,Nat.sub_self]
            exact Yx [.int _ _,.int _ _,.int _ _,.int _ _] ⟨trivial,trivial,trivial,trivial,trivial⟩
          ·obtain rfl:q=j+1:=by omega
           rw[List.drop_of_length_le (by omega),rowF,List.append_nil]at hoe
           obtain⟨c1,c2⟩:=hbo.2.2.1
           have w5:IntKind.i64.wrap (y+IntKind.i64.wrap (IntKind.i64.wrap (2*M)+b.c))=y+(2*M+b.c):=by
            rw[YN (x:=2*M) (by omega),YN (x:=2*M+b.c) (by omega),YN (by omega)]
           have w6':IntKind.i64.wrap ((i:Int)+((j+1:Nat):Int))=((i+(j+1):Nat):Int):=by rw[YN (by omega)];omega
           simp only[w5,w6']
           obtain⟨m',rfl⟩:∃m',m=m'+1:=⟨m-1,by omega⟩
           have hft:(YF b (l.drop i)).first.toNat=j+1:=by rw[hfi];omega
           rw[divG,if_neg (by rw[YIg];omega),hft,YY,<-hR,<-hM,List.drop_drop,<-List.append_assoc,<-hoe]at hTe
           rw[List.drop_drop]at hnx
           refine⟨(i+(j+1),y+(2*M+b.c),o'),⟨by dsimp only;omega,by dsimp only;omega,⟨by dsimp only;omega,by dsimp only;omega⟩,hnx,m',by dsimp only;omega,hTe⟩,by dsimp only;omega,?_⟩
           simp only[Ya]
           omega
        ·obtain rfl:i=l.length:=by omega
         rw[List.drop_of_length_le (YHr _)]at hTe
         have e1:divG b m []=[]:=by cases m <;> rfl
         rw[e1,YY,List.append_nil]at hTe
         subst hTe
         refine YE (show k _ []from h) ?_ ?_
         ·dsimp only[lsS,expo,encS,go_sem,reduceIte,YHf]
          simp only[Ya]
         ·intro _;simp [Yt,Ys,encS,lsS]
 ·exact h.1.elim
def dvP(b:Brd):List Ft->List Nat->Prop
 |l,[]=>l=[]
 |l,k::ks=>1<=k/\k<=l.length/\Yef b (-b.c) (l.take k)<=b.w/\dvP b (l.drop k) ks
def dvD(b:Brd):List Ft->List Nat->Int
 |_,[]=>0
 |l,k::ks=>Ycq 0 (l.take k)+dvD b (l.drop k) ks+(if 0<ks.length then b.c else 0)
theorem YrT{b:Brd}(hc:0<=b.c/\b.c<=1000000){l:List Ft}(h2:l.length<=200)(hl:∀f∈l,okF f)(hi:(YF b l).is=true):(0<(YF b l).rows↔0<l.length):=by
 rcases YH4 l.length with h0|h0
 ·have:l=[]:=List.eq_nil_of_length_eq_zero h0
  subst this
  rw[Yha];simp
 ·obtain⟨j,hj,_,_,_,e⟩:=Ydx hc.1 h0 (fun f hf=>(hl f hf).1.1) hi
  have:=YrS hc _ (l.drop (j+1)) rfl (by rw[YIg];omega) fun f hf=>hl f (YIm hf)
  have e2:(YF b l).rows=1+(YF b (l.drop (j+1))).rows:=by rw[e];rfl
  omega
theorem YiS{b:Brd}{n:Nat}{l:List Ft}{j:Nat}(h0:0<l.length)(hf:(YF b l).first=(j:Int)+1):divG b (n+1) l=(j+1)::divG b n (l.drop (j+1)):=by
 rw[divG,if_neg (by omega),hf,show((j:Int)+1).toNat=j+1 by omega]
theorem Yvw{b:Brd}(hc:0<=b.c):∀(n:Nat)(l:List Ft),l.length<=n->(∀f∈l,1<=f.1)->(YF b l).is=true->divG b n l=YcS b l:=by
 intro n
 induction n using Nat.strongRecOn with
 |ind n ih=>
  intro l hn hl hi
  rcases YH4 l.length with h0|h0
  ·have:l=[]:=List.eq_nil_of_length_eq_zero h0
   subst this
   cases n <;> rfl
  ·obtain⟨j,hj,hf,_,hi2,_⟩:=Ydx hc h0 hl hi
   obtain⟨n,rfl⟩:∃m,n=m+1:=⟨n-1,by omega⟩
   have hl2:∀f∈l.drop (j+1),1<=f.1:=fun f hf=>hl f (YIm hf)
   have hlen:(l.drop (j+1)).length=l.length-(j+1):=YIg
   rw[YiS h0 hf]
   obtain⟨m,hm⟩:∃m,l.length=m+1:=⟨l.length-1,by omega⟩
   unfold YcS
   rw[hm,YiS h0 hf]
   rw[ih n (by omega) _ (by omega) hl2 hi2]
   rcases YHA m (n+1)with h'|h'
   ·rw[ih m h' _ (by omega) hl2 hi2]
   ·omega
theorem Yvx{b:Brd}(hc:0<=b.c){l:List Ft}(h0:0<l.length)(hl:∀f∈l,1<=f.1)(hi:(YF b l).is=true):
 ∃j,j<l.length/\(YF b l).first=(j:Int)+1/\Yef b (-b.c) (l.take (j+1))<=b.w/\(YF b (l.drop (j+1))).is=true/\YF b l=YdN b (Ycq 0 (l.take (j+1))) (YF b (l.drop (j+1))) j/\YcS b l=(j+1)::YcS b (l.drop (j+1)):=by
 obtain⟨j,hj,hf,h1,h2,h3⟩:=Ydx hc h0 hl hi
 refine⟨j,hj,hf,h1,h2,h3,?_⟩
 obtain⟨m,hm⟩:∃m,l.length=m+1:=⟨l.length-1,by omega⟩
 have hlen:(l.drop (j+1)).length=l.length-(j+1):=YIg
 unfold YcS
 rw[hm,YiS h0 hf]
 congr 1
 exact Yvw hc m _ (by omega) (fun f hf=>hl f (YIm hf)) h2
theorem YDF{b:Brd}(hc:0<=b.c/\b.c<=1000000):∀(n:Nat)(l:List Ft),l.length=n->n<=200->(∀f∈l,okF f)->(YF b l).is=true->dvP b l (YcS b l)/\dvD b l (YcS b l)=(YF b l).depth/\((YcS b l).length:Int)=(YF b l).rows:=by
 intro n
 induction n using Nat.strongRecOn with
 |ind n ih=>
  intro l hn h2 hl hi
  rcases YH4 l.length with h0|h0
  ·have:l=[]:=List.eq_nil_of_length_eq_zero h0
   subst this
   exact⟨rfl,rfl,rfl⟩
  ·obtain⟨j,hj,hf,h3,h4,e,ed⟩:=Yvx hc.1 h0 (fun f hf=>(hl f hf).1.1) hi
   have hl2:∀f∈l.drop (j+1),okF f:=fun f hf=>hl f (YIm hf)
   have hlen:(l.drop (j+1)).length=l.length-(j+1):=YIg
   obtain⟨i1,i2,i3⟩:=ih _ (by omega) (l.drop (j+1)) hlen (by omega) hl2 h4
   have hr:=YrT hc (by omega) hl2 h4
   rw[ed]
   refine⟨⟨by omega,by omega,h3,i1⟩,?_,?_⟩
   ·show Ycq 0 (l.take (j+1))+dvD b (l.drop (j+1)) (YcS b (l.drop (j+1)))+_=_
    rw[i2,e]
    show _=Ycq 0 (l.take (j+1))+(YF b (l.drop (j+1))).depth+_
    split <;> split <;> omega
   ·rw[e,YH8]
    show _=1+(YF b (l.drop (j+1))).rows
    omega
theorem Yno:∀(l:List Ft)(m:Int),m<=Ycq m l
 | [],m=>YIs _
 |f::l,m=>by
  have:=Yno l (max m (2*f.1))
  unfold Ycq at*
  rw[YHX];omega
theorem Yxg{b:Brd}(hc:0<=b.c):∀(ks:List Nat)(l:List Ft),0<=dvD b l ks
 | [],_=>YIs _
 |k::ks,l=>by
  have h1:=Yno (l.take k) 0
  have h2:=Yxg hc ks (l.drop k)
  unfold dvD
  split <;> omega
theorem YkC:∀(l:List Ft)(m:Int),Ycq (2*m) l=2*l.foldl (fun m f=>max m f.1) m
 | [],_=>rfl
 |f::l,m=>by
  have:=YkC l (max m f.1)
  unfold Ycq at*
  rw[YHX,YHX,<-this]
  congr 1
  omega
theorem YjK{a d:Int}(h0:0<=a)(h:a<=d):a*a<=d*d:=Int.mul_le_mul h h h0 (by omega)
theorem sqnn(x:Int):0<=x*x:=by
 rw[<-Int.natAbs_mul_self];exact Int.natCast_nonneg _
theorem YjC{b:Brd}{y:Int}(hc:0<=b.c):∀(l:List Ft)(x:Int)(p:Std),(∀f∈l,1<=f.1)->p∈rowF b y l x->p.y=y/\x+p.r<=p.x/\p.x+p.r<=Yef b (x-b.c) l/\∃f∈l,p.r=f.1/\p.h=f.2
 | [],_,_,_,h=>by cases h
 |f::l,x,p,hl,h=>by
  have hl2:∀g∈l,1<=g.1:=fun g hg=>hl g (YHu _ hg)
  have e:Yef b (x-b.c) (f::l)=Yef b (x+(2*f.1+b.c)-b.c) l:=by
   unfold Yef;rw[YHX];congr 1;omega
  rw[rowF]at h
  rcases YHI.1 h with rfl|h
  ·have:=YjT hc l (x+(2*f.1+b.c)-b.c) hl2
   rw[e]
   refine⟨rfl,YIs _,?_,f,YHw,rfl,rfl⟩
   show x+f.1+f.1<=_
   omega
  ·obtain⟨h1,h2,h3,g,hg,h4⟩:=YjC hc l _ p hl2 h
   have:=hl f YHw
   exact⟨h1,by omega,by rw[e];exact h3,g,YHu _ hg,h4⟩
theorem Yl9{l:List Ft}:∀f∈l,f.1<=Yk4 l:=by
 have key:∀(l:List Ft)(a:Int),a<=l.foldl (fun m f=>max m f.1) a/\∀f∈l,f.1<=l.foldl (fun m f=>max m f.1) a:=by
  intro l
  induction l with
  |nil=>intro a;exact⟨YIs _,fun f hf=>by cases hf⟩
  |cons g l ih=>
   intro a
   obtain⟨i1,i2⟩:=ih (max a g.1)
   refine⟨by rw[YHX];omega,fun f hf=>?_⟩
   rw[YHX]
   rcases YHI.1 hf with rfl|hf
   ·omega
   ·exact i2 f hf
 exact(key l 0).2
theorem Yvz{b:Brd}{l:List Ft}{k:Nat}{ks:List Nat}:dvD b l (k::ks)=2*Yk4 (l.take k)+dvD b (l.drop k) ks+(if 0<ks.length then b.c else 0):=by
 have e:=YkC (l.take k) 0
 rw[show(2:Int)*0=0 from rfl]at e
 rw[dvD,e];rfl
theorem Yg7{b:Brd}(hc:0<=b.c):∀(ks:List Nat)(l:List Ft)(y:Int)(p:Std),(∀f∈l,1<=f.1)->dvP b l ks->p∈YY b ks l y->
 y+p.r<=p.y/\p.y+p.r<=y+dvD b l ks/\p.r<=p.x/\p.x+p.r<=b.w/\∃f∈l,p.r=f.1/\p.h=f.2
 | [],_,_,_,_,_,h=>by cases h
 |k::ks,l,y,p,hl,hd,h=>by
  obtain⟨h1,hk,hw,hd⟩:=hd
  have hlt:∀f∈l.take k,1<=f.1:=fun f hf=>hl f (List.mem_of_mem_take hf)
  have h0:=Yxg hc ks (l.drop k)
  rw[Yvz]
  rw[YY]at h
  rcases YHO.1 h with h|h
  ·obtain⟨a1,a2,a3,f,hf,a4,a5⟩:=YjC hc _ _ _ hlt h
   have hm:=Yl9 f hf
   have:=hlt f hf
   rw[show(0:Int)-b.c= -b.c by omega]at a3
   refine⟨by omega,?_,by omega,by omega,f,List.mem_of_mem_take hf,a4,a5⟩
   split <;> omega
  ·obtain⟨a1,a2,a3,a4,f,hf,a5⟩:=Yg7 hc ks _ _ _ (fun f hf=>hl f (YIm hf)) hd h
   have hm:0<=Yk4 (l.take k):=by
    have hp:0<(l.take k).length:=by rw[YHV];omega
    have hx:=Yl9 _ (Yh (l:=l.take k) (i:=0) hp)
    have hy:=hlt _ (Yh (l:=l.take k) (i:=0) hp)
    omega
   refine⟨by omega,?_,a3,a4,f,YIm hf,a5⟩
   cases ks with
   |nil=>cases h
   |cons a ks=>rw[if_pos (by simp)];omega
def sepF(b:Brd)(p q:Std):Prop:=p.x+p.r+b.c+q.r<=q.x\/p.y+p.r+b.c+q.r<=q.y
theorem Yth{b:Brd}{y:Int}(hc:0<=b.c):∀(l:List Ft)(x:Int),(∀f∈l,1<=f.1)->(rowF b y l x).Pairwise (sepF b)
 | [],_,_=>List.Pairwise.nil
 |f::l,x,hl=>by
  have hl2:∀g∈l,1<=g.1:=fun g hg=>hl g (YHu _ hg)
  refine List.Pairwise.cons (fun q hq=>?_) (Yth hc l _ hl2)
  obtain⟨_,h2,_⟩:=YjC hc l _ q hl2 hq
  left
  show x+f.1+f.1+b.c+q.r<=q.x
  omega
theorem Yg8{b:Brd}(hc:0<=b.c):∀(ks:List Nat)(l:List Ft)(y:Int),(∀f∈l,1<=f.1)->dvP b l ks->(YY b ks l y).Pairwise (sepF b)
 | [],_,_,_,_=>List.Pairwise.nil
 |k::ks,l,y,hl,hd=>by
  obtain⟨h1,hk,hw,hd⟩:=hd
  have hlt:∀f∈l.take k,1<=f.1:=fun f hf=>hl f (List.mem_of_mem_take hf)
  have hl2:∀f∈l.drop k,1<=f.1:=fun f hf=>hl f (YIm hf)
  rw[YY,List.pairwise_append]
  refine⟨Yth hc _ _ hlt,Yg8 hc ks _ _ hl2 hd,fun p hp q hq=>?_⟩
  obtain⟨a1,_,_,f,hf,a4,_⟩:=YjC hc _ _ _ hlt hp
  have hm:=Yl9 f hf
  obtain⟨c1,_⟩:=Yg7 hc ks _ _ q hl2 hd hq
  right
  omega
theorem Yg6{b:Brd}:∀(ks:List Nat)(l:List Ft)(y:Int),dvP b l ks->(YY b ks l y).length=l.length
 | [],l,_,hd=>by have hd:l=[]:=hd;subst hd;rfl
 |k::ks,l,y,hd=>by
  obtain⟨h1,hk,hw,hd⟩:=hd
  rw[YY,YHM,Yoa,Yg6 ks _ _ hd,YHV,YIg];omega
theorem Ywz{b:Brd}{p q:Std}(hc:0<=b.c)(hp:0<=p.r)(hq:0<=q.r)(h:sepF b p q):Ypd b q p=false:=by
 unfold Ypd sqF
 rw[decide_eq_false_iff_not]
 have z1:=sqnn (q.x-p.x)
 have z2:=sqnn (q.y-p.y)
 rcases h with h|h
 ·have:=YjK (a:=q.r+p.r+b.c) (d:=q.x-p.x) (by omega) (by omega)
  omega
 ·have:=YjK (a:=q.r+p.r+b.c) (d:=q.y-p.y) (by omega) (by omega)
  omega
theorem Ymh{b:Brd}(hb:okB b)(hw:YeW b=false){l:List Ft}{ks:List Nat}(hl:∀f∈l,okF f)(h2:l.length<=200)(hd:dvP b l ks)(hdep:dvD b l ks<=b.d):Ygu b (YY b ks l 0)=0:=by
 obtain⟨⟨_,_⟩,⟨_,_⟩,⟨hc,_⟩,_,_,h8,_⟩:=hb
 have hl1:∀f∈l,1<=f.1:=fun f hf=>(hl f hf).1.1
 have hlen:=Yg6 ks l 0 hd
 have hmem:=fun p hp=>Yg7 hc ks l 0 p hl1 hd hp
 have hpipe:∀p∈YY b ks l 0,Yg4 p=false:=fun p hp=>by
  obtain⟨a1,a2,a3,a4,f,hf,a5,a6⟩:=hmem p hp
  obtain⟨⟨_,_⟩,_,_⟩:=hl f hf
  simp only[Yg4,Yja,YHp,Yda]
  omega
 have hchk:chkF b (YY b ks l 0)=0:=by
  unfold chkF
  rw[if_neg (by omega),hw,Bool.false_or,if_neg]
  rw[YIp,YHP]
  intro p hp
  rw[hpipe p hp];simp
 unfold Ygu Yhp
 rw[if_neg (by omega),if_neg,if_neg]
 ·rw[YIp,Yoo,YHP]
  intro i hi
  have hi:=List.mem_range.1 hi
  rw[YIp,YHP]
  intro q hq
  obtain⟨k,hk,rfl⟩:=YQ hq
  rw[YHV]at hk
  have e:((YY b ks l 0).take i).getD k default=(YY b ks l 0).getD k default:=by
   rw[YHo,YH3,if_pos (by omega),<-YHo]
  rw[e]
  have hs:=List.pairwise_iff_getElem.1 (Yg8 hc ks l 0 hl1 hd) k i (by omega) (by omega) (by omega)
  have g:∀j,(hj:j<(YY b ks l 0).length)->(YY b ks l 0)[j]=(YY b ks l 0).getD j default:=fun j hj=>by
   rw[YHo,YH2 hj];rfl
  rw[g k (by omega),g i (by omega)]at hs
  have r:∀j,j<(YY b ks l 0).length->0<=((YY b ks l 0).getD j default).r:=fun j hj=>by
   obtain⟨_,_,_,_,f,hf,a5,_⟩:=hmem _ (Yh hj)
   have:=hl1 f hf
   omega
  rw[Ywz hc (r k (by omega)) (r i (by omega)) hs];simp
 ·rw[YIp,YHP]
  intro p hp
  obtain⟨a1,a2,a3,a4,_⟩:=hmem p hp
  have:offF b p=false:=by
   simp only[offF,YHp,Yda];omega
  rw[this];simp
structure Plt where
 w:Int
 l:Int
 t:Int
 s:Int
instance :Inhabited Plt:=⟨⟨0,0,0,0⟩⟩
structure Wsh where
 per:Int
 pr:Int
 most:Int
def outN(n lo hi:Int):Bool:=decide (n<lo) || decide (hi<n)
theorem outN_f{n lo hi:Int}:outN n lo hi=false↔lo<=n/\n<=hi:=by simp [outN]
def toeB(t:Iv):Bool:=outN t.1 100 100000|| outN t.2 100 1000
def palB(p:Plt):Bool:=outN p.w 1000 100000|| outN p.l 10000 1000000|| outN p.t 500 30000|| outN p.s 0 10000000
def YbJ(b:Int):Iv:=(YhE (b,b)).1
def Yae(l:List Iv):Iv:=l.foldl (fun s t=>(s.1+(YbJ t.1).1,s.2+(YbJ t.1).2)) (0,0)
def chkT(l:List Iv):Int:=if 24<l.length then 3 else if l.any toeB then 2 else 0
def Ycb(p:Plt):Int:=min (p.w*p.l) (p.t*(p.w+p.l))
def sclI(p:Plt)(pr:Int):Iv:=(sclF (p.w*p.l,p.w*p.l) pr 1000000).1
def YnC(p:Plt)(pr:Int):Iv:=((sclI p pr).1+p.s,(sclI p pr).2+p.s)
def cmpF(a:Iv)(o per:Int):Int:=if per*a.2<=100*o then 1 else if 100*o<per*a.1 then -1 else 0
def sumO(l:List Plt):Int:=l.foldl (fun s p=>s+Ycb p) 0
def enoF(c:List Iv)(l:List Plt)(per:Int):Int×Int:=
 if(decide (chkT c=3) || decide (40<l.length))=true then(0,3)else if(!decide (chkT c=0) || l.any palB|| outN per 10 1000)=true then(0,2)else(cmpF (Yae c) (sumO l) per,0)
def wshB(w:Wsh):Bool:=outN w.per 10 1000|| outN w.pr 10 5000|| outN w.most 0 1000000000
structure Cnd where
 ids:List Int
 hv:Int
 op:Int
 wt:Int
abbrev Bst:=List Int×Int
def tryF(a:Iv)(w:Wsh)(b:Bst)(c:Cnd):Bst:=
 if w.most<c.hv\/cmpF a c.op w.per≠1 then b else if b.1=[]\/c.wt<b.2 then(c.ids,c.wt)else b
def fh(p:Plt)(pr:Int):Int:=(YnC p pr).2
def YlV(w:Wsh)(l:List Plt)(i:Nat):Cnd:=⟨[(i:Int)],fh (l.getD i default) w.pr,Ycb (l.getD i default),fh (l.getD i default) w.pr⟩
def YlW(w:Wsh)(l:List Plt)(i k:Nat):Cnd:=⟨[(i:Int),(k:Int)],max (fh (l.getD i default) w.pr) (fh (l.getD k default) w.pr),Ycb (l.getD i default)+Ycb (l.getD k default),fh (l.getD i default) w.pr+fh (l.getD k default) w.pr⟩
def Yd8(a:Iv)(w:Wsh)(l:List Plt):Nat->Bst
 |0=>([],0)
 |i+1=>tryF a w (Yd8 a w l i) (YlV w l i)
def row2(a:Iv)(w:Wsh)(l:List Plt)(i:Nat)(b:Bst):Nat->Bst
 |0=>b
 |d+1=>tryF a w (row2 a w l i b d) (YlW w l i (i+d))
def twos(a:Iv)(w:Wsh)(l:List Plt)(b:Bst):Nat->Bst
 |0=>b
 |i+1=>row2 a w l i (twos a w l b i) (l.length-i)
def Yaf(a:Iv)(w:Wsh)(l:List Plt):List Int:=
 if(Yd8 a w l l.length).1≠ []then(Yd8 a w l l.length).1 else(twos a w l (Yd8 a w l l.length) l.length).1
theorem YaT{n:Int}(h0:0<=n)(h1:n<=100000)(up:Bool):(Ybi up n).2=true/\0<=(Ybi up n).1/\(Ybi up n).1<=10000000000/\(Ybi up n).1=rndT up (n*n*(if up then 3141592653589793239 else 3141592653589793238)) 4000000000000000000:=by
 unfold Ybi rndF rndB
 have hn:n*n<=10000000000:=YO h1 h1 h0 (by omega)
 have hn0:0<=n*n:=YIe h0 h0
 have hr:0<=rndT up (n*n*(if up then 3141592653589793239 else 3141592653589793238)) 4000000000000000000/\rndT up (n*n*(if up then 3141592653589793239 else 3141592653589793238)) 4000000000000000000<=10000000000:=by
  generalize n*n=m at*
  cases up
  ·simp only[rndT,YHG,if_false]
   omega
  ·simp only[rndT,if_true]
   omega
 rw[if_pos (by omega)]
 exact⟨rfl,hr.1,hr.2,rfl⟩
theorem YtF{t:Iv}(h:toeB t=false):100<=t.1/\t.1<=100000/\100<=t.2/\t.2<=1000:=by
 unfold toeB at h
 rw[YHp,outN_f,outN_f]at h;omega
theorem Yjx{p:Plt}(h:palB p=false):(1000<=p.w/\p.w<=100000)/\(10000<=p.l/\p.l<=1000000)/\(500<=p.t/\p.t<=30000)/\0<=p.s/\p.s<=10000000:=by
 unfold palB at h
 rw[YHp,YHp,YHp,outN_f,outN_f,outN_f,outN_f]at h
 exact⟨h.1.1.1,h.1.1.2,h.1.2,h.2⟩
theorem YfW{b:Int}(h0:0<=b)(h1:b<=100000):YhE (b,b)=(((Ybi false b).1,(Ybi true b).1),0):=by
 have h2:ivE [(b,b)]=0:=by
  unfold ivE
  rw[if_pos (by simp [YcD];omega),if_pos (by simp)]
 unfold YhE
 rw[if_neg (by rw[h2];simp),if_neg (by show¬b<0;omega)]
 simp only[YhM,(YaT h0 h1 false).1,(YaT h0 h1 true).1,Bool.and_self,if_true]
theorem YkD{b:Int}(h0:0<=b)(h1:b<=100000):0<=(YbJ b).1/\(YbJ b).1<=10000000000/\0<=(YbJ b).2/\(YbJ b).2<=10000000000:=by
 unfold YbJ
 rw[YfW h0 h1]
 exact⟨(YaT h0 h1 false).2.1,(YaT h0 h1 false).2.2.1,(YaT h0 h1 true).2.1,(YaT h0 h1 true).2.2.1⟩
theorem Yvu{b:Int}(h0:0<=b)(h1:b<=100000):(YbJ b).1<=(YbJ b).2:=by
 unfold YbJ
 rw[YfW h0 h1]
 show(Ybi false b).1<=(Ybi true b).1
 rw[(YaT h0 h1 false).2.2.2,(YaT h0 h1 true).2.2.2]
 have hn0:0<=b*b:=YIe h0 h0
 generalize b*b=m at*
 simp only[rndT,YHG,if_false,if_true]
 omega
theorem Ykl{l:List Iv}{i:Nat}(h:i<l.length):Yae (l.take (i+1))=((Yae (l.take i)).1+(YbJ (l.getD i default).1).1,(Yae (l.take i)).2+(YbJ (l.getD i default).1).2):=by
 unfold Yae
 rw[Ym h]
theorem YiC{l:List Iv}:∀{i:Nat},i<=l.length->(∀t∈l,toeB t=false)->0<=(Yae (l.take i)).1/\(Yae (l.take i)).1<=10000000000*i/\0<=(Yae (l.take i)).2/\(Yae (l.take i)).2<=10000000000*i/\(Yae (l.take i)).1<=(Yae (l.take i)).2
 |0,_,_=>by simp [Yae]
 |i+1,h,hl=>by
  rw[Ykl (by omega)]
  have ih:=YiC (i:=i) (by omega) hl
  have ht:=YtF (hl _ (Yh (by omega:i<l.length)))
  have hd:=YkD (b:=(l.getD i default).1) (by omega) (by omega)
  have hd2:=Yvu (b:=(l.getD i default).1) (by omega) (by omega)
  simp only
  omega
theorem YaV{p:Plt}(h:palB p=false):0<=Ycb p/\Ycb p<=100000000000/\(0<=p.w*p.l/\p.w*p.l<=100000000000)/\0<=p.t*(p.w+p.l)/\p.t*(p.w+p.l)<=33000000000:=by
 obtain⟨h1,h2,h3,h4⟩:=Yjx h
 have e1:p.w*p.l<=100000*1000000:=YO h1.2 h2.2 (by omega) (by omega)
 have e2:0<=p.w*p.l:=YIe (by omega) (by omega)
 have e3:p.t*(p.w+p.l)<=30000*1100000:=YO h3.2 (by omega) (by omega) (by omega)
 have e4:0<=p.t*(p.w+p.l):=YIe (by omega) (by omega)
 unfold Ycb
 omega
theorem Ylx{l:List Plt}{i:Nat}(h:i<l.length):sumO (l.take (i+1))=sumO (l.take i)+Ycb (l.getD i default):=by
 unfold sumO
 rw[Ym h]
theorem YjN{l:List Plt}:∀{i:Nat},i<=l.length->(∀t∈l,palB t=false)->0<=sumO (l.take i)/\sumO (l.take i)<=100000000000*i
 |0,_,_=>by simp [sumO]
 |i+1,h,hl=>by
  rw[Ylx (by omega)]
  have ih:=YjN (i:=i) (by omega) hl
  have ht:=YaV (hl _ (Yh (by omega:i<l.length)))
  omega
theorem YA3{p:Plt}{pr:Int}(h:palB p=false)(h1:10<=pr)(h2:pr<=5000):
 sclF (p.w*p.l,p.w*p.l) pr 1000000=((p.w*p.l*pr/1000000, -(-(p.w*p.l*pr)/1000000)),0)/\0<=p.w*p.l*pr/\p.w*p.l*pr<=500000000000000:=by
 obtain⟨_,_,⟨h3,h4⟩,_⟩:=YaV h
 have e1:p.w*p.l*pr<=100000000000*5000:=YO h4 h2 h3 (by omega)
 have e2:0<=p.w*p.l*pr:=YIe h3 (by omega)
 generalize p.w*p.l=m at*
 have h5:ivE [(m,m)]=0:=by
  unfold ivE
  rw[if_pos (by simp [YcD];omega),if_pos (by simp)]
 unfold sclF
 rw[if_neg (by rw[h5];simp),if_neg (by omega)]
 generalize m*pr=x at*
 refine⟨?_,e2,e1⟩
 simp only[Yho,lowI,YbT,YHX,List.foldl_nil,Int.lt_irrefl,if_false,rndF,rndB,rndT,YHG,if_true]
 rw[if_pos (by omega),if_pos (by omega)]
 simp [YhM]
theorem YgJ{p:Plt}{pr:Int}(h:palB p=false)(h1:10<=pr)(h2:pr<=5000):(0<=(sclI p pr).1/\(sclI p pr).1<=500000000)/\(0<=(sclI p pr).2/\(sclI p pr).2<=500000000)/\(sclI p pr).1<=(sclI p pr).2/\0<=fh p pr/\fh p pr<=510000000:=by
 obtain⟨e,e1,e2⟩:=YA3 h h1 h2
 obtain⟨_,_,_,hs⟩:=Yjx h
 unfold fh YnC sclI
 rw[e]
 simp only
 generalize p.w*p.l*pr=x at*
 omega
def Y9(p:Plt):List SV:=[.int .i64 p.w,.int .i64 p.l,.int .i64 p.t,.int .i64 p.s]
def v54:VF:=⟨15,[.tmp 6],(ZR [u1 6 .mov [.cn (.bool false)]] (ZR [Zm 7 0,Zm 8 1,Zr 9 .lss 7 8,Zm 10 9,Zg 11 10 false 0,Zg 12 10 false 2,u2 13 10 false (.cmp .gtr) [.tm 11,.tm 12],u1 14 .or [.tm 10,.tm 13],Zm 6 14] .ret))⟩
theorem YGo:Ye YHk Tryz.f54=some v54:=by kernel_rfl
def v83:VF:=⟨11,[.tmp 2],(ZR [u1 1 .box [.tm 0],u1 2 .mov [.cn (.bool false)]] (ZR [Za 3 0 1,Zf 4 1 3,u1 5 (.call 54) [.tm 4,.cn (.int .i64 100),.cn (.int .i64 100000)],Zm 6 5,Zj 7 6 false 1 1,Zh 8 6 false 1 7,u2 9 6 false (.call 54) [.tm 8,.cn (.int .i64 100),.cn (.int .i64 1000)],u1 10 .or [.tm 6,.tm 9],Zm 2 10] .ret))⟩
theorem YGP:Ye YHk Tryz.f83=some v83:=by kernel_rfl
def v53:VF:=⟨21,[.tmp 2],(ZR [u1 1 .box [.tm 0],u1 2 .mov [.cn (.bool false)]] (ZR [Za 3 0 1,Zf 4 1 3,u1 5 (.call 54) [.tm 4,.cn (.int .i64 1000),.cn (.int .i64 100000)],Zm 6 5,Zj 7 6 false 1 1,Zh 8 6 false 1 7,u2 9 6 false (.call 54) [.tm 8,.cn (.int .i64 10000),.cn (.int .i64 1000000)],u1 10 .or [.tm 6,.tm 9],Zm 11 10,Zj 12 11 false 2 1,Zh 13 11 false 1 12,u2 14 11 false (.call 54) [.tm 13,.cn (.int .i64 500),.cn (.int .i64 30000)],u1 15 .or [.tm 11,.tm 14],Zm 16 15,Zj 17 16 false 3 1,Zh 18 16 false 1 17,u2 19 16 false (.call 54) [.tm 18,.cn (.int .i64 0),.cn (.int .i64 10000000)],u1 20 .or [.tm 16,.tm 19],Zm 2 20] .ret))⟩
theorem YGn:Ye YHk Tryz.f53=some v53:=by kernel_rfl
def v86:VF:=⟨6,[.cell 2 true 2],(ZR [Zn 2] (ZR [Zm 3 0,Zm 4 0,u1 5 (.build [(.int .i64 0),(.int .i64 0)] [(0,1),(1,1)]) [.tm 3,.tm 4],Zs 2 2 5] .ret))⟩
theorem YGS:Ye YHk Tryz.f86=some v86:=by kernel_rfl
def v51:VF:=⟨36,[.cell 2 true 2],(ZR [u1 1 .box [.tm 0],Zn 2] (ZR [Zn 3] (.seq (ZR [Za 8 0 1,Zf 9 1 8,Zl 10 9,Zi 11 0] (.block 0 (.loop (ZR [Zr 12 .lss 11 10] (.seq (ZC 12 .skip (.exit 0)) (.seq (.block 1 (ZR [Zx 13 2 9 11,Zt 14 2 13,Zn 5,Zs 2 5 14] (ZR [Za 16 0 5,Zf 17 1 16,Zc 18 86 17,Zc 19 85 18,Zm 15 19,Ze 20 0 15,Ze 21 1 15,Zn 6,Zs 2 6 20,Zm 7 21] (ZR [Za 22 0 3,Zf 23 1 22,Za 24 0 6,Zf 25 1 24,Zo 26 .add 23 25,Za 27 0 3,Zs 1 27 26] (.region [Za 28 1 3,Zf 29 1 28,Za 30 1 6,Zf 31 1 30,Zo 32 .add 29 31,Za 33 1 3,Zs 1 33 32]))))) (.region [Zp 34 11 1,Zm 11 34]))))))) (ZR [Zt 35 2 3,Zs 2 2 35] .ret))))⟩
theorem YGl:Ye YHk Tryz.f51=some v51:=by kernel_rfl
def v47:VF:=⟨12,[.tmp 2],(ZR [u1 1 .box [.tm 0],Zi 2 0] (.seq (.block 0 (ZR [Za 4 0 1,Zf 5 1 4,Zl 6 5,Zq 7 .gtr 6 24,Zm 3 7] (ZC 3 (ZR [Zi 2 3] .ret) (ZR [Za 9 0 1,Zf 10 1 9,u1 11 (.call 82) [.tm 10,.cn (.fn (.func 83) [] [])],Zm 8 11] (ZC 8 (ZR [Zi 2 2] .ret) .skip))))) (ZR [Zi 2 0] .ret)))⟩
theorem YGh:Ye YHk Tryz.f47=some v47:=by kernel_rfl
def v52:VF:=⟨9,[.tmp 4],(ZR [u1 4 .mov [.cn (.bool false)]] (ZR [Zm 5 0,Zm 6 1,Zd 7 87 5 6,Zq 8 .geq 7 0,Zm 4 8] .ret))⟩
theorem YGm:Ye YHk Tryz.f52=some v52:=by kernel_rfl
def v87:VF:=⟨19,[.tmp 4],(ZR [Zi 4 0] (.seq (ZR [Zm 6 0,Zl 7 6,Zi 8 0] (.block 0 (.loop (ZR [Zr 9 .lss 8 7] (.seq (ZC 9 .skip (.exit 0)) (.seq (.block 1 (ZR [Zm 10 8,Zm 5 10] (ZR [Zm 11 1,Zm 12 0,Zm 13 5,Zx 14 4 12 13,Zt 15 4 14,u1 16 .callv [.tm 11,.tm 15]] (ZC 16 (ZR [Zm 17 5,Zm 4 17] .ret) .skip)))) (.region [Zp 18 8 1,Zm 8 18]))))))) (ZR [Zi 4 (-1)] .ret)))⟩
theorem YGT:Ye YHk Tryz.f87=some v87:=by kernel_rfl
def v82:VF:=⟨9,[.tmp 4],(ZR [u1 4 .mov [.cn (.bool false)]] (ZR [Zm 5 0,Zm 6 1,Zd 7 114 5 6,Zq 8 .geq 7 0,Zm 4 8] .ret))⟩
theorem YGO:Ye YHk Tryz.f82=some v82:=by kernel_rfl
def v114:VF:=⟨19,[.tmp 4],(ZR [Zi 4 0] (.seq (ZR [Zm 6 0,Zl 7 6,Zi 8 0] (.block 0 (.loop (ZR [Zr 9 .lss 8 7] (.seq (ZC 9 .skip (.exit 0)) (.seq (.block 1 (ZR [Zm 10 8,Zm 5 10] (ZR [Zm 11 1,Zm 12 0,Zm 13 5,Zx 14 2 12 13,Zt 15 2 14,u1 16 .callv [.tm 11,.tm 15]] (ZC 16 (ZR [Zm 17 5,Zm 4 17] .ret) .skip)))) (.region [Zp 18 8 1,Zm 8 18]))))))) (ZR [Zi 4 (-1)] .ret)))⟩
theorem YBs:Ye YHk Tryz.f114=some v114:=by kernel_rfl
def v55:VF:=⟨17,[.tmp 2],(ZR [u1 1 .box [.tm 0],Zi 2 0] (ZR [Za 3 0 1,Zf 4 1 3,Za 5 1 1,Zf 6 1 5,Zo 7 .mul 4 6,Za 8 2 1,Zf 9 1 8,Za 10 0 1,Zf 11 1 10,Za 12 1 1,Zf 13 1 12,Zo 14 .add 11 13,Zo 15 .mul 9 14,u1 16 .min [.tm 7,.tm 15],Zm 2 16] .ret))⟩
theorem YGp:Ye YHk Tryz.f55=some v55:=by kernel_rfl
def v175:VF:=⟨29,[.cell 4 true 2],(ZR [u1 2 .box [.tm 0],Zn 4] (ZR [Za 8 0 2,Zf 9 1 8,Za 10 1 2,Zf 11 1 10,Zo 12 .mul 9 11,Zc 13 86 12,Zm 14 1,u1 15 (.call 34) [.tm 13,.tm 14,.cn (.int .i64 1000000)],Zm 7 15,Ze 16 0 7,Ze 17 1 7,Zn 5,Zs 2 5 16,Zm 6 17] (ZR [Za 18 0 5,Zf 19 1 18,Za 20 3 2,Zf 21 1 20,Zo 22 .add 19 21,Za 23 1 5,Zf 24 1 23,Za 25 3 2,Zf 26 1 25,Zo 27 .add 24 26,u1 28 (.build [(.int .i64 0),(.int .i64 0)] [(0,1),(1,1)]) [.tm 22,.tm 27],Zs 2 4 28] .ret)))⟩
theorem YB9:Ye YHk Tryz.f175=some v175:=by kernel_rfl
def v173:VF:=⟨9,[.tmp 4],(ZR [u1 2 .box [.tm 0],Zi 4 0] (ZR [Zt 5 4 2,Zm 6 1,Zd 7 175 5 6,u1 8 (.field false 1 1) [.tm 7],Zm 4 8] .ret))⟩
theorem YB7:Ye YHk Tryz.f173=some v173:=by kernel_rfl
def v174:VF:=⟨9,[.tmp 4],(ZR [u1 2 .box [.tm 0],Zi 4 0] (ZR [Zt 5 4 2,Zm 6 1,Zd 7 175 5 6,u1 8 (.field false 1 1) [.tm 7],Zm 4 8] .ret))⟩
theorem YB8:Ye YHk Tryz.f174=some v174:=by kernel_rfl
def v177:VF:=⟨10,[.tmp 2],(ZR [u1 1 .box [.tm 0],Zi 2 0] (.seq (.draw [] [Zy 3 0 1,Zw 4 4 3,Zy 6 4 1,Zw 7 4 6,w1 5 (.call 55) [.tm 4],w1 8 (.call 55) [.tm 7],w1 9 (.ari .add) [.tm 5,.tm 8],Zu 2 9]) .ret))⟩
theorem YCb:Ye YHk Tryz.f177=some v177:=by kernel_rfl
def v176:VF:=⟨14,[.tmp 4],(ZR [u1 2 .box [.tm 0],Zi 4 0] (.seq (.draw [] [Zy 5 0 2,Zw 6 4 5,Zu 7 1,Zy 9 4 2,Zw 10 4 9,Zu 11 1,Zz 8 173 6 7,Zz 12 173 10 11,w1 13 .max [.tm 8,.tm 12],Zu 4 13]) .ret))⟩
theorem YCa:Ye YHk Tryz.f176=some v176:=by kernel_rfl
def v178:VF:=⟨14,[.tmp 4],(ZR [u1 2 .box [.tm 0],Zi 4 0] (.seq (.draw [] [Zy 5 0 2,Zw 6 4 5,Zu 7 1,Zy 9 4 2,Zw 10 4 9,Zu 11 1,Zz 8 174 6 7,Zz 12 174 10 11,w1 13 (.ari .add) [.tm 8,.tm 12],Zu 4 13]) .ret))⟩
theorem YCc:Ye YHk Tryz.f178=some v178:=by kernel_rfl
def v56:VF:=⟨23,[.tmp 6],(ZR [u1 3 .box [.tm 0],Zi 6 0] (.seq (.block 0 (ZR [Zm 8 1,u1 9 (.ari .mul) [.cn (.int .i64 100),.tm 8],Zm 10 2,Za 11 1 3,Zf 12 1 11,Zo 13 .mul 10 12,Zr 14 .geq 9 13,Zm 7 14] (ZC 7 (ZR [Zi 6 1] .ret) (ZR [Zm 16 1,u1 17 (.ari .mul) [.cn (.int .i64 100),.tm 16],Zm 18 2,Za 19 0 3,Zf 20 1 19,Zo 21 .mul 18 20,Zr 22 .lss 17 21,Zm 15 22] (ZC 15 (ZR [Zi 6 (-1)] .ret) .skip))))) (ZR [Zi 6 0] .ret)))⟩
theorem YGq:Ye YHk Tryz.f56=some v56:=by kernel_rfl
def v48:VF:=⟨24,[.tmp 2],(ZR [u1 1 .box [.tm 0],u1 2 .mov [.cn (.bool false)]] (ZR [Za 3 0 1,Zf 4 1 3,u1 5 (.call 52) [.tm 4,.cn (.fn (.func 53) [] [])],Zm 6 5,Zj 7 6 false 1 1,Zj 8 6 false 0 7,Zh 9 6 false 1 8,u2 10 6 false (.call 54) [.tm 9,.cn (.int .i64 10),.cn (.int .i64 1000)],u1 11 .or [.tm 6,.tm 10],Zm 12 11,Zj 13 12 false 1 1,Zj 14 12 false 1 13,Zh 15 12 false 1 14,u2 16 12 false (.call 54) [.tm 15,.cn (.int .i64 10),.cn (.int .i64 5000)],u1 17 .or [.tm 12,.tm 16],Zm 18 17,Zj 19 18 false 1 1,Zj 20 18 false 2 19,Zh 21 18 false 1 20,u2 22 18 false (.call 54) [.tm 21,.cn (.int .i64 0),.cn (.int .i64 1000000000)],u1 23 .or [.tm 18,.tm 22],Zm 2 23] .ret))⟩
theorem YGi:Ye YHk Tryz.f48=some v48:=by kernel_rfl
def outCh:Ctr:={ alias:=false,of:=fun l=>match l with
 | [.int .i64 n,.int .i64 lo,.int .i64 hi]=> .fin (.bool (outN n lo hi)) []
 |_=>noC}
def CE0:Env:={ ct:=fun _=>none,fn:=fun _=>none,meth:=fun _ _=>none}
theorem YCm:Yn YHk CE0:=by
 refine⟨fun f c h=>?_,fun f vf h=>?_,(fun _ _ _ h=>by cases h),by kernel_rfl,(fun _ h=>by cases h),(fun _ _ h=>by cases h)⟩
 ·cases h
 ·cases h
theorem Ymg:outCh.ok YHk 54:=by
 refine Yb Tryz.func54 YGo YCm 100 outCh fun args k h=>⟨args,?_⟩
 simp only[outCh]at h
 split at h
 ·refine⟨by simp [leL,le],?_⟩
  dsimp only[v54,go_sem,reduceIte,YHf]
  simp only[Yc,YHf,YHh,reduceCtorEq,YHg]
  have h:k _ []:=h
  unfold outN at h
  exact Yi h
 ·exact h.1.elim
def toeC:Ctr:={ alias:=false,of:=fun l=>match l with
 | [.agg [.int .i64 x,.int .i64 y]]=> .fin (.bool (toeB (x,y))) []
 |_=>noC}
def palC:Ctr:={ alias:=false,of:=fun l=>match l with
 | [.agg [.int .i64 w,.int .i64 l,.int .i64 t,.int .i64 s]]=> .fin (.bool (palB ⟨w,l,t,s⟩)) []
 |_=>noC}
def oneCh:Ctr:={ alias:=false,of:=fun l=>match l with
 | [.int .i64 n]=> .fin (.agg [.int .i64 n,.int .i64 n]) []
 |_=>noC}
def CE1:Env:={ ct:=fun n=>match n with|54=>some outCh|_=>none,fn:=fun _=>none,meth:=fun _ _=>none}
theorem Ymy:CE1.ct 54=some outCh:=rfl
theorem YpB:Yn YHk CE1:=by
 refine⟨fun f c h=>?_,fun f vf h=>?_,(fun _ _ _ h=>by cases h),by kernel_rfl,(fun _ h=>by cases h),(fun _ _ h=>by cases h)⟩
 ·simp only[CE1]at h
  split at h
  ·cases h;exact⟨Ymg,Tryz.f54,Tryz.func54,by kernel_rfl,by kernel_rfl⟩
  ·cases h
 ·cases h
theorem YxR:toeC.ok YHk 83:=by
 refine Yb Tryz.func83 YGP YpB 100 toeC fun args k h=>⟨args,?_⟩
 simp only[toeC]at h
 split at h
 ·refine⟨by simp [leL,le],?_⟩
  dsimp only[v83,Ymy,outCh,go_sem,reduceIte,YHf]
  simp only[Yc,YHf,YHh,reduceCtorEq,YHg]
  have h:k _ []:=h
  exact Yi h
 ·exact h.1.elim
theorem YxC:palC.ok YHk 53:=by
 refine Yb Tryz.func53 YGn YpB 100 palC fun args k h=>⟨args,?_⟩
 simp only[palC]at h
 split at h
 ·refine⟨by simp [leL,le],?_⟩
  dsimp only[v53,Ymy,outCh,go_sem,reduceIte,YHf]
  simp only[Yc,YHf,YHh,reduceCtorEq,YHg]
  have h:k _ []:=h
  exact Yi h
 ·exact h.1.elim
theorem YsP:oneCh.ok YHk 86:=by
 refine Yb Tryz.func86 YGS YpB 100 oneCh fun args k h=>⟨args,?_⟩
 simp only[oneCh]at h
 split at h
 ·refine⟨by simp [leL,le],?_⟩
  dsimp only[v86,go_sem,reduceIte,YHf]
  simp only[Yc,YHf,YHh,reduceCtorEq,YHg]
  exact YE (show k _ []from h) (by simp [expo,view,YaS,leL,le]) (fun _=>by simp [Yt,Ys])
 ·exact h.1.elim
def YEz(g:Nat)(cap:List SV)(F:Iv->Bool):Prop:=g=83/\cap=[]/\F=toeB
def predP(g:Nat)(cap:List SV)(F:Plt->Bool):Prop:=g=53/\cap=[]/\F=palB
def YlO{α:Type}[Inhabited α](size:Nat)(e:α->List SV)(P:Nat->List SV->(α->Bool)->Prop):Ctr:={ alias:=false,of:=fun l=>match l with
 | [.vs _ _ n sz get,.fn (.func g) [] cap]=> .ex (List α) fun l=> .ex (α->Bool) fun F=> .pre (lsP size e n sz get l/\l.length<=1000000000000/\P g cap F) (.fin (.bool (l.any F)) [])
 |_=>noC}
def anyTCh:Ctr:=YlO 2 enc2 YEz
def anyPC:Ctr:=YlO 4 Y9 predP
def CE3:Env:={ ct:=fun n=>match n with|83=>some toeC|_=>none,fn:=fun n=>match n with|114=>some v114|_=>none,meth:=fun _ _=>none}
theorem YtU:CE3.ct 83=some toeC:=rfl
theorem YpC:CE3.ct 114=none:=rfl
theorem YpD:CE3.fn 114=some v114:=rfl
theorem YCn:Yn YHk CE3:=by
 refine⟨fun f c h=>?_,fun f vf h=>?_,(fun _ _ _ h=>by cases h),by kernel_rfl,(fun _ h=>by cases h),(fun _ _ h=>by cases h)⟩
 ·simp only[CE3]at h
  split at h
  ·cases h;exact⟨YxR,Tryz.f83,Tryz.func83,by kernel_rfl,by kernel_rfl⟩
  ·cases h
 ·simp only[CE3]at h
  split at h
  ·cases h;exact⟨Tryz.f114,Tryz.func114,YBs,Tryz.f114,Tryz.func114,by kernel_rfl,by kernel_rfl⟩
  ·cases h
theorem Yvc:anyTCh.ok YHk 82:=by
 refine Yb Tryz.func82 YGO YCn 100 anyTCh fun args k h=>?_
 simp only[anyTCh,YlO]at h
 split at h
 ·rename_i t z n sz get g cap
  obtain⟨l,F,⟨⟨rfl,rfl,hg⟩,hl,rfl,rfl,rfl⟩,h⟩:=h
  refine⟨[.vs t z l.length 2 (fun k=>enc2 (l.getD k default)),.fn (.func 83) [] []],⟨by simpa [le]using hg,by simp [YgS,bndL],trivial⟩,?_⟩
  have h:k (.bool (l.any toeB)) []:=h
  dsimp only[v82,v114,YpC,YpD,enc2,go_sem,reduceIte,YHf]
  simp only[Yc,YHf,YHh,reduceCtorEq,YHg]
  obtain⟨F,hF⟩:∃F,F=toeB:=⟨_,rfl⟩
  rw[<-hF]at h
  refine Loop.keep [0,0,5,0] Nat (fun i=>[(8,.int .i64 i)]) (fun _=>[]) [] (fun i=>i<=l.length/\∀j,j<i->F (l.getD j default)=false) (fun i=>l.length-i) ?_ ?_
  ·refine⟨0,⟨YHK _,fun j h=>by omega⟩,?_⟩
   dsimp only[go_sem,reduceIte,YHf]
   simp only[Ya]
   simp
  ·rintro i ⟨hi,ha⟩
   dsimp only[YtU,toeC,enc2,YHj,go_sem,reduceIte,YHf]
   simp only[Yc,YHf,YHh,reduceCtorEq,YHg]
   simp only[show toeB (((l.getD i default).1,(l.getD i default).2))=F (l.getD i default)by rw[hF]]
   refine⟨fun hlt=>⟨⟨by omega,hlt⟩,fun hb=>?_,fun hb=>?_⟩,fun hge=>?_⟩
   ·have e:l.any F=true:=YIt.2 ⟨_,Yh (by omega:i<l.length),hb⟩
    have e2:decide (0<=(i:Int))=true:=decide_eq_true (by omega)
    rw[e2]
    exact Yi (by rw[e]at h;exact h)
   ·refine⟨i+1,⟨by omega,fun j hj=>?_⟩,by omega,?_⟩
    ·rcases YHA j i with h'|h'
     ·exact ha j h'
     ·obtain rfl:j=i:=by omega
      exact hb
    ·simp only[Y0 (i:=i) (n:=l.length) (by omega) (by omega),Ya] <;> simp
   ·have e:l.any F=false:=YHP.2 fun x hx=>by
     obtain⟨j,hj,rfl⟩:=YQ hx
     rw[ha j (by omega)];simp
    exact Yi (by rw[e]at h;exact h)
 ·exact h.1.elim
def CE4:Env:={ ct:=fun n=>match n with|53=>some palC|_=>none,fn:=fun n=>match n with|87=>some v87|_=>none,meth:=fun _ _=>none}
theorem YtV:CE4.ct 53=some palC:=rfl
theorem YtW:CE4.ct 87=none:=rfl
theorem YtX:CE4.fn 87=some v87:=rfl
theorem YCo:Yn YHk CE4:=by
 refine⟨fun f c h=>?_,fun f vf h=>?_,(fun _ _ _ h=>by cases h),by kernel_rfl,(fun _ h=>by cases h),(fun _ _ h=>by cases h)⟩
 ·simp only[CE4]at h
  split at h
  ·cases h;exact⟨YxC,Tryz.f53,Tryz.func53,by kernel_rfl,by kernel_rfl⟩
  ·cases h
 ·simp only[CE4]at h
  split at h
  ·cases h;exact⟨Tryz.f87,Tryz.func87,YGT,Tryz.f87,Tryz.func87,by kernel_rfl,by kernel_rfl⟩
  ·cases h
theorem YqV:anyPC.ok YHk 52:=by
 refine Yb Tryz.func52 YGm YCo 100 anyPC fun args k h=>?_
 simp only[anyPC,YlO]at h
 split at h
 ·rename_i t z n sz get g cap
  obtain⟨l,F,⟨⟨rfl,rfl,hg⟩,hl,rfl,rfl,rfl⟩,h⟩:=h
  refine⟨[.vs t z l.length 4 (fun k=>Y9 (l.getD k default)),.fn (.func 53) [] []],⟨by simpa [le]using hg,by simp [YgS,bndL],trivial⟩,?_⟩
  have h:k (.bool (l.any palB)) []:=h
  dsimp only[v52,v87,YtW,YtX,Y9,go_sem,reduceIte,YHf]
  simp only[Yc,YHf,YHh,reduceCtorEq,YHg]
  obtain⟨F,hF⟩:∃F,F=palB:=⟨_,rfl⟩
  rw[<-hF]at h
  refine Loop.keep [0,0,5,0] Nat (fun i=>[(8,.int .i64 i)]) (fun _=>[]) [] (fun i=>i<=l.length/\∀j,j<i->F (l.getD j default)=false) (fun i=>l.length-i) ?_ ?_
  ·refine⟨0,⟨YHK _,fun j h=>by omega⟩,?_⟩
   dsimp only[go_sem,reduceIte,YHf]
   simp only[Ya]
   simp
  ·rintro i ⟨hi,ha⟩
   dsimp only[YtV,palC,Y9,YHj,go_sem,reduceIte,YHf]
   simp only[Yc,YHf,YHh,reduceCtorEq,YHg]
   simp only[show palB ⟨(l.getD i default).w,(l.getD i default).l,(l.getD i default).t,(l.getD i default).s⟩=F (l.getD i default)by rw[hF]]
   refine⟨fun hlt=>⟨⟨by omega,hlt⟩,fun hb=>?_,fun hb=>?_⟩,fun hge=>?_⟩
   ·have e:l.any F=true:=YIt.2 ⟨_,Yh (by omega:i<l.length),hb⟩
    have e2:decide (0<=(i:Int))=true:=decide_eq_true (by omega)
    rw[e2]
    exact Yi (by rw[e]at h;exact h)
   ·refine⟨i+1,⟨by omega,fun j hj=>?_⟩,by omega,?_⟩
    ·rcases YHA j i with h'|h'
     ·exact ha j h'
     ·obtain rfl:j=i:=by omega
      exact hb
    ·simp only[Y0 (i:=i) (n:=l.length) (by omega) (by omega),Ya] <;> simp
   ·have e:l.any F=false:=YHP.2 fun x hx=>by
     obtain⟨j,hj,rfl⟩:=YQ hx
     rw[ha j (by omega)];simp
    exact Yi (by rw[e]at h;exact h)
 ·exact h.1.elim
theorem Yw9{k:SV->List HO->Prop}{al:Bool}{hp:List HO}{r:Iv}(h:k (.agg (enc2 r)) []):Yz al k (.agg [.int .i64 r.1,.int .i64 r.2]) hp:=
 YE (show k _ []from h) (YC (.agg (enc2 r)) ⟨trivial,trivial,trivial⟩) (fun _=>by simp [enc2,Yt,Ys])
def chkC:Ctr:={ alias:=false,of:=fun l=>match l with
 | [.agg [.vs _ _ n sz get]]=> .ex (List Iv) fun l=> .pre (lsP 2 enc2 n sz get l/\l.length<=1000000000000) (.fin (.int .i64 (chkT l)) [])
 |_=>noC}
def areaC:Ctr:={ alias:=false,of:=fun l=>match l with
 | [.agg [.vs _ _ n sz get]]=> .ex (List Iv) fun l=> .pre (lsP 2 enc2 n sz get l/\l.length<=1000/\∀t∈l,toeB t=false) (.fin (.agg (enc2 (Yae l))) [])
 |_=>noC}
def CE5:Env:={ ct:=fun n=>match n with|82=>some anyTCh|86=>some oneCh|85=>some discC|_=>none,fn:=fun _=>none,meth:=fun _ _=>none}
theorem YtY:CE5.ct 82=some anyTCh:=rfl
theorem Yt0:CE5.ct 86=some oneCh:=rfl
theorem YtZ:CE5.ct 85=some discC:=rfl
theorem YwW:Yn YHk CE5:=by
 refine⟨fun f c h=>?_,fun f vf h=>?_,(fun _ _ _ h=>by cases h),by kernel_rfl,(fun _ h=>by cases h),(fun _ _ h=>by cases h)⟩
 ·simp only[CE5]at h
  split at h
  ·cases h;exact⟨Yvc,Tryz.f82,Tryz.func82,by kernel_rfl,by kernel_rfl⟩
  ·cases h;exact⟨YsP,Tryz.f86,Tryz.func86,by kernel_rfl,by kernel_rfl⟩
  ·cases h;exact⟨Yzl,Tryz.f85,Tryz.func85,by kernel_rfl,by kernel_rfl⟩
  ·cases h
 ·cases h
theorem Yxd:chkC.ok YHk 47:=by
 refine Yb Tryz.func47 YGh YwW 100 chkC fun args k h=>?_
 simp only[chkC]at h
 split at h
 ·rename_i t z n sz get
  obtain⟨l,⟨⟨rfl,rfl,hg⟩,hl⟩,h⟩:=h
  refine⟨[.agg [.vs t z l.length 2 (fun k=>enc2 (l.getD k default))]],⟨by simpa [le,leL]using hg,trivial⟩,?_⟩
  have h:k (.int .i64 (chkT l)) []:=h
  dsimp only[v47,YtY,anyTCh,YlO,go_sem,reduceIte,YHf]
  simp only[Yc,YHf,YHh,reduceCtorEq,YHg]
  refine⟨fun hc=>?_,fun hc=>⟨l,toeB,⟨YD,by omega,rfl,rfl,rfl⟩,fun ha=>?_,fun ha=>?_⟩⟩
  ·rw[chkT,if_pos (by omega)]at h
   exact Yj h
  ·rw[chkT,if_neg (by omega),if_pos ha]at h
   exact Yj h
  ·rw[chkT,if_neg (by omega),if_neg (by rw[ha];simp)]at h
   exact Yj h
 ·exact h.1.elim
theorem Yq1:areaC.ok YHk 51:=by
 refine Yb Tryz.func51 YGl YwW 200 areaC fun args k h=>?_
 simp only[areaC]at h
 split at h
 ·rename_i t z n sz get
  obtain⟨l,⟨⟨rfl,rfl,hg⟩,hl,hv⟩,h⟩:=h
  refine⟨[.agg [.vs t z l.length 2 (fun k=>enc2 (l.getD k default))]],⟨by simpa [le,leL]using hg,trivial⟩,?_⟩
  have h:k (.agg (enc2 (Yae l))) []:=h
  dsimp only[v51,enc2,go_sem,reduceIte,YHf]
  simp only[Yc,YHf,YHh,reduceCtorEq,YHg]
  refine Loop.keep [1,0,0,5,0] Nat (fun i=>[(11,.int .i64 i)]) (fun i=>[(2,.box (enc2 (Yae (l.take i))))]) [] (fun i=>i<=l.length) (fun i=>l.length-i) ?_ ?_
  ·refine⟨0,YHK _,?_⟩
   dsimp only[enc2,go_sem,reduceIte,YHf]
   simp only[Ya] <;> simp [Yae]
  ·rintro i hi
   dsimp only[Yt0,YtZ,oneCh,discC,ivoC,enc2,YHj,go_sem,reduceIte,YHf]
   simp only[Yc,YHf,YHh,reduceCtorEq,YHg]
   refine⟨fun hlt=>?_,fun hge=>?_⟩
   ·have hi':i<l.length:=by omega
    have r1:=YiC (l:=l) hi hv
    have ht:=YtF (hv _ (Yh hi'))
    have hd:=YkD (b:=(l.getD i default).1) (by omega) (by omega)
    rw[YbH (x:=_+(YhE _).1.1) (by unfold YbJ at hd;omega) (by unfold YbJ at hd;omega),YbH (x:=_+(YhE _).1.2) (by unfold YbJ at hd;omega) (by unfold YbJ at hd;omega)]
    refine⟨⟨by omega,hlt⟩,by decide,by decide,i+1,by omega,by omega,?_⟩
    simp only[Y0 (i:=i) (n:=l.length) (by omega) (by omega),Ykl hi',YbJ,Ya] <;> simp
   ·rw[Ycj (by omega)]
    exact Yw9 h
 ·exact h.1.elim
def openC:Ctr:={ alias:=false,of:=fun l=>match l with
 | [.agg [.int .i64 w,.int .i64 l,.int .i64 t,.int .i64 s]]=> .pre (palB ⟨w,l,t,s⟩=false) (.fin (.int .i64 (Ycb ⟨w,l,t,s⟩)) [])
 |_=>noC}
def forC(f:Plt->Int->SV):Ctr:={ alias:=false,of:=fun l=>match l with
 | [.agg [.int .i64 w,.int .i64 l,.int .i64 t,.int .i64 s],.int .i64 pr]=> .pre (palB ⟨w,l,t,s⟩=false/\10<=pr/\pr<=5000) (.fin (f ⟨w,l,t,s⟩ pr) [])
 |_=>noC}
def forceC:=forC fun p pr=> .agg (enc2 (YnC p pr))
def fhC:=forC fun p pr=> .int .i64 (fh p pr)
def CE6:Env:={ ct:=fun n=>match n with|86=>some oneCh|34=>some sclC|_=>none,fn:=fun _=>none,meth:=fun _ _=>none}
theorem Yt2:CE6.ct 86=some oneCh:=rfl
theorem Yt1:CE6.ct 34=some sclC:=rfl
theorem YwX:Yn YHk CE6:=by
 refine⟨fun f c h=>?_,fun f vf h=>?_,(fun _ _ _ h=>by cases h),by kernel_rfl,(fun _ h=>by cases h),(fun _ _ h=>by cases h)⟩
 ·simp only[CE6]at h
  split at h
  ·cases h;exact⟨YsP,Tryz.f86,Tryz.func86,by kernel_rfl,by kernel_rfl⟩
  ·cases h;exact⟨Ytk,Tryz.f34,Tryz.func34,by kernel_rfl,by kernel_rfl⟩
  ·cases h
 ·cases h
theorem Yjv:openC.ok YHk 55:=by
 refine Yb Tryz.func55 YGp YwX 100 openC fun args k h=>⟨args,?_⟩
 simp only[openC]at h
 split at h
 ·rename_i w l t s
  obtain⟨hp,h⟩:=h
  refine⟨by simp [leL,le],?_⟩
  obtain⟨h1,h2,h3,h4⟩:=Yjx hp
  obtain⟨_,_,h5,h6⟩:=YaV hp
  dsimp only at h1 h2 h3 h4 h5 h6
  have h:k (.int .i64 (min (w*l) (t*(w+l)))) []:=h
  dsimp only[v55,go_sem,reduceIte,YHf]
  simp only[Yc,YHf,YHh,reduceCtorEq,YHg]
  rw[YbH (x:=w+l) (by omega) (by omega),YbH (x:=w*l) (by omega) (by omega),YbH (x:=t*(w+l)) (by omega) (by omega)]
  exact Yj h
 ·exact h.1.elim
theorem YnD:forceC.ok YHk 175:=by
 refine Yb Tryz.func175 YB9 YwX 200 forceC fun args k h=>⟨args,?_⟩
 simp only[forceC,forC]at h
 split at h
 ·rename_i w l t s pr
  obtain⟨⟨hp,hp1,hp2⟩,h⟩:=h
  refine⟨by simp [leL,le],?_⟩
  obtain⟨h1,h2,h3,h4⟩:=Yjx hp
  obtain⟨_,_,h5,h6⟩:=YaV hp
  obtain⟨f1,f2,f3,f4⟩:=YgJ hp hp1 hp2
  dsimp only at h1 h2 h3 h4 h5 h6
  unfold sclI at f1 f2
  dsimp only at f1 f2
  dsimp only[v175,Yt2,Yt1,oneCh,sclC,enc2,go_sem,reduceIte,YHf]
  simp only[Yc,YHf,YHh,reduceCtorEq,YHg]
  rw[YbH (x:=w*l) (by omega) (by omega),YbH (x:=_+s) (by omega) (by omega),YbH (x:=(sclF (w*l,w*l) pr 1000000).1.2+s) (by omega) (by omega)]
  exact⟨by decide,by decide,Yw9 (r:=YnC ⟨w,l,t,s⟩ pr) h⟩
 ·exact h.1.elim
def CE7:Env:={ ct:=fun n=>match n with|175=>some forceC|55=>some openC|_=>none,fn:=fun _=>none,meth:=fun _ _=>none}
theorem YjV:CE7.ct 175=some forceC:=rfl
theorem YwY:Yn YHk CE7:=by
 refine⟨fun f c h=>?_,fun f vf h=>?_,(fun _ _ _ h=>by cases h),by kernel_rfl,(fun _ h=>by cases h),(fun _ _ h=>by cases h)⟩
 ·simp only[CE7]at h
  split at h
  ·cases h;exact⟨YnD,Tryz.f175,Tryz.func175,by kernel_rfl,by kernel_rfl⟩
  ·cases h;exact⟨Yjv,Tryz.f55,Tryz.func55,by kernel_rfl,by kernel_rfl⟩
  ·cases h
 ·cases h
theorem YnM:fhC.ok YHk 173:=by
 refine Yb Tryz.func173 YB7 YwY 200 fhC fun args k h=>⟨args,?_⟩
 simp only[fhC,forC]at h
 split at h
 ·rename_i w l t s pr
  obtain⟨⟨hp,hp1,hp2⟩,h⟩:=h
  refine⟨by simp [leL,le],?_⟩
  dsimp only[v173,YjV,forceC,forC,enc2,go_sem,reduceIte,YHf]
  simp only[Yc,YHf,YHh,reduceCtorEq,YHg]
  exact⟨⟨hp,hp1,hp2⟩,Yj h⟩
 ·exact h.1.elim
theorem YlB:fhC.ok YHk 174:=by
 refine Yb Tryz.func174 YB8 YwY 200 fhC fun args k h=>⟨args,?_⟩
 simp only[fhC,forC]at h
 split at h
 ·rename_i w l t s pr
  obtain⟨⟨hp,hp1,hp2⟩,h⟩:=h
  refine⟨by simp [leL,le],?_⟩
  dsimp only[v174,YjV,forceC,forC,enc2,go_sem,reduceIte,YHf]
  simp only[Yc,YHf,YHh,reduceCtorEq,YHg]
  exact⟨⟨hp,hp1,hp2⟩,Yj h⟩
 ·exact h.1.elim
def YsT(f:Plt->Plt->Int->Int):Ctr:={ alias:=false,of:=fun l=>match l with
 | [.agg [.int .i64 w,.int .i64 l,.int .i64 t,.int .i64 s,.int .i64 w',.int .i64 l',.int .i64 t',.int .i64 s'],.int .i64 pr]=> .pre ((palB ⟨w,l,t,s⟩=false/\palB ⟨w',l',t',s'⟩=false)/\10<=pr/\pr<=5000) (.fin (.int .i64 (f ⟨w,l,t,s⟩ ⟨w',l',t',s'⟩ pr)) [])
 |_=>noC}
def heavy2C:=YsT fun p q pr=>max (fh p pr) (fh q pr)
def weight2C:=YsT fun p q pr=>fh p pr+fh q pr
def open2C:Ctr:={ alias:=false,of:=fun l=>match l with
 | [.agg [.int .i64 w,.int .i64 l,.int .i64 t,.int .i64 s,.int .i64 w',.int .i64 l',.int .i64 t',.int .i64 s']]=> .pre (palB ⟨w,l,t,s⟩=false/\palB ⟨w',l',t',s'⟩=false) (.fin (.int .i64 (Ycb ⟨w,l,t,s⟩+Ycb ⟨w',l',t',s'⟩)) [])
 |_=>noC}
def CE8:Env:={ ct:=fun n=>match n with|173=>some fhC|174=>some fhC|55=>some openC|_=>none,fn:=fun _=>none,meth:=fun _ _=>none}
theorem YpE:CE8.ct 173=some fhC:=rfl
theorem YpF:CE8.ct 174=some fhC:=rfl
theorem Yt3:CE8.ct 55=some openC:=rfl
theorem Ymz:Yn YHk CE8:=by
 refine⟨fun f c h=>?_,fun f vf h=>?_,(fun _ _ _ h=>by cases h),by kernel_rfl,(fun _ h=>by cases h),(fun _ _ h=>by cases h)⟩
 ·simp only[CE8]at h
  split at h
  ·cases h;exact⟨YnM,Tryz.f173,Tryz.func173,by kernel_rfl,by kernel_rfl⟩
  ·cases h;exact⟨YlB,Tryz.f174,Tryz.func174,by kernel_rfl,by kernel_rfl⟩
  ·cases h;exact⟨Yjv,Tryz.f55,Tryz.func55,by kernel_rfl,by kernel_rfl⟩
  ·cases h
 ·cases h
theorem YrU:heavy2C.ok YHk 176:=by
 refine Yb Tryz.func176 YCa Ymz 200 heavy2C fun args k h=>⟨args,?_⟩
 simp only[heavy2C,YsT]at h
 split at h
 ·rename_i w l t s w' l' t' s' pr
  obtain⟨⟨⟨hp,hq⟩,hp1,hp2⟩,h⟩:=h
  refine⟨by simp [leL,le],?_⟩
  dsimp only[v176,YpE,fhC,forC,go_sem,reduceIte,YHf]
  simp only[Yc,YHf,YHh,reduceCtorEq,YHg]
  exact⟨⟨hp,hp1,hp2⟩,⟨hq,hp1,hp2⟩,Yj h⟩
 ·exact h.1.elim
theorem Ypx:weight2C.ok YHk 178:=by
 refine Yb Tryz.func178 YCc Ymz 200 weight2C fun args k h=>⟨args,?_⟩
 simp only[weight2C,YsT]at h
 split at h
 ·rename_i w l t s w' l' t' s' pr
  obtain⟨⟨⟨hp,hq⟩,hp1,hp2⟩,h⟩:=h
  refine⟨by simp [leL,le],?_⟩
  dsimp only[v178,YpF,fhC,forC,go_sem,reduceIte,YHf]
  simp only[Yc,YHf,YHh,reduceCtorEq,YHg]
  have f1:=(YgJ hp hp1 hp2).2.2.2
  have f2:=(YgJ hq hp1 hp2).2.2.2
  rw[YbH (x:=_+_) (by omega) (by omega)]
  exact⟨⟨hp,hp1,hp2⟩,⟨hq,hp1,hp2⟩,Yj h⟩
 ·exact h.1.elim
theorem Ywc:open2C.ok YHk 177:=by
 refine Yb Tryz.func177 YCb Ymz 200 open2C fun args k h=>⟨args,?_⟩
 simp only[open2C]at h
 split at h
 ·rename_i w l t s w' l' t' s'
  obtain⟨⟨hp,hq⟩,h⟩:=h
  refine⟨by simp [leL,le],?_⟩
  dsimp only[v177,Yt3,openC,go_sem,reduceIte,YHf]
  simp only[Yc,YHf,YHh,reduceCtorEq,YHg]
  have f1:=YaV hp
  have f2:=YaV hq
  rw[YbH (x:=_+_) (by omega) (by omega)]
  exact⟨hp,hq,Yj h⟩
 ·exact h.1.elim
def cmpC:Ctr:={ alias:=false,of:=fun l=>match l with
 | [.agg [.int .i64 x,.int .i64 y],.int .i64 o,.int .i64 per]=> .pre ((0<=x/\x<=1000000000000)/\(0<=y/\y<=1000000000000)/\(0<=o/\o<=10000000000000)/\10<=per/\per<=1000) (.fin (.int .i64 (cmpF (x,y) o per)) [])
 |_=>noC}
theorem Yem:cmpC.ok YHk 56:=by
 refine Yb Tryz.func56 YGq Ymz 200 cmpC fun args k h=>⟨args,?_⟩
 simp only[cmpC]at h
 split at h
 ·rename_i x y o per
  obtain⟨⟨⟨h1,h2⟩,⟨h3,h4⟩,⟨h5,h6⟩,h7,h8⟩,h⟩:=h
  refine⟨by simp [leL,le],?_⟩
  have h:k (.int .i64 (cmpF (x,y) o per)) []:=h
  dsimp only[v56,go_sem,reduceIte,YHf]
  simp only[Yc,YHf,YHh,reduceCtorEq,YHg]
  have m1:per*x<=1000*1000000000000:=YO h8 h2 (by omega) (by omega)
  have m2:per*y<=1000*1000000000000:=YO h8 h4 (by omega) (by omega)
  have m3:0<=per*x:=YIe (by omega) h1
  have m4:0<=per*y:=YIe (by omega) h3
  rw[YbH (x:=100*o) (by omega) (by omega),YbH (x:=per*x) (by omega) (by omega),YbH (x:=per*y) (by omega) (by omega)]
  refine⟨fun hc=>?_,fun hc=>⟨fun hd=>?_,fun hd=>?_⟩⟩
  ·rw[cmpF,if_pos hc]at h;exact Yj h
  ·rw[cmpF,if_neg hc,if_pos hd]at h;exact Yj h
  ·rw[cmpF,if_neg hc,if_neg hd]at h;exact Yj h
 ·exact h.1.elim
def shopC:Ctr:={ alias:=false,of:=fun l=>match l with
 | [.agg [.vs _ _ n sz get,.int .i64 per,.int .i64 pr,.int .i64 most]]=> .ex (List Plt) fun l=> .pre (lsP 4 Y9 n sz get l/\l.length<=1000000000000) (.fin (.bool (l.any palB|| wshB ⟨per,pr,most⟩)) [])
 |_=>noC}
def CE9:Env:={ ct:=fun n=>match n with|52=>some anyPC|54=>some outCh|_=>none,fn:=fun _=>none,meth:=fun _ _=>none}
theorem Yt4:CE9.ct 52=some anyPC:=rfl
theorem Yt5:CE9.ct 54=some outCh:=rfl
theorem YCp:Yn YHk CE9:=by
 refine⟨fun f c h=>?_,fun f vf h=>?_,(fun _ _ _ h=>by cases h),by kernel_rfl,(fun _ h=>by cases h),(fun _ _ h=>by cases h)⟩
 ·simp only[CE9]at h
  split at h
  ·cases h;exact⟨YqV,Tryz.f52,Tryz.func52,by kernel_rfl,by kernel_rfl⟩
  ·cases h;exact⟨Ymg,Tryz.f54,Tryz.func54,by kernel_rfl,by kernel_rfl⟩
  ·cases h
 ·cases h
theorem Ytr:shopC.ok YHk 48:=by
 refine Yb Tryz.func48 YGi YCp 200 shopC fun args k h=>?_
 simp only[shopC]at h
 split at h
 ·rename_i t z n sz get per pr most
  obtain⟨l,⟨⟨rfl,rfl,hg⟩,hl⟩,h⟩:=h
  refine⟨[.agg [.vs t z l.length 4 (fun k=>Y9 (l.getD k default)),.int .i64 per,.int .i64 pr,.int .i64 most]],⟨by simpa [le,leL]using hg,trivial⟩,?_⟩
  have h:k (.bool (l.any palB|| wshB ⟨per,pr,most⟩)) []:=h
  dsimp only[v48,Yt4,Yt5,anyPC,YlO,outCh,go_sem,reduceIte,YHf]
  simp only[Yc,YHf,YHh,reduceCtorEq,YHg]
  refine⟨l,palB,⟨YD,by omega,rfl,rfl,rfl⟩,?_⟩
  refine Yi ?_
  rw[wshB,<-Bool.or_assoc,<-Bool.or_assoc]at h
  exact h
 ·exact h.1.elim
def v50:VF:=⟨65,[.tmp 4],(ZR [u1 2 .box [.tm 0],u1 3 .box [.tm 1],u1 4 .mov [.cn .nil]] (ZR [u1 5 (.alloc [.nil]) []] (ZR [u1 6 (.alloc [(.int .i64 0)]) []] (ZR [u1 14 (.mkfn (.func 84) 0) [.tm 2,.tm 3,.tm 5,.tm 6],Zm 7 14] (.seq (ZR [Za 15 0 2,Zf 16 1 15,Zl 17 16,Zi 18 0] (.block 0 (.loop (ZR [Zr 19 .lss 18 17] (.seq (ZC 19 .skip (.exit 0)) (.seq (.block 1 (ZR [Zm 20 18,Zx 21 4 16 18,Zt 22 4 21,u1 9 (.alloc [(.int .i64 0),(.int .i64 0),(.int .i64 0),(.int .i64 0)]) [],Zm 8 20,Zs 4 9 22] (.region [Zm 23 7,Zt 24 4 9,u1 25 (.iface 127) [.tm 24],Zm 26 8,u1 27 (.buildSlice 1 1 [(.int .i64 0)] [(0,1)]) [.tm 26],u1 28 .callv [.tm 23,.tm 25,.tm 27]]))) (.region [Zp 29 18 1,Zm 18 29]))))))) (.seq (ZR [Zf 30 1 5,u1 31 (.isNil true) [.tm 30,.cn .nil]] (ZC 31 (ZR [Zf 32 1 5,Zm 4 32] .ret) .skip)) (.seq (ZR [Za 33 0 2,Zf 34 1 33,Zl 35 34,Zi 36 0] (.block 2 (.loop (ZR [Zr 37 .lss 36 35] (.seq (ZC 37 .skip (.exit 2)) (.seq (.block 3 (ZR [Zm 38 36,Zx 39 4 34 36,Zt 40 4 39,u1 11 (.alloc [(.int .i64 0),(.int .i64 0),(.int .i64 0),(.int .i64 0)]) [],Zm 10 38,Zs 4 11 40] (ZR [Za 41 0 2,Zf 42 1 41,Zm 43 10,u1 44 (.slice 4 true false) [.tm 42,.tm 43],Zl 45 44,Zi 46 0] (.block 4 (.loop (ZR [Zr 47 .lss 46 45] (.seq (ZC 47 .skip (.exit 4)) (.seq (.block 5 (ZR [Zm 48 46,Zx 49 4 44 46,Zt 50 4 49,u1 13 (.alloc [(.int .i64 0),(.int .i64 0),(.int .i64 0),(.int .i64 0)]) [],Zm 12 48,Zs 4 13 50] (.region [Zm 51 7,Zt 52 4 11,Zt 53 4 13,u1 54 (.build [(.int .i64 0),(.int .i64 0),(.int .i64 0),(.int .i64 0),(.int .i64 0),(.int .i64 0),(.int .i64 0),(.int .i64 0)] [(0,4),(4,4)]) [.tm 52,.tm 53],u1 55 (.iface 168) [.tm 54],Zm 56 10,Zm 57 10,Zm 58 12,Zo 59 .add 57 58,u1 60 (.buildSlice 1 2 [(.int .i64 0)] [(0,1),(1,1)]) [.tm 56,.tm 59],u1 61 .callv [.tm 51,.tm 55,.tm 60]]))) (.region [Zp 62 46 1,Zm 46 62]))))))))) (.region [Zp 63 36 1,Zm 36 63]))))))) (ZR [Zf 64 1 5,Zm 4 64] .ret))))))))⟩
theorem YGk:Ye YHk Tryz.f50=some v50:=by kernel_rfl
def v84:VF:=⟨42,[],(.seq (.seq (.draw [] [Zu 9 0,Zy 10 1 2,Zy 11 1 10,Zv 12 1 11,Zy 14 1 2,Zy 15 2 14,Zv 16 1 15,w1 13 (.invoke "quintadena/chests.heaviest") [.tm 9,.tm 12],w1 17 (.cmp .gtr) [.tm 13,.tm 16],Zu 18 17,⟨u2 19 18 false (.load true 2) [.tm 3],[]⟩,⟨Zg 20 18 false 0,[]⟩,⟨Zj 22 18 false 1 2,[]⟩,⟨Zj 23 18 false 0 22,[]⟩,⟨Zh 24 18 false 1 23,[]⟩,⟨u2 21 18 false (.invoke "quintadena/chests.opening") [.tm 20],[]⟩,⟨u2 25 18 false (.call 56) [.tm 19,.tm 21,.tm 24],[]⟩,⟨u2 26 18 false (.cmp .neq) [.tm 25,.cn (.int .i64 1)],[]⟩,w1 27 .or [.tm 18,.tm 26]]) (ZC 27 .ret .skip)) (ZR [Zm 28 0,Za 29 1 2,Za 30 1 29,Zf 31 1 30,u1 32 (.invoke "quintadena/chests.weight") [.tm 28,.tm 31],Zm 8 32] (ZR [Zf 33 1 4,u1 34 (.isNil false) [.tm 33,.cn .nil],Zm 35 34,Zg 36 35 false 8,Zh 37 35 false 1 5,u2 38 35 false (.cmp .lss) [.tm 36,.tm 37],u1 39 .or [.tm 35,.tm 38]] (ZC 39 (.region [Zm 40 1,Zm 41 8,Zs 1 4 40,Zs 1 5 41]) .skip))))⟩
theorem YGQ:Ye YHk Tryz.f84=some v84:=by kernel_rfl
theorem Yjy(p:Plt):(⟨p.w,p.l,p.t,p.s⟩:Plt)=p:=rfl
def vsI(b:List Int):SV:= .vs true b.isEmpty b.length 1 (fun k=>enc1 (b.getD k default))
def chooseC:Ctr:={ alias:=false,of:=fun l=>match l with
 | [.agg [.vs _ _ n sz get,.int .i64 per,.int .i64 pr,.int .i64 most],.agg [.int .i64 x,.int .i64 y]]=> .ex (List Plt) fun l=> .pre (lsP 4 Y9 n sz get l/\l.length<=1000/\(∀p∈l,palB p=false)/\wshB ⟨per,pr,most⟩=false/\(0<=x/\x<=1000000000000)/\0<=y/\y<=1000000000000) (.fin (vsI (Yaf (x,y) ⟨per,pr,most⟩ l)) [])
 |_=>noC}
def CG0:Env:={ ct:=fun n=>match n with|173=>some fhC|174=>some fhC|55=>some openC|176=>some heavy2C|178=>some weight2C|177=>some open2C|56=>some cmpC|_=>none,fn:=fun n=>match n with|84=>some v84|_=>none,meth:=fun t m=>match t,m with|127, "quintadena/chests.heaviest" =>some 173|127, "quintadena/chests.opening" =>some 55|127, "quintadena/chests.weight" =>some 174|168, "quintadena/chests.heaviest" =>some 176|168, "quintadena/chests.opening" =>some 177|168, "quintadena/chests.weight" =>some 178|_,_=>none}
theorem YpG:CG0.ct 173=some fhC:=rfl
theorem YpH:CG0.ct 174=some fhC:=rfl
theorem Yt6:CG0.ct 55=some openC:=rfl
theorem YpI:CG0.ct 176=some heavy2C:=rfl
theorem YpK:CG0.ct 178=some weight2C:=rfl
theorem YpJ:CG0.ct 177=some open2C:=rfl
theorem YmA:CG0.ct 56=some cmpC:=rfl
theorem YmB:CG0.ct 84=none:=rfl
theorem YmC:CG0.fn 84=some v84:=rfl
theorem YCq:Yn YHk CG0:=by
 refine⟨fun f c h=>?_,fun f vf h=>?_,fun t m f h=>?_,by kernel_rfl,(fun _ h=>by cases h),(fun _ _ h=>by cases h)⟩
 ·simp only[CG0]at h
  split at h
  ·cases h;exact⟨YnM,Tryz.f173,Tryz.func173,by kernel_rfl,by kernel_rfl⟩
  ·cases h;exact⟨YlB,Tryz.f174,Tryz.func174,by kernel_rfl,by kernel_rfl⟩
  ·cases h;exact⟨Yjv,Tryz.f55,Tryz.func55,by kernel_rfl,by kernel_rfl⟩
  ·cases h;exact⟨YrU,Tryz.f176,Tryz.func176,by kernel_rfl,by kernel_rfl⟩
  ·cases h;exact⟨Ypx,Tryz.f178,Tryz.func178,by kernel_rfl,by kernel_rfl⟩
  ·cases h;exact⟨Ywc,Tryz.f177,Tryz.func177,by kernel_rfl,by kernel_rfl⟩
  ·cases h;exact⟨Yem,Tryz.f56,Tryz.func56,by kernel_rfl,by kernel_rfl⟩
  ·cases h
 ·simp only[CG0]at h
  split at h
  ·cases h;exact⟨Tryz.f84,Tryz.func84,YGQ,Tryz.f84,Tryz.func84,by kernel_rfl,by kernel_rfl⟩
  ·cases h
 ·simp only[CG0]at h
  split at h
  ·cases h;kernel_rfl
  ·cases h;kernel_rfl
  ·cases h;kernel_rfl
  ·cases h;kernel_rfl
  ·cases h;kernel_rfl
  ·cases h;kernel_rfl
  ·cases h
theorem YeX:CG0.meth 127 "quintadena/chests.heaviest" =some 173:=rfl
theorem YfC:CG0.meth 127 "quintadena/chests.opening" =some 55:=rfl
theorem Ygd:CG0.meth 127 "quintadena/chests.weight" =some 174:=rfl
theorem YeY:CG0.meth 168 "quintadena/chests.heaviest" =some 176:=rfl
theorem YfD:CG0.meth 168 "quintadena/chests.opening" =some 177:=rfl
theorem Yge:CG0.meth 168 "quintadena/chests.weight" =some 178:=rfl
theorem YqS{k:SV->List HO->Prop}{al:Bool}{hp:List HO}{b:List Int}(h:k (vsI b) []):Yz al k (vsI b) hp:=
 YE (show k _ []from h) (by simp only[vsI,expo,view];exact⟨fun h=>h,rfl,rfl,rfl,fun j _=>by simp [enc1,YaS,view,leXL,leX]⟩) (fun _=>by simp [vsI,enc1,Yt,Ys])
theorem Ykw:chooseC.ok YHk 50:=by
 refine Yb Tryz.func50 YGk YCq 400 chooseC fun args k h=>?_
 simp only[chooseC]at h
 split at h
 ·rename_i t z n sz get per pr most x y
  obtain⟨l,⟨⟨rfl,rfl,hg⟩,hl,hv,hw,ha1,ha2⟩,h⟩:=h
  refine⟨[.agg [.vs t z l.length 4 (fun k=>Y9 (l.getD k default)),.int .i64 per,.int .i64 pr,.int .i64 most],.agg [.int .i64 x,.int .i64 y]],⟨by simpa [le,leL]using hg,by simp [le,leL],trivial⟩,?_⟩
  have h:k (vsI (Yaf (x,y) ⟨per,pr,most⟩ l)) []:=h
  have hpr:(10<=per/\per<=1000)/\10<=pr/\pr<=5000:=by
   unfold wshB at hw
   rw[YHp,YHp,outN_f,outN_f]at hw;exact hw.1
  dsimp only[v50,Y9,go_sem,reduceIte,YHf]
  simp only[Yc,YHf,YHh,reduceCtorEq,YHg]
  refine Loop.keepF [2,0,1,0,0,8,0] Nat (fun i=>[(18,.int .i64 i)]) (fun i=>[(2,.box [vsI (Yd8 (x,y) ⟨per,pr,most⟩ l i).1]),(3,.box [.int .i64 (Yd8 (x,y) ⟨per,pr,most⟩ l i).2])]) [] (fun i=>i<=l.length) (fun i=>l.length-i) ?_ ?_
  ·refine⟨0,YHK _,[],trivial,?_⟩
   dsimp only[vsI,Yd8,List.isEmpty_nil,List.length_nil,go_sem,reduceIte,YHf]
   simp only[Ya] <;> simp
  ·rintro i hi
   dsimp only[v84,vsI,YmB,YmC,YpG,Yt6,YpH,YmA,YeX,YfC,Ygd,fhC,forC,openC,cmpC,Y9,YHj,go_sem,reduceIte,YHf]
   simp only[Yc,YHf,YHh,reduceCtorEq,YHg,Yjy]
   refine⟨fun hlt=>?_,fun hge=>?_⟩
   ·have hi':i<l.length:=by omega
    have hp:=hv _ (Yh hi')
    have ho:=YaV hp
    have e1:Yd8 (x,y) ⟨per,pr,most⟩ l (i+1)=tryF (x,y) ⟨per,pr,most⟩ (Yd8 (x,y) ⟨per,pr,most⟩ l i) (YlV ⟨per,pr,most⟩ l i):=rfl
    unfold tryF YlV at e1
    dsimp only at e1
    refine⟨⟨by omega,hlt⟩,by decide,⟨hp,hpr.2⟩,fun _=>hp,fun _=>⟨ha1,ha2,⟨ho.1,by omega⟩,hpr.1⟩,fun hc=>?_,fun hc=>⟨⟨hp,hpr.2⟩,fun hd=>?_,fun hd=>?_⟩⟩
    ·rw[YHS,decide_eq_true_eq,YHD,decide_eq_false_iff_not]at hc
     rw[if_pos hc]at e1
     refine⟨i+1,by omega,by omega,[5],?_,?_⟩
     ·dsimp only[go_sem,reduceIte,YHf]
      exact⟨fun k hk=>(by obtain rfl:k=0:=(by omega);rfl),trivial⟩
     ·dsimp only[go_sem,reduceIte,YHf]
      simp only[Y0 (i:=i) (n:=l.length) (by omega) (by omega),e1,Ya] <;> simp
    ·rw[YHp,decide_eq_false_iff_not,Bool.not_eq_false',decide_eq_true_eq]at hc
     rw[if_neg (by omega)]at e1
     rw[YHS,List.isEmpty_iff,decide_eq_true_eq]at hd
     rw[if_pos hd]at e1
     refine⟨i+1,by omega,by omega,[5],?_,?_⟩
     ·dsimp only[go_sem,reduceIte,YHf]
      exact⟨fun k hk=>(by obtain rfl:k=0:=(by omega);rfl),trivial⟩
     ·dsimp only[go_sem,reduceIte,YHf]
      simp only[Y0 (i:=i) (n:=l.length) (by omega) (by omega),e1,Ya] <;> simp
      exact Yd _
    ·rw[YHp,decide_eq_false_iff_not,Bool.not_eq_false',decide_eq_true_eq]at hc
     rw[if_neg (by omega)]at e1
     rw[YHp,List.isEmpty_eq_false_iff,decide_eq_false_iff_not]at hd
     rw[if_neg (by rintro(h|h);exact hd.1 h;exact hd.2 h)]at e1
     refine⟨i+1,by omega,by omega,[5],?_,?_⟩
     ·dsimp only[go_sem,reduceIte,YHf]
      exact⟨fun k hk=>(by obtain rfl:k=0:=(by omega);rfl),trivial⟩
     ·dsimp only[go_sem,reduceIte,YHf]
      simp only[Y0 (i:=i) (n:=l.length) (by omega) (by omega),e1,Ya] <;> simp
   ·obtain rfl:i=l.length:=by omega
    refine⟨fun hn=>?_,fun hn=>?_⟩
    ·rw[List.isEmpty_eq_false_iff]at hn
     rw[Yaf,if_pos hn]at h
     exact YqS h
    ·rw[List.isEmpty_iff]at hn
     rw[Yaf,if_neg (by rw[hn];simp)]at h
     generalize Yd8 (x,y) ⟨per,pr,most⟩ l l.length=b0 at*
     refine Loop.keepF [2,0,1,0,0,26,0] Nat (fun i=>[(36,.int .i64 i)]) (fun i=>[(2,.box [vsI (twos (x,y) ⟨per,pr,most⟩ l b0 i).1]),(3,.box [.int .i64 (twos (x,y) ⟨per,pr,most⟩ l b0 i).2])]) [] (fun i=>i<=l.length) (fun i=>l.length-i) ?_ ?_
     ·refine⟨0,YHK _,[],trivial,?_⟩
      dsimp only[vsI,twos,go_sem,reduceIte,YHf]
      simp only[Ya] <;> simp
     ·rintro i hi
      dsimp only[vsI,Y9,YHj,go_sem,reduceIte,YHf]
      simp only[Yc,YHf,YHh,reduceCtorEq,YHg,Yjy]
      refine⟨fun hlt=>?_,fun hge=>?_⟩
      ·have hi':i<l.length:=by omega
       have hp:=hv _ (Yh hi')
       have ho:=YaV hp
       refine⟨⟨by omega,hlt⟩,⟨by omega,by omega⟩,?_⟩
       have hsub:Yhr l.length i=l.length-i:=by cases i <;> rfl
       rw[hsub]
       generalize hb:twos (x,y) ⟨per,pr,most⟩ l b0 i=b
       refine Loop.keepF [2,0,1,0,0,2,0,22,0,0,7,0] Nat (fun d=>[(46,.int .i64 d)]) (fun d=>[(2,.box [vsI (row2 (x,y) ⟨per,pr,most⟩ l i b d).1]),(3,.box [.int .i64 (row2 (x,y) ⟨per,pr,most⟩ l i b d).2])]) [] (fun d=>d<=l.length-i) (fun d=>l.length-i-d) ?_ ?_
       ·refine⟨0,YHK _,[],trivial,?_⟩
        dsimp only[vsI,row2,go_sem,reduceIte,YHf]
        simp only[Ya] <;> simp
       ·rintro d hd
        dsimp only[v84,vsI,YmB,YmC,YpI,YpJ,YpK,YmA,YeY,YfD,Yge,heavy2C,weight2C,YsT,open2C,cmpC,Y9,YHj,go_sem,reduceIte,YHf]
        have hadd:Ybu i d=i+d:=by cases i <;> simp [Ybu]
        simp only[Yc,YHf,YHh,reduceCtorEq,YHg,Yjy,hadd]
        refine⟨fun hlt2=>?_,fun hge2=>?_⟩
        ·have hi2:i+d<l.length:=by omega
         have hp2:=hv _ (Yh hi2)
         have ho2:=YaV hp2
         have e1:row2 (x,y) ⟨per,pr,most⟩ l i b (d+1)=tryF (x,y) ⟨per,pr,most⟩ (row2 (x,y) ⟨per,pr,most⟩ l i b d) (YlW ⟨per,pr,most⟩ l i (i+d)):=rfl
         unfold tryF YlW at e1
         dsimp only at e1
         have hid:IntKind.i64.wrap ((i:Int)+(d:Int))=((i+d:Nat):Int):=by rw[YbH (by omega) (by omega)];omega
         refine⟨⟨by omega,hlt2⟩,by decide,⟨⟨hp,hp2⟩,hpr.2⟩,fun _=>⟨hp,hp2⟩,fun _=>⟨ha1,ha2,⟨by omega,by omega⟩,hpr.1⟩,fun hc=>?_,fun hc=>⟨⟨⟨hp,hp2⟩,hpr.2⟩,fun hd=>?_,fun hd=>?_⟩⟩
         ·rw[YHS,decide_eq_true_eq,YHD,decide_eq_false_iff_not]at hc
          rw[if_pos hc]at e1
          refine⟨d+1,by omega,by omega,[6],?_,?_⟩
          ·dsimp only[go_sem,reduceIte,YHf]
           refine⟨fun k hk=>?_,trivial⟩
           match k,hk with
           |0,_=>rfl
           |1,_=>rfl
          ·dsimp only[go_sem,reduceIte,YHf]
           simp only[Y0 (i:=d) (n:=l.length-i) (by omega) (by omega),hid,e1,Ya] <;> simp
         ·rw[YHp,decide_eq_false_iff_not,Bool.not_eq_false',decide_eq_true_eq]at hc
          rw[if_neg (by omega)]at e1
          rw[YHS,List.isEmpty_iff,decide_eq_true_eq]at hd
          rw[if_pos hd]at e1
          refine⟨d+1,by omega,by omega,[6],?_,?_⟩
          ·dsimp only[go_sem,reduceIte,YHf]
           refine⟨fun k hk=>?_,trivial⟩
           match k,hk with
           |0,_=>rfl
           |1,_=>rfl
          ·dsimp only[go_sem,reduceIte,YHf]
           simp only[Y0 (i:=d) (n:=l.length-i) (by omega) (by omega),hid,e1,Ya] <;> simp
           intro k hk
           match k,hk with
           |0,_=>exact Yd _
           |1,_=>exact Yd _
         ·rw[YHp,decide_eq_false_iff_not,Bool.not_eq_false',decide_eq_true_eq]at hc
          rw[if_neg (by omega)]at e1
          rw[YHp,List.isEmpty_eq_false_iff,decide_eq_false_iff_not]at hd
          rw[if_neg (by rintro(h|h);exact hd.1 h;exact hd.2 h)]at e1
          refine⟨d+1,by omega,by omega,[6],?_,?_⟩
          ·dsimp only[go_sem,reduceIte,YHf]
           refine⟨fun k hk=>?_,trivial⟩
           match k,hk with
           |0,_=>rfl
           |1,_=>rfl
          ·dsimp only[go_sem,reduceIte,YHf]
           simp only[Y0 (i:=d) (n:=l.length-i) (by omega) (by omega),hid,e1,Ya] <;> simp
        ·obtain rfl:d=l.length-i:=by omega
         refine⟨i+1,by omega,by omega,[],trivial,?_⟩
         have e2:twos (x,y) ⟨per,pr,most⟩ l b0 (i+1)=row2 (x,y) ⟨per,pr,most⟩ l i (twos (x,y) ⟨per,pr,most⟩ l b0 i) (l.length-i):=rfl
         rw[hb]at e2
         dsimp only[go_sem,reduceIte,YHf]
         simp only[Y0 (i:=i) (n:=l.length) (by omega) (by omega),e2,Ya] <;> simp
      ·obtain rfl:i=l.length:=by omega
       exact YqS h
 ·exact h.1.elim
def v20:VF:=⟨49,[.tmp 6,.tmp 7],(ZR [u1 3 .box [.tm 0],Zi 6 0,Zi 7 0] (ZR [Zt 12 1 3,Zc 13 47 12,Zm 8 13] (.seq (.block 0 (ZR [Zm 15 8,Zq 16 .eql 15 3,Zm 17 16,Zg 18 17 false 1,u2 19 17 false .len [.tm 18],u2 20 17 false (.cmp .gtr) [.tm 19,.cn (.int .i64 40)],u1 21 .or [.tm 17,.tm 20],Zm 14 21] (ZC 14 (ZR [Zi 6 0,Zi 7 3] .ret) (ZR [Zm 23 8,Zq 24 .neq 23 0,Zm 25 24,Zg 26 25 false 1,u2 27 25 false (.call 52) [.tm 26,.cn (.fn (.func 53) [] [])],u1 28 .or [.tm 25,.tm 27],Zm 29 28,Zg 30 29 false 2,u2 31 29 false (.call 54) [.tm 30,.cn (.int .i64 10),.cn (.int .i64 1000)],u1 32 .or [.tm 29,.tm 31],Zm 22 32] (ZC 22 (ZR [Zi 6 0,Zi 7 2] .ret) .skip))))) (ZR [Zi 9 0] (.seq (ZR [Zm 33 1,Zl 34 33,Zi 35 0] (.block 1 (.loop (ZR [Zr 36 .lss 35 34] (.seq (ZC 36 .skip (.exit 1)) (.seq (.block 2 (ZR [Zx 37 4 33 35,Zt 38 4 37,u1 11 (.alloc [(.int .i64 0),(.int .i64 0),(.int .i64 0),(.int .i64 0)]) [],Zs 4 11 38] (.region [Zm 39 9,Zt 40 4 11,Zc 41 55 40,Zo 42 .add 39 41,Zm 9 42]))) (.region [Zp 43 35 1,Zm 35 43]))))))) (ZR [Zt 44 1 3,Zc 45 51 44,Zm 46 9,Zm 47 2,u1 48 (.call 56) [.tm 45,.tm 46,.tm 47],Zm 6 48,Zi 7 0] .ret))))))⟩
theorem YFQ:Ye YHk Tryz.f20=some v20:=by kernel_rfl
def EnC:Ctr:={ alias:=false,of:=fun l=>match l with
 | [.agg [.vs _ _ n sz get],.vs _ _ n' sz' get',.int .i64 per]=> .ex (List Iv) fun c=> .ex (List Plt) fun l=> .pre (lsP 2 enc2 n sz get c/\lsP 4 Y9 n' sz' get' l/\c.length<=1000000000000/\l.length<=1000000000000) (.fin (.tup [.int .i64 (enoF c l per).1,.int .i64 (enoF c l per).2]) [])
 |_=>noC}
theorem Yxc{c:List Iv}(h:chkT c=0):c.length<=24/\∀t∈c,toeB t=false:=by
 unfold chkT at h
 split at h
 ·cases h
 ·split at h
  ·cases h
  ·rename_i h1 h2
   refine⟨by omega,fun t ht=>?_⟩
   rw[YIp,YHP]at h2
   simpa using h2 t ht
theorem Ym8{c:List Iv}(h:∀t∈c,toeB t=false)(hl:c.length<=100):(0<=(Yae c).1/\(Yae c).1<=1000000000000)/\0<=(Yae c).2/\(Yae c).2<=1000000000000:=by
 have:=YiC (l:=c) (i:=c.length) (YHr _) h
 rw[Ycj (YHr _)]at this
 omega
theorem YwJ{l:List Plt}(h:∀t∈l,palB t=false)(hl:l.length<=100):0<=sumO l/\sumO l<=10000000000000:=by
 have:=YjN (l:=l) (i:=l.length) (YHr _) h
 rw[Ycj (YHr _)]at this
 omega
theorem YyT{α:Type}{l:List α}{F:α->Bool}(h:l.any F=false):∀p∈l,F p=false:=fun p hp=>by
 have:=YHP.1 h p hp
 simpa using this
def CH0:Env:={ ct:=fun n=>match n with|47=>some chkC|51=>some areaC|53=>some palC|83=>some toeC|86=>some oneCh|54=>some outCh|55=>some openC|175=>some forceC|56=>some cmpC|52=>some anyPC|48=>some shopC|50=>some chooseC|34=>some sclC|_=>none,fn:=fun _=>none,meth:=fun _ _=>none}
theorem Yt7:CH0.ct 47=some chkC:=rfl
theorem Yt8:CH0.ct 51=some areaC:=rfl
theorem Yua:CH0.ct 54=some outCh:=rfl
theorem Yub:CH0.ct 55=some openC:=rfl
theorem Yuc:CH0.ct 56=some cmpC:=rfl
theorem Yt9:CH0.ct 52=some anyPC:=rfl
theorem YCr:Yn YHk CH0:=by
 refine⟨fun f c h=>?_,fun f vf h=>?_,(fun _ _ _ h=>by cases h),by kernel_rfl,(fun _ h=>by cases h),(fun _ _ h=>by cases h)⟩
 ·simp only[CH0]at h
  split at h
  ·cases h;exact⟨Yxd,Tryz.f47,Tryz.func47,by kernel_rfl,by kernel_rfl⟩
  ·cases h;exact⟨Yq1,Tryz.f51,Tryz.func51,by kernel_rfl,by kernel_rfl⟩
  ·cases h;exact⟨YxC,Tryz.f53,Tryz.func53,by kernel_rfl,by kernel_rfl⟩
  ·cases h;exact⟨YxR,Tryz.f83,Tryz.func83,by kernel_rfl,by kernel_rfl⟩
  ·cases h;exact⟨YsP,Tryz.f86,Tryz.func86,by kernel_rfl,by kernel_rfl⟩
  ·cases h;exact⟨Ymg,Tryz.f54,Tryz.func54,by kernel_rfl,by kernel_rfl⟩
  ·cases h;exact⟨Yjv,Tryz.f55,Tryz.func55,by kernel_rfl,by kernel_rfl⟩
  ·cases h;exact⟨YnD,Tryz.f175,Tryz.func175,by kernel_rfl,by kernel_rfl⟩
  ·cases h;exact⟨Yem,Tryz.f56,Tryz.func56,by kernel_rfl,by kernel_rfl⟩
  ·cases h;exact⟨YqV,Tryz.f52,Tryz.func52,by kernel_rfl,by kernel_rfl⟩
  ·cases h;exact⟨Ytr,Tryz.f48,Tryz.func48,by kernel_rfl,by kernel_rfl⟩
  ·cases h;exact⟨Ykw,Tryz.f50,Tryz.func50,by kernel_rfl,by kernel_rfl⟩
  ·cases h;exact⟨Ytk,Tryz.f34,Tryz.func34,by kernel_rfl,by kernel_rfl⟩
  ·cases h
 ·cases h
theorem En_ok:EnC.ok YHk 20:=by
 refine Yb Tryz.func20 YFQ YCr 300 EnC fun args k h=>?_
 simp only[EnC]at h
 split at h
 ·rename_i t z n sz get t' z' n' sz' get' per
  obtain⟨c,l,⟨⟨rfl,rfl,hg⟩,⟨rfl,rfl,hg'⟩,hl,hl'⟩,h⟩:=h
  refine⟨[.agg [.vs t z c.length 2 (fun k=>enc2 (c.getD k default))],.vs t' z' l.length 4 (fun k=>Y9 (l.getD k default)),.int .i64 per],⟨by simpa [le,leL]using hg,by simpa [le,leL]using hg',by simp [le,leL],trivial⟩,?_⟩
  have h:k (.tup [.int .i64 (enoF c l per).1,.int .i64 (enoF c l per).2]) []:=h
  dsimp only[v20,Yt7,Yua,Yt9,chkC,outCh,anyPC,YlO,enc2,Y9,go_sem,reduceIte,YHf]
  simp only[Yc,YHf,YHh,reduceCtorEq,YHg]
  have e40:decide ((40:Int)<(l.length:Int))=decide (40<l.length):=by rw[decide_eq_decide];omega
  rw[e40]
  refine⟨c,⟨YD,by omega⟩,fun hc=>?_,fun hc=>⟨l,palB,fun _=>⟨YD,by omega,rfl,rfl,rfl⟩,fun hd=>?_,fun hd=>?_⟩⟩
  ·rw[enoF,if_pos hc]at h;exact Yej h
  ·rw[enoF,if_neg (by rw[hc];simp),if_pos hd]at h;exact Yej h
  ·rw[enoF,if_neg (by rw[hc];simp),if_neg (by rw[hd];simp)]at h
   rw[YHp,YHp,Bool.not_eq_false',decide_eq_true_eq,outN_f]at hd
   obtain⟨⟨hd1,hd2⟩,hd3⟩:=hd
   have hv:=YyT hd2
   obtain⟨hcl,hct⟩:=Yxc hd1
   have h24:l.length<=40:=by
    rw[YHp,decide_eq_false_iff_not,decide_eq_false_iff_not]at hc;omega
   refine Loop.keep [1,0,0,2,0,25,0] Nat (fun i=>[(9,.int .i64 (sumO (l.take i))),(35,.int .i64 i)]) (fun _=>[]) [] (fun i=>i<=l.length) (fun i=>l.length-i) ?_ ?_
   ·refine⟨0,YHK _,?_⟩
    dsimp only[go_sem,reduceIte,YHf]
    simp only[Ya] <;> simp [sumO]
   ·rintro i hi
    dsimp only[Yub,Yt8,Yuc,openC,areaC,cmpC,enc2,Y9,YHj,go_sem,reduceIte,YHf]
    simp only[Yc,YHf,YHh,reduceCtorEq,YHg,Yjy]
    refine⟨fun hlt=>?_,fun hge=>?_⟩
    ·have hi':i<l.length:=by omega
     have ho:=YaV (hv _ (Yh hi'))
     have hs:=YjN (l:=l) hi hv
     refine⟨⟨by omega,hlt⟩,hv _ (Yh hi'),i+1,by omega,by omega,?_⟩
     rw[YbH (x:=sumO _+_) (by omega) (by omega)]
     simp only[Y0 (i:=i) (n:=l.length) (by omega) (by omega),Ylx hi',Ya] <;> simp
    ·obtain rfl:i=l.length:=by omega
     rw[Ycj (YHr _)]
     have ha:=Ym8 hct (by omega)
     refine⟨c,⟨YD,by omega,hct⟩,⟨ha.1,ha.2,YwJ hv (by omega),hd3⟩,?_⟩
     exact Yej h
 ·exact h.1.elim
def okI(w:Wsh)(l:List Plt)(x:List Int)(i:Nat):Bool:=
 !(decide (x.getD i default<0) || decide ((l.length:Int)<=x.getD i default) || (decide (0<i)&&decide (x.getD i default<x.getD (i-1) default)))&& !decide (w.most<fh (l.getD (x.getD i default).toNat default) w.pr)
def okA(w:Wsh)(l:List Plt)(x:List Int):Bool:=(YIc x.length).all fun i=>okI w l x i
def chs(l:List Plt)(x:List Int):List Plt:=x.map fun i=>l.getD i.toNat default
def wtS(l:List Plt)(x:List Int)(pr:Int):Int:=(chs l x).foldl (fun s p=>s+fh p pr) 0
def chcF(a:Iv)(w:Wsh)(l:List Plt)(x:List Int):Int×Bool:=
 if(decide (x.length<1) || decide (2<x.length))=true then(0,false)else if okA w l x=true then(wtS l x w.pr,decide (cmpF a (sumO (chs l x)) w.per=1))else(0,false)
theorem Yf0{α β:Type}[Inhabited α][Inhabited β]{l:List α}{f:α->β}{i:Nat}(h:i<l.length):(l.map f).getD i default=f (l.getD i default):=by
 rw[YHo,YHo,List.getElem?_map,YH2 h];rfl
def v19:VF:=⟨54,[.tmp 6,.tmp 7],(ZR [u1 5 .box [.tm 2],u1 6 .mov [.cn .nil],Zi 7 0] (ZR [Zm 12 1,Zt 13 3 5,u1 14 (.build [.nil,(.int .i64 0),(.int .i64 0),(.int .i64 0)] [(0,1),(1,3)]) [.tm 12,.tm 13],u1 8 (.alloc [.nil,(.int .i64 0),(.int .i64 0),(.int .i64 0)]) [],Zs 4 8 14] (.seq (.block 0 (ZR [Zm 16 0,Zl 17 16,Zq 18 .gtr 17 61,Zm 19 18,Zg 20 19 false 1,u2 21 19 false .len [.tm 20],u2 22 19 false (.cmp .gtr) [.tm 21,.cn (.int .i64 40)],u1 23 .or [.tm 19,.tm 22],Zm 24 23,Zg 25 24 false 0,u2 26 24 false (.call 45) [.tm 25,.cn (.fn (.func 46) [] [])],u1 27 .or [.tm 24,.tm 26],Zm 15 27] (ZC 15 (ZR [u1 6 .mov [.cn .nil],Zi 7 3] .ret) (ZR [Zt 29 4 8,Zc 30 48 29,Zm 31 30,Zg 32 31 false 0,u2 33 31 false (.call 45) [.tm 32,.cn (.fn (.func 49) [] [])],u1 34 .or [.tm 31,.tm 33],Zm 28 34] (ZC 28 (ZR [u1 6 .mov [.cn .nil],Zi 7 2] .ret) .skip))))) (ZR [Zm 35 0,Zl 36 35,u1 37 (.make 1 24 [.nil]) [.tm 36,.tm 36],Zm 9 37] (.seq (ZR [Zm 38 0,Zl 39 38,Zi 40 0] (.block 1 (.loop (ZR [Zr 41 .lss 40 39] (.seq (ZC 41 .skip (.exit 1)) (.seq (.block 2 (ZR [Zm 42 40,Zx 43 1 38 40,Zt 44 1 43,u1 11 (.alloc [.nil]) [],Zm 10 42,Zs 1 11 44] (.draw [] [Zu 45 9,Zu 46 10,Zw 47 4 8,Zw 48 1 11,w1 49 (.call 51) [.tm 48],Zz 50 50 47 49,ZX 51 1 45 46,ZS 1 51 50]))) (.region [Zp 52 40 1,Zm 40 52]))))))) (ZR [Zm 53 9,Zm 6 53,Zi 7 0] .ret))))))⟩
theorem YFP:Ye YHk Tryz.f19=some v19:=by kernel_rfl
def v46:VF:=⟨6,[.tmp 2],(ZR [u1 1 .box [.tm 0],u1 2 .mov [.cn (.bool false)]] (ZR [Zt 3 1 1,Zc 4 47 3,Zq 5 .eql 4 3,Zm 2 5] .ret))⟩
theorem YGg:Ye YHk Tryz.f46=some v46:=by kernel_rfl
def v49:VF:=⟨6,[.tmp 2],(ZR [u1 1 .box [.tm 0],u1 2 .mov [.cn (.bool false)]] (ZR [Zt 3 1 1,Zc 4 47 3,Zq 5 .neq 4 0,Zm 2 5] .ret))⟩
theorem YGj:Ye YHk Tryz.f49=some v49:=by kernel_rfl
def v45:VF:=⟨9,[.tmp 4],(ZR [u1 4 .mov [.cn (.bool false)]] (ZR [Zm 5 0,Zm 6 1,Zd 7 81 5 6,Zq 8 .geq 7 0,Zm 4 8] .ret))⟩
theorem YGf:Ye YHk Tryz.f45=some v45:=by kernel_rfl
def v81:VF:=⟨19,[.tmp 4],(ZR [Zi 4 0] (.seq (ZR [Zm 6 0,Zl 7 6,Zi 8 0] (.block 0 (.loop (ZR [Zr 9 .lss 8 7] (.seq (ZC 9 .skip (.exit 0)) (.seq (.block 1 (ZR [Zm 10 8,Zm 5 10] (ZR [Zm 11 1,Zm 12 0,Zm 13 5,Zx 14 1 12 13,Zt 15 1 14,u1 16 .callv [.tm 11,.tm 15]] (ZC 16 (ZR [Zm 17 5,Zm 4 17] .ret) .skip)))) (.region [Zp 18 8 1,Zm 8 18]))))))) (ZR [Zi 4 (-1)] .ret)))⟩
theorem YGN:Ye YHk Tryz.f81=some v81:=by kernel_rfl
abbrev Chn:=Bool×List Iv
def encC(q:Chn):List SV:=[.vs false q.1 q.2.length 2 (fun k=>enc2 (q.2.getD k default))]
def isFh(m:Bool)(q:Chn):Bool:=if m then decide (chkT q.2=3)else !decide (chkT q.2=0)
def isC'(m:Bool):Ctr:={ alias:=false,of:=fun l=>match l with
 | [.agg [.vs _ _ n sz get]]=> .ex Chn fun q=> .pre (lsP 2 enc2 n sz get q.2/\q.2.length<=1000000000000) (.fin (.bool (isFh m q)) [])
 |_=>noC}
def isCt:Ctr:=isC' true
def isCf:Ctr:=isC' false
def PA0:Env:={ ct:=fun n=>match n with|47=>some chkC|_=>none,fn:=fun _=>none,meth:=fun _ _=>none}
theorem YmD:PA0.ct 47=some chkC:=rfl
theorem YwZ:Yn YHk PA0:=by
 refine⟨fun f c h=>?_,fun f vf h=>?_,(fun _ _ _ h=>by cases h),by kernel_rfl,(fun _ h=>by cases h),(fun _ _ h=>by cases h)⟩
 ·simp only[PA0]at h
  split at h
  ·cases h;exact⟨Yxd,Tryz.f47,Tryz.func47,by kernel_rfl,by kernel_rfl⟩
  ·cases h
 ·cases h
theorem YDU:isCt.ok YHk 46:=by
 refine Yb Tryz.func46 YGg YwZ 100 isCt fun args k h=>?_
 simp only[isCt,isCf,isC']at h
 split at h
 ·rename_i t z n sz get
  obtain⟨q,⟨⟨rfl,rfl,hg⟩,hl⟩,h⟩:=h
  refine⟨[.agg [.vs t z q.2.length 2 (fun k=>enc2 (q.2.getD k default))]],⟨by simpa [le,leL]using hg,trivial⟩,?_⟩
  dsimp only[v46,YmD,chkC,enc2,go_sem,reduceIte,YHf]
  simp only[Yc,YHf,YHh,reduceCtorEq,YHg]
  exact⟨q.2,⟨YD,hl⟩,Yi h⟩
 ·exact h.1.elim
theorem YDV:isCf.ok YHk 49:=by
 refine Yb Tryz.func49 YGj YwZ 100 isCf fun args k h=>?_
 simp only[isCt,isCf,isC']at h
 split at h
 ·rename_i t z n sz get
  obtain⟨q,⟨⟨rfl,rfl,hg⟩,hl⟩,h⟩:=h
  refine⟨[.agg [.vs t z q.2.length 2 (fun k=>enc2 (q.2.getD k default))]],⟨by simpa [le,leL]using hg,trivial⟩,?_⟩
  dsimp only[v49,YmD,chkC,enc2,go_sem,reduceIte,YHf]
  simp only[Yc,YHf,YHh,reduceCtorEq,YHg]
  exact⟨q.2,⟨YD,hl⟩,Yi h⟩
 ·exact h.1.elim
def predC(g:Nat)(cap:List SV)(F:Chn->Bool):Prop:=cap=[]/\((g=46/\F=isFh true)\/(g=49/\F=isFh false))
def anyCC:Ctr:={ alias:=false,of:=fun l=>match l with
 | [.vs _ _ n sz get,.fn (.func g) [] cap]=> .ex (List Chn) fun l=> .ex (Chn->Bool) fun F=> .pre (lsP 1 encC n sz get l/\l.length<=1000000000000/\(∀q∈l,q.2.length<=1000000000000)/\predC g cap F) (.fin (.bool (l.any F)) [])
 |_=>noC}
def PA1:Env:={ ct:=fun n=>match n with|46=>some isCt|49=>some isCf|_=>none,fn:=fun n=>match n with|81=>some v81|_=>none,meth:=fun _ _=>none}
theorem YmE:PA1.ct 46=some isCt:=rfl
theorem YmF:PA1.ct 49=some isCf:=rfl
theorem YmG:PA1.ct 81=none:=rfl
theorem YmH:PA1.fn 81=some v81:=rfl
theorem YCD:Yn YHk PA1:=by
 refine⟨fun f c h=>?_,fun f vf h=>?_,(fun _ _ _ h=>by cases h),by kernel_rfl,(fun _ h=>by cases h),(fun _ _ h=>by cases h)⟩
 ·simp only[PA1]at h
  split at h
  ·cases h;exact⟨YDU,Tryz.f46,Tryz.func46,by kernel_rfl,by kernel_rfl⟩
  ·cases h;exact⟨YDV,Tryz.f49,Tryz.func49,by kernel_rfl,by kernel_rfl⟩
  ·cases h
 ·simp only[PA1]at h
  split at h
  ·cases h;exact⟨Tryz.f81,Tryz.func81,YGN,Tryz.f81,Tryz.func81,by kernel_rfl,by kernel_rfl⟩
  ·cases h
theorem YyL:anyCC.ok YHk 45:=by
 refine Yb Tryz.func45 YGf YCD 100 anyCC fun args k h=>?_
 simp only[anyCC]at h
 split at h
 ·rename_i t z n sz get g cap
  obtain⟨l,F,⟨⟨rfl,rfl,hg⟩,hl,hin,rfl,hp⟩,h⟩:=h
  have h:k (.bool (l.any F)) []:=h
  rcases hp with⟨rfl,hF⟩ | ⟨rfl,hF⟩
  ·refine⟨[.vs t z l.length 1 (fun k=>encC (l.getD k default)),.fn (.func 46) [] []],⟨by simpa [le]using hg,by simp [YgS,bndL],trivial⟩,?_⟩
   dsimp only[v45,v81,YmG,YmH,encC,go_sem,reduceIte,YHf]
   simp only[Yc,YHf,YHh,reduceCtorEq,YHg]
   refine Loop.keep [0,0,5,0] Nat (fun i=>[(8,.int .i64 i)]) (fun _=>[]) [] (fun i=>i<=l.length/\∀j,j<i->F (l.getD j default)=false) (fun i=>l.length-i) ?_ ?_
   ·refine⟨0,⟨YHK _,fun j h=>by omega⟩,?_⟩
    dsimp only[go_sem,reduceIte,YHf]
    simp only[Ya]
    simp
   ·rintro i ⟨hi,ha⟩
    dsimp only[YmE,YmF,isCt,isCf,isC',encC,enc2,YHj,go_sem,reduceIte,YHf]
    simp only[Yc,YHf,YHh,reduceCtorEq,YHg]
    refine⟨fun hlt=>?_,fun hge=>?_⟩
    ·have hi':i<l.length:=by omega
     refine⟨⟨by omega,hlt⟩,l.getD i default,⟨YD,hin _ (Yh hi')⟩,fun hb=>?_,fun hb=>?_⟩
     ·rw[<-hF]at hb
      have e:l.any F=true:=YIt.2 ⟨_,Yh hi',hb⟩
      rw[decide_eq_true (show 0<=(i:Int)by omega)]
      exact Yi (by rw[e]at h;exact h)
     ·rw[<-hF]at hb
      refine⟨i+1,⟨by omega,fun j hj=>?_⟩,by omega,?_⟩
      ·rcases YHA j i with h'|h'
       ·exact ha j h'
       ·obtain rfl:j=i:=by omega
        exact hb
      ·simp only[Y0 (i:=i) (n:=l.length) (by omega) (by omega),Ya] <;> simp
    ·have e:l.any F=false:=YHP.2 fun x hx=>by
      obtain⟨j,hj,rfl⟩:=YQ hx
      rw[ha j (by omega)];simp
     exact Yi (by rw[e]at h;exact h)
  ·refine⟨[.vs t z l.length 1 (fun k=>encC (l.getD k default)),.fn (.func 49) [] []],⟨by simpa [le]using hg,by simp [YgS,bndL],trivial⟩,?_⟩
   dsimp only[v45,v81,YmG,YmH,encC,go_sem,reduceIte,YHf]
   simp only[Yc,YHf,YHh,reduceCtorEq,YHg]
   refine Loop.keep [0,0,5,0] Nat (fun i=>[(8,.int .i64 i)]) (fun _=>[]) [] (fun i=>i<=l.length/\∀j,j<i->F (l.getD j default)=false) (fun i=>l.length-i) ?_ ?_
   ·refine⟨0,⟨YHK _,fun j h=>by omega⟩,?_⟩
    dsimp only[go_sem,reduceIte,YHf]
    simp only[Ya]
    simp
   ·rintro i ⟨hi,ha⟩
    dsimp only[YmE,YmF,isCt,isCf,isC',encC,enc2,YHj,go_sem,reduceIte,YHf]
    simp only[Yc,YHf,YHh,reduceCtorEq,YHg]
    refine⟨fun hlt=>?_,fun hge=>?_⟩
    ·have hi':i<l.length:=by omega
     refine⟨⟨by omega,hlt⟩,l.getD i default,⟨YD,hin _ (Yh hi')⟩,fun hb=>?_,fun hb=>?_⟩
     ·rw[<-hF]at hb
      have e:l.any F=true:=YIt.2 ⟨_,Yh hi',hb⟩
      rw[decide_eq_true (show 0<=(i:Int)by omega)]
      exact Yi (by rw[e]at h;exact h)
     ·rw[<-hF]at hb
      refine⟨i+1,⟨by omega,fun j hj=>?_⟩,by omega,?_⟩
      ·rcases YHA j i with h'|h'
       ·exact ha j h'
       ·obtain rfl:j=i:=by omega
        exact hb
      ·simp only[Y0 (i:=i) (n:=l.length) (by omega) (by omega),Ya] <;> simp
    ·have e:l.any F=false:=YHP.2 fun x hx=>by
      obtain⟨j,hj,rfl⟩:=YQ hx
      rw[ha j (by omega)];simp
     exact Yi (by rw[e]at h;exact h)
 ·exact h.1.elim
def plnF(cs:List Chn)(l:List Plt)(w:Wsh):List (List Int)×Int:=
 if(decide (61<cs.length) || decide (40<l.length) || cs.any (isFh true))=true then([],3)else if(l.any palB|| wshB w|| cs.any (isFh false))=true then([],2)else(cs.map fun q=>Yaf (Yae q.2) w l,0)
def vsV(z:Bool)(p:List (List Int)):SV:= .vs true z p.length 1 (fun k=>[vsI (p.getD k default)])
def plnC:Ctr:={ alias:=false,of:=fun l=>match l with
 | [.vs _ _ n sz get,.vs _ _ n' sz' get',.agg [.int .i64 per,.int .i64 pr,.int .i64 most]]=> .ex (List Chn) fun cs=> .ex (List Plt) fun l=> .pre (lsP 1 encC n sz get cs/\lsP 4 Y9 n' sz' get' l/\cs.length<=1000000000000/\l.length<=1000000000000/\∀q∈cs,q.2.length<=1000000000000) (.all Bool fun z=> .fin (.tup [vsV z (plnF cs l ⟨per,pr,most⟩).1,.int .i64 (plnF cs l ⟨per,pr,most⟩).2]) [])
 |_=>noC}
theorem Ym5{k:SV->List HO->Prop}{al:Bool}{hp:List HO}{e:Int}(h:k (.tup [vsV true [],.int .i64 e]) []):Yz al k (.tup [.nil,.int .i64 e]) hp:=
 YE (show k _ []from h) (by simp [vsV,expo,view,YaS,le,leL]) (fun _=>by simp [vsV,Yt,Ys])
theorem YvV{P:Prop}[Decidable P](hP:P){a b c:List SV}{f:List SV->List SV}(h:leXL (f a) c):leXL (f (if P then a else b)) c:=by rw[if_pos hP];exact h
def PA2:Env:={ ct:=fun n=>match n with|51=>some areaC|48=>some shopC|50=>some chooseC|45=>some anyCC|_=>none,fn:=fun _=>none,meth:=fun _ _=>none}
theorem YmJ:PA2.ct 51=some areaC:=rfl
theorem YuL:PA2.ct 48=some shopC:=rfl
theorem YmI:PA2.ct 50=some chooseC:=rfl
theorem YuK:PA2.ct 45=some anyCC:=rfl
theorem YCE:Yn YHk PA2:=by
 refine⟨fun f c h=>?_,fun f vf h=>?_,(fun _ _ _ h=>by cases h),by kernel_rfl,(fun _ h=>by cases h),(fun _ _ h=>by cases h)⟩
 ·simp only[PA2]at h
  split at h
  ·cases h;exact⟨Yq1,Tryz.f51,Tryz.func51,by kernel_rfl,by kernel_rfl⟩
  ·cases h;exact⟨Ytr,Tryz.f48,Tryz.func48,by kernel_rfl,by kernel_rfl⟩
  ·cases h;exact⟨Ykw,Tryz.f50,Tryz.func50,by kernel_rfl,by kernel_rfl⟩
  ·cases h;exact⟨YyL,Tryz.f45,Tryz.func45,by kernel_rfl,by kernel_rfl⟩
  ·cases h
 ·cases h
theorem YAn:plnC.ok YHk 19:=by
 refine Yb Tryz.func19 YFP YCE 300 plnC fun args k h=>?_
 simp only[plnC]at h
 split at h
 ·rename_i t z n sz get t' z' n' sz' get' per pr most
  obtain⟨cs,l,⟨⟨rfl,rfl,hg⟩,⟨rfl,rfl,hg'⟩,hcl,hll,hin⟩,h⟩:=h
  refine⟨[.vs t z cs.length 1 (fun k=>encC (cs.getD k default)),.vs t' z' l.length 4 (fun k=>Y9 (l.getD k default)),.agg [.int .i64 per,.int .i64 pr,.int .i64 most]],⟨by simpa [le]using hg,by simpa [le]using hg',by simp [le,leL],trivial⟩,?_⟩
  have h:∀z,k (.tup [vsV z (plnF cs l ⟨per,pr,most⟩).1,.int .i64 (plnF cs l ⟨per,pr,most⟩).2]) []:=h
  have e61:decide ((61:Int)<(cs.length:Int))=decide (61<cs.length):=by rw[decide_eq_decide];omega
  have e40:decide ((40:Int)<(l.length:Int))=decide (40<l.length):=by rw[decide_eq_decide];omega
  dsimp only[v19,YmJ,YuL,YmI,YuK,anyCC,shopC,encC,Y9,enc2,YHj,go_sem,reduceIte,YHf]
  simp only[Yc,YHf,YHh,reduceCtorEq,YHg]
  refine⟨cs,isFh true,fun _=>⟨YD,hcl,hin,rfl,.inl ⟨rfl,rfl⟩⟩,fun hc=>?_,fun hc=>⟨l,⟨YD,hll⟩,cs,isFh false,fun _=>⟨YD,hcl,hin,rfl,.inr ⟨rfl,rfl⟩⟩,fun hd=>?_,fun hd=>⟨⟨by decide,by omega,by omega,?_⟩,?_⟩⟩⟩
  ·rw[e61,e40]at hc
   have h:=h true
   rw[plnF,if_pos hc]at h
   exact Ym5 h
  ·rw[e61,e40]at hc
   have h:=h true
   rw[plnF,if_neg (by rw[hc];simp),if_pos hd]at h
   exact Ym5 h
  ·rw[YHp,YHp,decide_eq_false_iff_not]at hc
   unfold Y3;omega
  ·rw[e61,e40]at hc
   have h:=h false
   rw[plnF,if_neg (by rw[hc];simp),if_neg (by rw[hd];simp)]at h
   rw[YHp,YHp,decide_eq_false_iff_not,decide_eq_false_iff_not]at hc
   rw[YHp,YHp]at hd
   refine Loop.keep [8,0,28,0] Nat (fun i=>[(40,.int .i64 i)]) (fun i=>[(2,.own false 1 cs.length (fun k=>if k<i then [vsI (Yaf (Yae (cs.getD k default).2) ⟨per,pr,most⟩ l)]else [.nil]))]) [] (fun i=>i<=cs.length) (fun i=>cs.length-i) ?_ ?_
   ·refine⟨0,YHK _,?_⟩
    dsimp only[go_sem,reduceIte,YHf]
    simp only[Ya] <;> simp
    exact fun _ _=>⟨⟨rfl,trivial⟩,trivial⟩
   ·rintro i hi
    dsimp only[YmJ,YmI,areaC,chooseC,encC,Y9,enc2,vsI,YHj,go_sem,reduceIte,YHf]
    simp only[Yc,YHf,YHh,reduceCtorEq,YHg]
    refine⟨fun hlt=>?_,fun hge=>?_⟩
    ·have hi':i<cs.length:=by omega
     have hc0:chkT (cs.getD i default).2=0:=by
      have:=YyT hd.2 _ (Yh hi')
      unfold isFh at this
      simpa using this
     obtain⟨hc1,hc2⟩:=Yxc hc0
     have ha:=Ym8 hc2 (by omega)
     refine⟨⟨by omega,hlt⟩,(cs.getD i default).2,⟨YD,by omega,hc2⟩,l,⟨YD,by omega,YyT hd.1.1,hd.1.2,ha.1,ha.2⟩,⟨by omega,hlt⟩,hi',i+1,by omega,by omega,?_⟩
     simp only[Y0 (i:=i) (n:=cs.length) (by omega) (by omega),Ya]
     refine⟨by simp,fun k hk=>?_⟩
     by_cases hki:k=i
     ·subst hki
      rw[if_pos rfl,if_neg (by omega),if_pos (by omega)]
      exact⟨YC _ trivial,trivial⟩
     ·rw[if_neg hki]
      rcases YHA k i with h'|h'
      ·rw[if_pos h',if_pos (by omega)]
       exact⟨YC _ trivial,trivial⟩
      ·rw[if_neg (by omega),if_neg (by omega)]
       exact⟨YC _ trivial,trivial⟩
    ·obtain rfl:i=cs.length:=by omega
     refine YE (show k _ []from h) ?_ (fun _=>by simp [vsV,vsI,enc1,Yt,Ys])
     simp only[vsV,expo,view,YaS,getH]
     refine⟨⟨fun h=>h,rfl,by simp,rfl,fun j hj=>?_⟩,⟨rfl,rfl⟩,trivial⟩
     refine YvV (f:=viewN true _ 2) (show Ybu 0 j<cs.length from hj) ?_
     have e:(cs.map fun q=>Yaf (Yae q.2) ⟨per,pr,most⟩ l).getD j default=Yaf (Yae (cs.getD j default).2) ⟨per,pr,most⟩ l:=Yf0 hj
     show leXL _ [vsI ((cs.map fun q=>Yaf (Yae q.2) ⟨per,pr,most⟩ l).getD j default)]
     rw[e]
     simp [Ybu,viewN,YaS,view,vsI,enc1,leXL,leX,andT]
 ·exact h.1.elim
def isC(a:Iv)(w:Wsh)(l:List Plt)(x:List Int):Prop:=(chcF a w l x).2=true
def YiG(x y:List Int×Int):Prop:=x.1.length<y.1.length\/x.1.length=y.1.length/\(x.2<y.2\/x.2=y.2/\(x.1=y.1\/∃i,i<x.1.length/\(∀j,j<i->x.1.getD j default=y.1.getD j default)/\x.1.getD i default<y.1.getD i default))
theorem chc1{a:Iv}{w:Wsh}{l:List Plt}{i:Int}:chcF a w l [i]=(if(0<=i/\i<l.length)/\fh (l.getD i.toNat default) w.pr<=w.most then(fh (l.getD i.toNat default) w.pr,decide (cmpF a (Ycb (l.getD i.toNat default)) w.per=1))else(0,false)):=by
 have e1:okA w l [i]=(decide ((0<=i/\i<l.length)/\fh (l.getD i.toNat default) w.pr<=w.most)):=by
  rw[Bool.eq_iff_iff,decide_eq_true_eq]
  simp [okA,okI,YIc,YIc.loop]
 have e2:chs l [i]=[l.getD i.toNat default]:=rfl
 unfold chcF
 rw[if_neg (by simp),e1,e2]
 simp [wtS,chs,sumO]
theorem chc2{a:Iv}{w:Wsh}{l:List Plt}{i j:Int}:chcF a w l [i,j]=(if(0<=i/\i<=j/\j<l.length)/\fh (l.getD i.toNat default) w.pr<=w.most/\fh (l.getD j.toNat default) w.pr<=w.most then(fh (l.getD i.toNat default) w.pr+fh (l.getD j.toNat default) w.pr,decide (cmpF a (Ycb (l.getD i.toNat default)+Ycb (l.getD j.toNat default)) w.per=1))else(0,false)):=by
 have e1:okA w l [i,j]=(decide ((0<=i/\i<=j/\j<l.length)/\fh (l.getD i.toNat default) w.pr<=w.most/\fh (l.getD j.toNat default) w.pr<=w.most)):=by
  rw[Bool.eq_iff_iff,decide_eq_true_eq]
  simp [okA,okI,YIc,YIc.loop]
  omega
 have e2:chs l [i,j]=[l.getD i.toNat default,l.getD j.toNat default]:=rfl
 unfold chcF
 rw[if_neg (by simp),e1,e2]
 simp [wtS,chs,sumO]
theorem Ygt{a:Iv}{w:Wsh}{l:List Plt}{x:List Int}(h:(chcF a w l x).2=true):x.length=1\/x.length=2:=by
 unfold chcF at h
 split at h
 ·cases h
 ·rename_i hn
  rw[YHS,decide_eq_true_eq,decide_eq_true_eq]at hn
  omega
structure Inv (a:Iv) (w:Wsh) (l:List Plt) (b:Bst) (P:List Int->Prop):Prop where
 nil:b.1=[]->b.2=0/\∀x,P x->¬isC a w l x
 some:b.1≠ []->P b.1/\chcF a w l b.1=(b.2,true)/\∀x,P x->isC a w l x->YiG b (x,(chcF a w l x).1)
theorem YlR{x:List Int×Int}:YiG x x:= .inr ⟨rfl,.inr ⟨rfl,.inl rfl⟩⟩
theorem YnN{a:Iv}{w:Wsh}{l:List Plt}{b:Bst}{P:List Int->Prop}{c:Cnd}(h:Inv a w l b P)(hlen:∀x,P x->x.length=c.ids.length)(hne:c.ids≠ [])
 (hlt:∀x,P x->x=c.ids\/∃i,i<x.length/\(∀j,j<i->x.getD j default=c.ids.getD j default)/\x.getD i default<c.ids.getD i default)
 (hc:(isC a w l c.ids↔¬(w.most<c.hv\/cmpF a c.op w.per≠1))/\(isC a w l c.ids->chcF a w l c.ids=(c.wt,true))):
 Inv a w l (tryF a w b c) (fun x=>P x\/x=c.ids):=by
 unfold tryF
 split
 ·rename_i hno
  have hn:¬isC a w l c.ids:=fun hi=>hc.1.1 hi hno
  refine⟨fun hb=>⟨(h.nil hb).1,?_⟩,fun hb=>⟨.inl (h.some hb).1,(h.some hb).2.1,?_⟩⟩
  ·rintro x (hx|rfl)
   ·exact(h.nil hb).2 x hx
   ·exact hn
  ·rintro x (hx|rfl) hi
   ·exact(h.some hb).2.2 x hx hi
   ·exact absurd hi hn
 ·rename_i hyes
  have hi:=hc.1.2 hyes
  have hv:=hc.2 hi
  split
  ·rename_i hr
   refine⟨fun hb=>absurd hb hne,fun _=>⟨.inr rfl,hv,?_⟩⟩
   rintro x (hx|rfl) hxi
   ·rcases hr with hb|hw
    ·exact absurd hxi ((h.nil hb).2 x hx)
    ·by_cases hb:b.1=[]
     ·exact absurd hxi ((h.nil hb).2 x hx)
     ·have:=(h.some hb).2.2 x hx hxi
      have hl1:=hlen _ (h.some hb).1
      have hl2:=hlen _ hx
      refine .inr ⟨by show c.ids.length=x.length;omega,.inl ?_⟩
      show c.wt<(chcF a w l x).1
      rcases this with h| ⟨_,h| ⟨h,_⟩⟩
      ·dsimp only at h;omega
      ·dsimp only at h;omega
      ·dsimp only at h;omega
   ·rw[hv];exact YlR
  ·rename_i hr
   have hb:b.1≠ []:=fun h=>hr (.inl h)
   refine⟨fun h=>absurd h hb,fun _=>⟨.inl (h.some hb).1,(h.some hb).2.1,?_⟩⟩
   rintro x (hx|rfl) hxi
   ·exact(h.some hb).2.2 x hx hxi
   ·rw[hv]
    have hl1:=hlen _ (h.some hb).1
    refine .inr ⟨hl1,?_⟩
    show b.2<c.wt\/b.2=c.wt/\_
    rcases Int.lt_or_le b.2 c.wt with h1|h1
    ·exact .inl h1
    ·refine .inr ⟨(by have:¬c.wt<b.2:=fun h=>hr (.inr h);omega),?_⟩
     exact hlt _ (h.some hb).1
theorem Inv.cong{a:Iv}{w:Wsh}{l:List Plt}{b:Bst}{P Q:List Int->Prop}(h:Inv a w l b P)(hpq:∀x,P x↔Q x):Inv a w l b Q:=
 ⟨fun hb=>⟨(h.nil hb).1,fun x hx=>(h.nil hb).2 x ((hpq x).2 hx)⟩,fun hb=>⟨(hpq _).1 (h.some hb).1,(h.some hb).2.1,fun x hx=>(h.some hb).2.2 x ((hpq x).2 hx)⟩⟩
def Pn1(i:Nat)(x:List Int):Prop:=∃k:Nat,k<i/\x=[(k:Int)]
theorem Yf5{a:Iv}{w:Wsh}{l:List Plt}:∀{i:Nat},i<=l.length->Inv a w l (Yd8 a w l i) (Pn1 i)
 |0,_=>⟨fun _=>⟨rfl,fun x ⟨k,hk,_⟩=>by omega⟩,fun h=>absurd rfl h⟩
 |i+1,hi=>by
  have ih:=Yf5 (a:=a) (w:=w) (l:=l) (i:=i) (by omega)
  have hs:=YnN (c:=YlV w l i) ih (fun x ⟨k,_,hx⟩=>by rw[hx];rfl) (by simp [YlV]) (fun x ⟨k,hk,hx⟩=> .inr ⟨0,by rw[hx];simp,fun j hj=>by omega,by rw[hx];simp [YlV];exact_mod_cast hk⟩) ?_
  ·refine hs.cong fun x=>⟨?_,?_⟩
   ·rintro(⟨k,hk,rfl⟩ |rfl)
    ·exact⟨k,by omega,rfl⟩
    ·exact⟨i,by omega,rfl⟩
   ·rintro⟨k,hk,rfl⟩
    rcases YHA k i with h|h
    ·exact .inl ⟨k,h,rfl⟩
    ·obtain rfl:k=i:=by omega
     exact .inr rfl
  ·unfold isC YlV
   dsimp only
   rw[chc1]
   have e:((i:Int)).toNat=i:=YHj i
   rw[e]
   generalize fh (l.getD i default) w.pr=f
   generalize cmpF a (Ycb (l.getD i default)) w.per=g
   by_cases hm:f<=w.most
   ·rw[if_pos ⟨⟨by omega,by omega⟩,hm⟩]
    by_cases hcm:g=1
    ·simp [hcm];omega
    ·simp [hcm]
   ·rw[if_neg (fun h=>hm h.2)]
    simp;omega
def Pn2(i d:Nat)(n:Nat)(x:List Int):Prop:=∃k m:Nat,k<=m/\m<n/\(k<i\/k=i/\m<i+d)/\x=[(k:Int),(m:Int)]
theorem Ytd{a:Iv}{w:Wsh}{l:List Plt}{i:Nat}{b:Bst}(hi:i<l.length)(hb:Inv a w l b (Pn2 i 0 l.length)):∀{d:Nat},d<=l.length-i->Inv a w l (row2 a w l i b d) (Pn2 i d l.length)
 |0,_=>hb
 |d+1,hd=>by
  have ih:=Ytd hi hb (d:=d) (by omega)
  have hs:=YnN (c:=YlW w l i (i+d)) ih (fun x ⟨k,m,_,_,_,hx⟩=>by rw[hx];rfl) (by simp [YlW]) ?_ ?_
  ·refine hs.cong fun x=>⟨?_,?_⟩
   ·rintro(⟨k,m,h1,h2,h3,rfl⟩ |rfl)
    ·exact⟨k,m,h1,h2,by omega,rfl⟩
    ·exact⟨i,i+d,by omega,by omega,by omega,rfl⟩
   ·rintro⟨k,m,h1,h2,h3,rfl⟩
    by_cases h:k=i/\m=i+d
    ·obtain⟨rfl,rfl⟩:=h
     exact .inr rfl
    ·exact .inl ⟨k,m,h1,h2,by omega,rfl⟩
  ·rintro x ⟨k,m,h1,h2,h3,rfl⟩
   rcases h3 with h3| ⟨rfl,h3⟩
   ·exact .inr ⟨0,by simp,fun j hj=>by omega,by simp [YlW];exact_mod_cast h3⟩
   ·refine .inr ⟨1,by simp,fun j hj=>?_,?_⟩
    ·obtain rfl:j=0:=by omega
     rfl
    ·show(m:Int)<((k+d:Nat):Int)
     omega
  ·unfold isC YlW
   dsimp only
   rw[chc2]
   have e:((i:Int)).toNat=i:=YHj i
   have e':(((i+d:Nat):Int)).toNat=i+d:=YHj _
   rw[e,e']
   generalize fh (l.getD i default) w.pr=f
   generalize fh (l.getD (i+d) default) w.pr=f'
   generalize cmpF a (Ycb (l.getD i default)+Ycb (l.getD (i+d) default)) w.per=g
   by_cases hm:f<=w.most/\f'<=w.most
   ·rw[if_pos ⟨⟨by omega,by omega,by omega⟩,hm⟩]
    by_cases hcm:g=1
    ·simp [hcm];omega
    ·simp [hcm]
   ·rw[if_neg (fun h=>hm h.2)]
    simp;omega
theorem YjR{a:Iv}{w:Wsh}{l:List Plt}{b:Bst}(hb:Inv a w l b (fun _=>False)):∀{i:Nat},i<=l.length->Inv a w l (twos a w l b i) (Pn2 i 0 l.length)
 |0,_=>hb.cong fun x=>⟨False.elim,fun⟨k,m,_,_,h,_⟩=>by omega⟩
 |i+1,hi=>by
  have ih:=YjR hb (i:=i) (by omega)
  have:=Ytd (by omega:i<l.length) ih (d:=l.length-i) (YHr _)
  refine this.cong fun x=>⟨?_,?_⟩
  ·rintro⟨k,m,h1,h2,h3,rfl⟩
   exact⟨k,m,h1,h2,by omega,rfl⟩
  ·rintro⟨k,m,h1,h2,h3,rfl⟩
   exact⟨k,m,h1,h2,by omega,rfl⟩
theorem YAf{a:Iv}{w:Wsh}{l:List Plt}{x:List Int}(h:isC a w l x)(hl:x.length=1):Pn1 l.length x:=by
 obtain⟨i,rfl⟩:=List.length_eq_one_iff.1 hl
 unfold isC at h
 rw[chc1]at h
 split at h
 ·rename_i hh
  exact⟨i.toNat,by omega,by rw[Int.toNat_of_nonneg hh.1.1]⟩
 ·cases h
theorem YFC{a:Iv}{w:Wsh}{l:List Plt}{x:List Int}(h:isC a w l x)(hl:x.length=2):Pn2 l.length 0 l.length x:=by
 obtain⟨i,j,rfl⟩:∃i j,x=[i,j]:=by
  match x,hl with
  | [i,j],_=>exact⟨i,j,rfl⟩
 unfold isC at h
 rw[chc2]at h
 split at h
 ·rename_i hh
  exact⟨i.toNat,j.toNat,by omega,by omega,by omega,by rw[Int.toNat_of_nonneg hh.1.1,Int.toNat_of_nonneg (by omega)]⟩
 ·cases h
theorem Yq9{a:Iv}{w:Wsh}{l:List Plt}(h:Yaf a w l=[])(x:List Int):¬isC a w l x:=by
 intro hx
 unfold Yaf at h
 split at h
 ·rename_i hn;exact hn h
 ·rename_i hn
  have hn:(Yd8 a w l l.length).1=[]:=Classical.not_not.1 hn
  have h1:=(Yf5 (a:=a) (w:=w) (YHr l.length)).nil hn
  have hb:Inv a w l (Yd8 a w l l.length) (fun _=>False):=⟨fun _=>⟨h1.1,fun _ h=>h.elim⟩,fun h=>absurd hn h⟩
  have h2:=(YjR hb (YHr l.length)).nil h
  rcases Ygt hx with hl|hl
  ·exact h1.2 x (YAf hx hl) hx
  ·exact h2.2 x (YFC hx hl) hx
theorem Ygo{a:Iv}{w:Wsh}{l:List Plt}(h:Yaf a w l≠ []):∃v,chcF a w l (Yaf a w l)=(v,true)/\∀x,isC a w l x->YiG (Yaf a w l,v) (x,(chcF a w l x).1):=by
 unfold Yaf at h⊢
 split at h
 ·rename_i hn
  rw[if_pos hn]
  obtain⟨⟨k,hk,hb⟩,h2,h3⟩:=(Yf5 (a:=a) (w:=w) (YHr l.length)).some hn
  refine⟨_,h2,fun x hx=>?_⟩
  rcases Ygt hx with hl|hl
  ·exact h3 x (YAf hx hl) hx
  ·refine .inl ?_
   dsimp only
   rw[hb,hl];simp
 ·rename_i hn
  rw[if_neg hn]
  have hn:(Yd8 a w l l.length).1=[]:=Classical.not_not.1 hn
  have h1:=(Yf5 (a:=a) (w:=w) (YHr l.length)).nil hn
  have hb:Inv a w l (Yd8 a w l l.length) (fun _=>False):=⟨fun _=>⟨h1.1,fun _ h=>h.elim⟩,fun h=>absurd hn h⟩
  obtain⟨_,h2,h3⟩:=(YjR hb (YHr l.length)).some h
  refine⟨_,h2,fun x hx=>?_⟩
  rcases Ygt hx with hl|hl
  ·exact absurd hx (h1.2 x (YAf hx hl))
  ·exact h3 x (YFC hx hl) hx
theorem cmp_one{a:Iv}{o per:Int}:cmpF a o per=1↔per*a.2<=100*o:=by
 unfold cmpF
 split
 ·simp [*]
 ·split <;> simp [*]
theorem YvN{a a':Iv}{w w':Wsh}{l:List Plt}{x:List Int}(h:isC a w l x)(hp:w'.pr=w.pr)(hm:w.most<=w'.most)(ha:w'.per*a'.2<=w.per*a.2):isC a' w' l x:=by
 have hlen:=Ygt h
 unfold isC at*
 rcases hlen with hl|hl
 ·obtain⟨i,rfl⟩:=List.length_eq_one_iff.1 hl
  rw[chc1]at h⊢
  split at h
  ·rename_i hh
   rw[hp,if_pos ⟨hh.1,Int.le_trans hh.2 hm⟩]
   simp only[decide_eq_true_eq,cmp_one]at h⊢
   omega
  ·cases h
 ·obtain⟨i,j,rfl⟩:∃i j,x=[i,j]:=by
   match x,hl with
   | [i,j],_=>exact⟨i,j,rfl⟩
  rw[chc2]at h⊢
  split at h
  ·rename_i hh
   rw[hp,if_pos ⟨hh.1,Int.le_trans hh.2.1 hm,Int.le_trans hh.2.2 hm⟩]
   simp only[decide_eq_true_eq,cmp_one]at h⊢
   omega
  ·cases h
theorem Yq8{a a':Iv}{w w':Wsh}{l:List Plt}(h:Yaf a w l≠ [])(hp:w'.pr=w.pr)(hm:w.most<=w'.most)(ha:w'.per*a'.2<=w.per*a.2):Yaf a' w' l≠ []/\(Yaf a' w' l).length<=(Yaf a w l).length:=by
 obtain⟨v,hv,_⟩:=Ygo h
 have hc:isC a w l (Yaf a w l):=by unfold isC;rw[hv]
 have hc':=YvN hc hp hm ha
 have hne:Yaf a' w' l≠ []:=fun he=>Yq9 he _ hc'
 refine⟨hne,?_⟩
 obtain⟨v',_,hv'⟩:=Ygo hne
 rcases hv' _ hc' with hlt| ⟨he,_⟩
 ·exact Nat.le_of_lt hlt
 ·exact Nat.le_of_eq he
set_option maxHeartbeats 8000000
def encU(x:Int):List SV:=[.int .u32 x]
structure Blt where
 s:Scl
 lo:Int
 hi:Int
 L:List Int
 p:Pla
 b:Brd
 P:List Plt
 w:Wsh
 q:Int
 f1:Bool
 g1:Bool
 f2:Bool
 g2:Bool
 f3:Bool
 g3:Bool
 f4:Bool
 g4:Bool
def bltC(X:Blt):List SV:=[.int .i64 X.s.d,.int .i64 X.s.c,.vs X.f1 X.g1 X.s.bs.length 2 (fun k=>enc2 (X.s.bs.getD k default)),.int .i64 X.s.mn,.int .i64 X.s.md,.int .i64 X.s.cn,.int .i64 X.s.cd,
 .int .i64 X.lo,.int .i64 X.hi,.vs X.f2 X.g2 X.L.length 1 (fun k=>encU (X.L.getD k default)),.int .i64 X.p.w,.int .i64 X.p.h,.int .i64 X.p.k,
 .int .i64 X.b.w,.int .i64 X.b.d,.int .i64 X.b.c,.int .i64 X.b.a,.int .i64 X.b.s,.vs X.f3 X.g3 X.b.wk.length 2 (fun k=>encT (X.b.wk.getD k default)),
 .vs X.f4 X.g4 X.P.length 4 (fun k=>Y9 (X.P.getD k default)),.int .i64 X.w.per,.int .i64 X.w.pr,.int .i64 X.w.most,.int .u8 X.q]
def Blt.ok(X:Blt):Prop:=X.s.bs.length<=9223372036854775807/\X.L.length<=9223372036854775807/\X.b.wk.length<=9223372036854775807/\X.P.length<=9223372036854775807/\(∀k,k<X.L.length->0<=X.L.getD k default/\X.L.getD k default<=4294967295)/\0<=X.q/\X.q<=255
def lenB(X:Blt)(i:Nat):Int:=1000+X.L.getD (i%X.L.length) default%11999001
theorem YnP(X:Blt)(i:Nat):1000<=lenB X i/\lenB X i<=12000000:=by unfold lenB;omega
def v13:VF:=⟨17,[.tmp 4],(ZR [u1 2 .box [.tm 0],Zi 4 0] (.seq (.draw [] [Zy 5 9 2,Zv 6 1 5,Zu 7 1,Zy 8 9 2,Zv 9 1 8,w1 10 .len [.tm 9],w1 11 .rem [.tm 7,.tm 10],ZX 12 1 6 11,Zv 13 1 12,w1 14 (.conv .i64) [.tm 13],w1 15 .rem [.tm 14,.cn (.int .i64 11999001)],w1 16 (.ari .add) [.cn (.int .i64 1000),.tm 15],Zu 4 16]) .ret))⟩
theorem YFJ:Ye YHk Tryz.f13=some v13:=by kernel_rfl
def lenBC:Ctr:={ alias:=false,of:=fun l=>match l with
 | [.agg cs,.int .i64 j]=> .ex Blt fun X=> .ex Nat fun i=> .pre (cs=bltC X/\X.ok/\0<X.L.length/\j=(i:Int)/\i<=1000) (.fin (.int .i64 (lenB X i)) [])
 |_=>noC}
def TB2:Env:={ ct:=fun _=>none,fn:=fun _=>none,meth:=fun _ _=>none}
theorem YC4:Yn YHk TB2:=by
 refine⟨fun f c h=>?_,fun f vf h=>?_,(fun _ _ _ h=>by cases h),by kernel_rfl,(fun _ h=>by cases h),(fun _ _ h=>by cases h)⟩
 ·cases h
 ·cases h
theorem Yxt:lenBC.ok YHk 13:=by
 refine Yb Tryz.func13 YFJ YC4 300 lenBC fun args k h=>?_
 simp only[lenBC]at h
 split at h
 ·rename_i cs j
  obtain⟨X,i,⟨rfl,⟨o1,o2,o3,o4,o5,o6⟩,hL,rfl,hi⟩,h⟩:=h
  have h:k (.int .i64 (lenB X i)) []:=h
  refine⟨[.agg (bltC X),.int .i64 (i:Int)],⟨Yx _ (by simp [bltC,bndL,bnd]),⟨rfl,rfl⟩,trivial⟩,?_⟩
  dsimp only[v13,bltC,encU,YHj,go_sem,reduceIte,YHf]
  simp only[Yc,YHf,YHh,reduceCtorEq,YHg]
  have hm:i%X.L.length<X.L.length:=YIk _ hL
  have et:((i:Nat):Int).tmod (X.L.length:Int)=((i%X.L.length:Nat):Int):=by rw[Int.tmod_eq_emod_of_nonneg (by omega),Int.natCast_emod]
  obtain⟨v0,v1⟩:=o5 _ hm
  refine⟨by omega,by rw[et];omega,by decide,?_⟩
  rw[et,YHj,YHi (X.L.getD (i%X.L.length) default) (by omega),Int.tmod_eq_emod_of_nonneg v0,YHi _ (by omega)]
  exact Yj h
 ·exact h.1.elim
theorem YwO{m k Q D N W:Nat}(hm:1<=m)(hD:1<=D)(hW:W<Q)(h:(2^N*k^D)^Q<=(m^D)^Q*2^(W*D)):k<2*m:=by
 refine Nat.lt_of_not_le fun hk=>?_
 have h1:(2*m)^D<=2^N*k^D:=YHC (YHN hk D) (Nat.le_mul_of_pos_left _ (YIv (by decide)))
 have h2:=YHC (YHN h1 Q) h
 rw[YIl,YIl,YHq]at h2
 have h3:=Nat.le_of_mul_le_mul_left h2 (YIv (YIv hm))
 rw[<-YHQ]at h3
 have h4:=(Nat.pow_le_pow_iff_right (by decide)).1 h3
 have h5:Q*D<=W*D:=by rw[YHq Q D];exact h4
 exact absurd (Nat.le_of_mul_le_mul_right h5 hD) (by omega)
theorem YlY{s:Scl}(hs:chkL s=0){note:Int}(hn:0<=note/\note<=139):(diaS s note).2<=1000000:=by
 have hr:=Yjt hs
 have hb:=Yi4 hs hn
 obtain⟨K,_,g2,g3,_,_⟩:=YeM (m:=(s.d-s.c).toNat) (num:=(expF s.bs note).1.toNat) (den:=(expF s.bs note).2.toNat) (by omega) (by omega) (by omega)
 rw[Int.toNat_of_nonneg (by omega),Int.toNat_of_nonneg (by omega),Int.toNat_of_nonneg (by omega)]at g2
 have hK:K<=2*(s.d-s.c).toNat-1:=by
  by_cases h1:1<=K
  ·have:=YwO (m:=(s.d-s.c).toNat) (by omega) (by omega) (show 2^55<QJ by rw[Yw2];decide) (g3 h1)
   omega
  ·omega
 unfold diaS
 simp only
 rw[g2]
 split <;> omega
def diaM(X:Blt)(i:Nat):Int:=max (diaS X.s (X.lo+i)).2 1000
def cutB(X:Blt)(i:Nat):Cut:=⟨(piF (diaM X i,diaM X i)).1.2+0,lenB X i⟩
def rngB(X:Blt):Nat:=(X.hi-X.lo+1).toNat
def Blt.good(X:Blt):Prop:=X.ok/\0<X.L.length/\askS X.s X.lo X.hi=0/\X.hi-X.lo<=29/\X.P.length<=40
theorem Yfo{X:Blt}(h:X.good):chkL X.s=0/\(0<=X.lo/\X.hi<=139/\X.lo<=X.hi)/\Yeu X.s<=X.lo/\rngB X<=30/\(rngB X:Int)=X.hi-X.lo+1:=by
 obtain⟨_,_,h1,h2,_⟩:=h
 obtain⟨a1,a2,a3,a4⟩:=YyX h1
 have:=Yev a1
 unfold rngB
 exact⟨a1,by omega,a2.1,by omega,by omega⟩
theorem Yeo{X:Blt}(h:X.good){i:Nat}(hi:i<rngB X):(1000<=diaM X i/\diaM X i<=1000000)/\0<=(diaS X.s (X.lo+i)).1/\(diaS X.s (X.lo+i)).1<=(diaS X.s (X.lo+i)).2/\(diaS X.s (X.lo+i)).2<=diaM X i:=by
 obtain⟨h1,h2,h3,h4,h5⟩:=Yfo h
 have a:=YlY h1 (note:=X.lo+i) (by omega)
 have b:=YdZ h1 (note:=X.lo+i) (by omega)
 unfold diaM
 omega
theorem pi_d{D:Int}(h:0<=D/\D<=1000000):(piF (D,D)).1.2= -((-(D*3141592653589793239))/1000000000000000000):=by
 rw[pi_v (a:=(D,D)) h.1 (YIs _) (by show D<=3000000;omega)]
theorem Yy2{X:Blt}(h:X.good){i:Nat}(hi:i<rngB X):bdyF (diaM X i) (lenB X i) 0=(cutB X i,0):=by
 have a:=(Yeo h hi).1
 have b:=YnP X i
 unfold bdyF outS
 rw[if_neg (by simp only[YHS,decide_eq_true_eq];omega)]
 rfl
theorem Yzh{X:Blt}(h:X.good){i:Nat}(hi:i<rngB X):(0<=(cutB X i).w/\(cutB X i).w<=4000000)/\1000<=(cutB X i).h/\(cutB X i).h<=12000000:=by
 have a:=(Yeo h hi).1
 have b:=YnP X i
 unfold cutB
 simp only
 rw[pi_d (by omega)]
 omega
theorem Yz9{X:Blt}(h:X.good){i:Nat}(hi:i<rngB X):mouS X.s (X.lo+i)=(widS X.s (X.lo+i),(cutS X.s (X.lo+i)).1,0)/\(0<=(widS X.s (X.lo+i)).1/\(widS X.s (X.lo+i)).1<=200000000)/\(1<=X.s.mn/\X.s.mn<=20)/\(1<=X.s.md/\X.s.md<=20)/\
 (widS X.s (X.lo+i)).1*X.s.md<=(cutB X i).w*X.s.mn:=by
 obtain⟨h1,h2,h3,h4,h5⟩:=Yfo h
 obtain⟨b1,b2,b3,b4⟩:=Yeo h hi
 have hn:0<=X.lo+i/\X.lo+i<=139:=by omega
 obtain⟨e,w0,w1,w2⟩:=YG9 h1 hn
 obtain⟨p1,p2,_,_⟩:=Yg1 h1
 have ha:askS X.s (X.lo+i) (X.lo+i)=0:=by
  have hh:hasS X.s (X.lo+i)=true:=by unfold hasS;rw[YHn,decide_eq_true_eq,decide_eq_true_eq];omega
  unfold askS
  rw[if_neg (by rw[h1];decide),hh,decide_eq_false (by omega)]
  rfl
 refine⟨?_,⟨w0,by omega⟩,p1,p2,?_⟩
 ·unfold mouS
  rw[if_neg (by rw[ha];decide),cut_e h1 hn]
 ·have e1:(widS X.s (X.lo+i)).1=(diaS X.s (X.lo+i)).1*3141592653589793238/1000000000000000000*X.s.mn/X.s.md:=by rw[e]
  rw[e1]
  refine Int.le_trans (Int.ediv_mul_le _ (by omega)) ?_
  refine Int.mul_le_mul_of_nonneg_right ?_ (by omega)
  show _<=(piF (diaM X i,diaM X i)).1.2+0
  rw[pi_d (by omega)]
  omega
theorem Yvr{X:Blt}(h:X.good){i:Nat}(hi:i+1<rngB X):(cutB X (i+1)).w<=(cutB X i).w:=by
 obtain⟨h1,h2,h3,h4,h5⟩:=Yfo h
 have a:=(Yeo h (i:=i) (by omega)).1
 have b:=(Yeo h hi).1
 have c:=(Ynq h1 (note:=X.lo+i) (by omega) (by omega)).2
 have d:diaM X (i+1)<=diaM X i:=by
  unfold diaM
  rw[show X.lo+((i+1:Nat):Int)=X.lo+(i:Int)+1 by omega]
  omega
 unfold cutB
 simp only
 rw[pi_d (by omega),pi_d (by omega)]
 omega
theorem Yve{p:Pla}(l:List Cut):areS p l=((YIc l.length).map fun i=>((l.getD i default).w+p.k)*((l.getD i default).h+p.k)).sum:=by
 have e:∀n:Nat,n<=l.length->areS p (l.take n)=((YIc n).map fun i=>((l.getD i default).w+p.k)*((l.getD i default).h+p.k)).sum:=fun n=>by
  induction n with
  |zero=>intro _;rfl
  |succ n ih=>
   intro hn
   rw[YbP (by omega),List.range_succ,List.map_append,List.sum_append,<-ih (by omega)]
   unfold areS
   rw[List.foldl_append]
   simp
 rw[<-e l.length (YHr _),YIq]
def mstB(L:List Spt):Int:=L.foldl (fun m s=>max m (s.pl+1)) 0
theorem YsC:∀(L:List Spt)(m:Int),m<=L.foldl (fun m s=>max m (s.pl+1)) m/\∀s∈L,s.pl+1<=L.foldl (fun m s=>max m (s.pl+1)) m
 | [],m=>⟨YIs _,fun s h=>by cases h⟩
 |a::L,m=>by
  obtain⟨h1,h2⟩:=YsC L (max m (a.pl+1))
  refine⟨by simp only[YHX];omega,fun s hs=>?_⟩
  rcases YHI.1 hs with rfl|hs
  ·simp only[YHX];omega
  ·exact h2 s hs
theorem YAz{p:Pla}{l:List Cut}{L:List Spt}(hq:QuiR p l L)(h:qkE p l=0):L.length=l.length/\(∀i,i<L.length->0<=(L.getD i default).pl/\(L.getD i default).pl<l.length)/\l.length<=200/\(leaS p l).2=0/\(leaS p l).1<=mstB L/\jdgF p l L=0:=by
 obtain⟨order,o1,o2,rfl⟩:=hq.2 h
 have hc:YdY p l 200=0:=by
  unfold qkE at h
  by_cases c:YdY p l 200=0
  ·exact c
  ·rw[if_pos c]at h;exact absurd h c
 have hb:l.any (larS p)=false:=by
  unfold qkE at h
  rw[if_neg (by rw[hc];decide)]at h
  by_cases c:l.any (larS p)=true
  ·rw[if_pos c]at h;cases h
  ·simpa using c
 obtain⟨c1,c2,c3,c4,c5⟩:=Ygv hc
 have hall:∀i,i<l.length->okC p l i:=fun i hi=>by
  have a1:=c5 i hi
  have a2:=YHP.1 hb _ (Yh hi)
  simp only[larS,YHS,decide_eq_true_eq]at a2
  exact⟨⟨a1.1.1,by omega⟩,a1.2.1,by omega⟩
 obtain⟨q1,q2,q3,m,q4,q5⟩:=YAA c4.1 c2.1 o1 hall o2
 have hpl:∀i,i<l.length->0<=((quiF p l order).getD i default).pl/\((quiF p l order).getD i default).pl<l.length:=fun i hi=>by
  have:=q2 i hi
  simp only[farB,YHp,decide_eq_false_iff_not]at this
  omega
 refine⟨q1,fun i hi=>hpl i (by omega),by omega,?_,?_,?_⟩
 ·unfold leaS;rw[if_neg (by rw[hc];decide)]
 ·have hm:(m:Int)<=mstB (quiF p l order):=by
   rcases YH4 m with rfl|hm
   ·exact(YsC _ 0).1
   ·obtain⟨i,i1,i2⟩:=q5 (m-1) (by omega)
    have:=(YsC (quiF p l order) 0).2 _ (Yh (show i<(quiF p l order).length by omega))
    unfold mstB
    omega
  refine Int.le_trans ?_ hm
  unfold leaS
  rw[if_neg (by rw[hc];decide)]
  simp only
  rw[Yve]
  have hP:1*1<=(p.w+p.k)*(p.h+p.k):=YO (by omega) (by omega) (by decide) (by omega)
  generalize hS:((YIc l.length).map fun i=>((l.getD i default).w+p.k)*((l.getD i default).h+p.k)).sum=S at*
  generalize hQ:(p.w+p.k)*(p.h+p.k)=Q at*
  refine Int.le_of_lt_add_one (Int.ediv_lt_of_lt_mul (by omega) ?_)
  rw[Int.add_mul,Int.mul_comm (m:Int) Q]
  omega
 ·unfold jdgF
  rw[if_neg (by rw[hc];decide),if_neg (by rw[q1];exact fun h=>h rfl),YdF (fun i hi=>q2 i (by omega)),if_neg (by decide),YdF (fun i hi=>YdF fun k hk=>q3 i k hk (by omega)),if_neg (by decide)]
theorem Ydk{X:Blt}(h:X.good):(tabL X.s X.lo X.hi).length=rngB X:=by
 unfold tabL rngB
 rw[if_neg (by rw[h.2.2.1];decide),List.length_map,List.length_range]
theorem Ymo{X:Blt}(h:X.good){k:Nat}(hk:k<rngB X):(tabL X.s X.lo X.hi).getD k default=diaS X.s (X.lo+k):=by
 unfold rngB at hk
 unfold tabL
 rw[if_neg (by rw[h.2.2.1];decide),YHo,List.getElem?_map,List.getElem?_range hk];rfl
def YkA(X:Blt):List Cut:=(YIc (rngB X)).map (cutB X)
theorem Ynm(X:Blt):(YkA X).length=rngB X:=by unfold YkA;rw[List.length_map,List.length_range]
theorem Yvs{X:Blt}{k:Nat}(hk:k<rngB X):(YkA X).getD k default=cutB X k:=by
 unfold YkA
 rw[YHo,List.getElem?_map,List.getElem?_range hk];rfl
def Blt.low(X:Blt):Blt:={ X with f1:=false,f2:=false,f3:=false,f4:=false}
def v6:VF:=⟨142,[.tmp 4],(ZR [u1 2 .box [.tm 0],u1 4 .mov [.cn (.bool false)]] (ZR [u1 5 .mov [.cn .nil]] (.seq (ZR [Zi 6 0] (.block 0 (.loop (.seq (ZR [Zm 18 6,Zm 19 1,Zl 20 19,Zr 21 .lss 18 20] (ZC 21 .skip (.exit 0))) (.seq (.block 1 (.seq (.draw [(7,.box [(.int .i64 0),(.int .i64 0)])] [Zu 25 1,Zu 26 6,ZX 27 2 25 26,Zy 28 1 27,Zv 29 1 28,w1 30 .max [.tm 29,.cn (.int .i64 1000)],Zw 31 24 2,Zu 32 6,Zz 33 13 31 32,w1 34 (.call 9) [.tm 30,.tm 33,.cn (.int .i64 0)],Zu 24 34,ZE 35 0 24,ZE 36 1 24,ZS 2 7 35,Zu 8 36]) (ZR [Za 38 0 2,Zt 39 7 38,Za 40 7 2,Zf 41 1 40,Zm 42 6,Zo 43 .add 41 42,Zd 44 14 39 43,Zm 37 44,Ze 45 0 37,Ze 46 1 37,Ze 47 2 37,Zn 9,Zn 10,Zs 2 9 45,Zs 2 10 46,Zm 11 47] (.seq (ZR [Zm 48 8,Zq 49 .neq 48 0,Zm 50 49,Zg 51 50 false 11,u2 52 50 false (.cmp .neq) [.tm 51,.cn (.int .i64 0)],u1 53 .or [.tm 50,.tm 52],Zm 54 53,Zj 55 54 false 0 9,Zh 56 54 false 1 55,Zj 57 54 false 0 2,Zj 58 54 false 4 57,Zh 59 54 false 1 58,u2 60 54 false (.ari .mul) [.tm 56,.tm 59],Zj 61 54 false 0 7,Zh 62 54 false 1 61,Zj 63 54 false 0 2,Zj 64 54 false 3 63,Zh 65 54 false 1 64,u2 66 54 false (.ari .mul) [.tm 62,.tm 65],u2 67 54 false (.cmp .gtr) [.tm 60,.tm 66],u1 68 .or [.tm 54,.tm 67]] (ZC 68 (ZR [u1 4 .mov [.cn (.bool false)]] .ret) .skip)) (.seq (.seq (.draw [] [Zu 69 6,w1 70 (.cmp .gtr) [.tm 69,.cn (.int .i64 0)],Zu 71 70,⟨Zg 72 71 true 1,[]⟩,⟨Zg 73 71 true 6,[]⟩,⟨u2 74 71 true (.idxAddr 2) [.tm 72,.tm 73],[]⟩,⟨Zj 75 71 true 1 74,[]⟩,⟨Zh 76 71 true 1 75,[]⟩,⟨u2 77 71 true (.cmp .geq) [.tm 76,.cn (.int .i64 1000)],[]⟩,w1 78 .and [.tm 71,.tm 77],Zu 79 78,⟨Zj 80 79 true 0 7,[]⟩,⟨Zh 81 79 true 1 80,[]⟩,⟨Zg 82 79 true 5,[]⟩,⟨Zg 83 79 true 6,[]⟩,⟨u2 84 79 true (.ari .sub) [.tm 83,.cn (.int .i64 1)],[]⟩,⟨u2 85 79 true (.idxAddr 2) [.tm 82,.tm 84],[]⟩,⟨Zj 86 79 true 0 85,[]⟩,⟨Zh 87 79 true 1 86,[]⟩,⟨u2 88 79 true (.cmp .gtr) [.tm 81,.tm 87],[]⟩,w1 89 .and [.tm 79,.tm 88]]) (ZC 89 (ZR [u1 4 .mov [.cn (.bool false)]] .ret) .skip)) (.region [Zm 90 5,Zt 91 2 7,u1 92 (.buildSlice 2 1 [(.int .i64 0),(.int .i64 0)] [(0,2)]) [.tm 91],u1 93 (.append 2 16 [(.int .i64 0),(.int .i64 0)]) [.tm 90,.tm 92],Zm 5 93])))))) (.region [Zm 22 6,Zp 23 22 1,Zm 6 23])))))) (ZR [Za 95 10 2,Zt 96 3 95,Zm 97 5,Zd 98 15 96 97,Zm 94 98,Ze 99 0 94,Ze 100 1 94,Zm 12 99,Zm 13 100] (.seq (ZR [Zm 101 13,Zq 102 .neq 101 0] (ZC 102 (ZR [Zm 103 12,Zl 104 103,Zq 105 .eql 104 0,Zm 4 105] .ret) .skip)) (ZR [Za 107 10 2,Zt 108 3 107,Zm 109 5,Zd 110 16 108 109,Zm 106 110,Ze 111 0 106,Ze 112 1 106,Zm 14 111,Zm 15 112] (ZR [Zi 16 0] (.seq (ZR [Zi 17 0] (.block 2 (.loop (.seq (ZR [Zm 113 17,Zm 114 12,Zl 115 114,Zr 116 .lss 113 115] (ZC 116 .skip (.exit 2))) (.seq (.block 3 (.region [Zm 119 16,Zm 120 12,Zm 121 17,Zx 122 4 120 121,Za 123 0 122,Zf 124 1 123,Zp 125 124 1,u1 126 .max [.tm 119,.tm 125],Zm 16 126])) (.region [Zm 117 17,Zp 118 117 1,Zm 17 118])))))) (ZR [Zm 127 15,Zq 128 .eql 127 0,Zm 129 128,Zg 130 129 true 14,Zg 131 129 true 16,u2 132 129 true (.cmp .leq) [.tm 130,.tm 131],u1 133 .and [.tm 129,.tm 132],Zm 134 133,Zj 135 134 true 10 2,u2 136 134 true (.load true 3) [.tm 135],Zg 137 134 true 5,Zg 138 134 true 12,u2 139 134 true (.call 17) [.tm 136,.tm 137,.tm 138],u2 140 134 true (.cmp .eql) [.tm 139,.cn (.int .i64 0)],u1 141 .and [.tm 134,.tm 140],Zm 4 141] .ret)))))))))⟩
theorem v6_is:Ye YHk Tryz.f6=some v6:=by kernel_rfl
def bctC:Ctr:={ alias:=false,of:=fun l=>match l with
 | [.agg cs,.vs _ _ n sz get]=> .ex Blt fun X=> .pre (cs=bltC X/\X.good/\lsP 2 enc2 n sz get (tabL X.s X.lo X.hi)) (.fin (.bool true) [])
 |_=>noC}
def TB4:Env:={ ct:=fun n=>match n with|13=>some lenBC|9=>some bdyC|14=>some mouC|15=>some qkC|16=>some leaC|17=>some jdgC|_=>none,fn:=fun _=>none,meth:=fun _ _=>none}
theorem Yit:TB4.ct 13=some lenBC:=rfl
theorem YlH:TB4.ct 9=some bdyC:=rfl
theorem Yiu:TB4.ct 14=some mouC:=rfl
theorem Yiv:TB4.ct 15=some qkC:=rfl
theorem Yiw:TB4.ct 16=some leaC:=rfl
theorem Yix:TB4.ct 17=some jdgC:=rfl
theorem YC5:Yn YHk TB4:=by
 refine⟨fun f c h=>?_,fun f vf h=>?_,(fun _ _ _ h=>by cases h),by kernel_rfl,(fun _ h=>by cases h),(fun _ _ h=>by cases h)⟩
 ·simp only[TB4]at h
  split at h
  ·cases h;exact⟨Yxt,Tryz.f13,Tryz.func13,by kernel_rfl,by kernel_rfl⟩
  ·cases h;exact⟨YDn,Tryz.f9,Tryz.func9,by kernel_rfl,by kernel_rfl⟩
  ·cases h;exact⟨mou_c,Tryz.f14,Tryz.func14,by kernel_rfl,by kernel_rfl⟩
  ·cases h;exact⟨qk_c,Tryz.f15,Tryz.func15,by kernel_rfl,by kernel_rfl⟩
  ·cases h;exact⟨lea_c,Tryz.f16,Tryz.func16,by kernel_rfl,by kernel_rfl⟩
  ·cases h;exact⟨jdg_c,Tryz.f17,Tryz.func17,by kernel_rfl,by kernel_rfl⟩
  ·cases h
 ·cases h
theorem bct_c:bctC.ok YHk 6:=by
 refine Yb Tryz.func6 v6_is YC5 900 bctC fun args k h=>?_
 simp only[bctC]at h
 split at h
 ·rename_i cs tt z n sz get
  obtain⟨X,⟨rfl,hX,hts⟩,h⟩:=h
  have h:k (.bool true) []:=h
  have tl:=Ydk hX
  have tg:= @Ymo X hX
  obtain⟨t,ht⟩:∃t,t=tabL X.s X.lo X.hi:=⟨_,rfl⟩
  rw[<-ht]at hts tl
  have tg:∀k,k<rngB X->t.getD k default=diaS X.s (X.lo+k):=fun k hk=>by rw[ht];exact tg hk
  obtain⟨rfl,rfl,hg⟩:=hts
  refine⟨[.agg (bltC X),.vs tt z t.length 2 (fun k=>enc2 (t.getD k default))],⟨Yx _ (by simp [bltC,bndL,bnd]),⟨id,rfl,rfl,rfl,hg⟩,trivial⟩,?_⟩
  dsimp only[v6,bltC,enc2,Yit,YlH,Yiu,Yiv,Yiw,Yix,lenBC,bdyC,mouC,qkC,leaC,jdgC,encK,Yi3,encQ,encU,encT,Y9,YHj,go_sem,reduceIte,YHf]
  simp only[Yc,YHf,YHh,reduceCtorEq,YHg]
  have hb0:=Yfo hX
  refine Loop.keep [1,0,1] (Nat×Bool) (fun s=>[(5,.own 1 0 s.1 2),(6,.int .i64 s.1)]) (fun s=>[(1,.own s.2 2 s.1 (fun k=>encK (cutB X k)))]) [.gone] (fun s=>s.1<=rngB X/\(s.2=true->s.1=0)) (fun s=>rngB X-s.1) ?_ ?_
  ·refine⟨(0,true),⟨YHK _,fun _=>rfl⟩,?_⟩
   dsimp only[go_sem,reduceIte,YHf]
   simp only[Ya]
   exact⟨by decide,by decide,rfl⟩
  rintro⟨i,z1⟩ ⟨hi,hz⟩
  replace hi:i<=rngB X:=hi
  replace hz:z1=true->i=0:=hz
  dsimp only[v6,bltC,enc2,Yit,YlH,Yiu,Yiv,Yiw,Yix,lenBC,bdyC,mouC,qkC,leaC,jdgC,encK,Yi3,encQ,encU,encT,Y9,YHj,go_sem,reduceIte,YHf]
  simp only[Yc,YHf,YHh,reduceCtorEq,YHg]
  have self:lsP 2 enc2 X.s.bs.length 2 (fun k=>[SV.int IntKind.i64 (X.s.bs.getD k default).fst,SV.int IntKind.i64 (X.s.bs.getD k default).snd]) X.s.bs:=⟨rfl,rfl,fun k _=>Yd _⟩
  refine⟨fun hlt=>⟨⟨by omega,by omega⟩,X.low,i,⟨rfl,hX.1,hX.2.1,rfl,by omega⟩,by decide,by decide,X.s.bs,⟨self,hX.1.1⟩,by decide,by decide,by decide,?_⟩,fun hge=>?_⟩
  ·have hir:i<rngB X:=by omega
   obtain⟨m1,m2,m3,m4,m5⟩:=Yz9 hX hir
   have cr:=Yzh hX hir
   rw[tg i hir,show max (diaS X.s (X.lo+(i:Int))).2 1000=diaM X i from rfl,show lenB X.low i=lenB X i from rfl,Yy2 hX hir,YHi (X.lo+(i:Int)) (by omega),show mouS ⟨X.s.d,X.s.c,X.s.bs,X.s.mn,X.s.md,X.s.cn,X.s.cd⟩ (X.lo+(i:Int))=mouS X.s (X.lo+(i:Int))from rfl,m1]
   dsimp only
   have q1:(cutB X i).w*X.s.mn<=4000000*20:=YO cr.1.2 m3.2 (by omega) (by decide)
   have q2:0<=(widS X.s (X.lo+i)).1*X.s.md:=YIe m2.1 (by omega)
   have q0:0<=(cutB X i).w*X.s.mn:=YIe cr.1.1 (by omega)
   rw[YHi ((cutB X i).w*X.s.mn) (by omega),YHi ((widS X.s (X.lo+i)).1*X.s.md) (by omega),decide_eq_false (show¬(cutB X i).w*X.s.mn<(widS X.s (X.lo+i)).1*X.s.md by omega)]
   have hw:IntKind.i64.wrap ((i:Int)-1)=(i:Int)-1:=YHi _ (by omega)
   rw[hw]
   refine⟨fun hb=>(by cases hb),fun _=>⟨fun _=>by omega,fun hp=>?_,fun hp=>?_,fun hp=>?_,fun _=>⟨by decide,⟨by unfold Y3;omega,fun q hq=>match q,hq with|0,_=>⟨rfl,trivial,trivial,trivial⟩⟩,(i+1,false),⟨by show i+1<=_;omega,fun h0=>(by cases h0)⟩,by show _-(i+1)<_;omega,?_⟩⟩⟩
   ·simp only[YHn,decide_eq_true_eq]at hp;omega
   ·simp only[YHn,decide_eq_true_eq]at hp;omega
   ·exfalso
    simp only[YHn,decide_eq_true_eq]at hp
    obtain⟨j,rfl⟩:∃j,i=j+1:=⟨i-1,by omega⟩
    have:=Yvr hX hir
    rw[show((j+1:Nat):Int)-1=(j:Int)by omega,YHj]at hp
    omega
   ·rw[YHi ((i:Int)+1) (by omega)]
    simp only[Ya]
    refine⟨⟨by decide,by decide,rfl⟩,by cases z1 <;> rfl,fun q hq=>?_⟩
    by_cases cq:q<i
    ·rw[if_pos cq];exact Yx [.int _ _,.int _ _] ⟨trivial,trivial,trivial⟩
    ·obtain rfl:q=i:=by omega
     rw[if_neg cq,Nat.sub_self]
     exact Yx [.int _ _,.int _ _] ⟨trivial,trivial,trivial⟩
  ·obtain rfl:i=rngB X:=by omega
   have selfK:lsP 2 encK (rngB X) 2 (fun k=>[SV.int IntKind.i64 (cutB X k).w,SV.int IntKind.i64 (cutB X k).h]) (YkA X):=⟨rfl,(Ynm X).symm,fun k hk=>by rw[Yvs hk];exact Yd _⟩
   refine⟨YkA X,⟨selfK,by omega⟩,fun L zz hq=>⟨by decide,by decide,fun hne=>?_,fun heq=>⟨YkA X,⟨selfK,by omega⟩,by decide,by decide,?_⟩⟩⟩
   ·rw[hq.1 hne];exact Yi h
   ·obtain⟨u1,u2,u3,u4,u5,u6⟩:=YAz hq heq
    rw[Ynm]at u1 u2 u3
    refine Loop.keep [2,1,0,6,1,0] Nat (fun j=>[(16,.int .i64 (mstB (L.take j))),(17,.int .i64 j)]) (fun _=>[]) [] (fun j=>j<=L.length) (fun j=>L.length-j) ?_ ?_
    ·refine⟨0,YHK _,?_⟩
     dsimp only[go_sem,reduceIte,YHf]
     simp only[Ya]
     exact⟨by decide,by decide,rfl,rfl⟩
    rintro j hj
    dsimp only[v6,bltC,enc2,Yit,YlH,Yiu,Yiv,Yiw,Yix,lenBC,bdyC,mouC,qkC,leaC,jdgC,encK,Yi3,encQ,encU,encT,Y9,YHj,go_sem,reduceIte,YHf]
    simp only[Yc,YHf,YHh,reduceCtorEq,YHg]
    refine⟨fun hlt=>⟨by omega,j+1,by omega,by omega,?_⟩,fun hge2=>⟨YkA X,L,fun _=>⟨⟨selfK,by omega⟩,⟨rfl,rfl,fun k _=>Yd _⟩,by omega⟩,?_⟩⟩
    ·have hjl:j<L.length:=by omega
     obtain⟨v1,v2⟩:=u2 j hjl
     have e:mstB (L.take (j+1))=max (mstB (L.take j)) ((L.getD j default).pl+1):=by unfold mstB;rw[Ym hjl]
     rw[YHi ((j:Int)+1) (by omega),YHi ((L.getD j default).pl+1) (by omega),<-e]
     simp only[Ya]
     exact⟨by decide,by decide,rfl⟩
    ·obtain rfl:j=L.length:=by omega
     rw[YIq,u4,u6,decide_eq_true u5]
     exact Yi h
 ·exact h.1.elim
theorem Yte{b:Brd}{y:Int}:∀(l:List Ft)(x:Int),(rowF b y l x).map (fun p=>(p.r,p.h))=l
 | [],_=>rfl
 |f::l,x=>by rw[rowF,YHH,Yte l]
theorem Yle{b:Brd}:∀(ks:List Nat)(l:List Ft)(y:Int),dvP b l ks->(YY b ks l y).map (fun p=>(p.r,p.h))=l
 | [],l,_,hd=>by have hd:l=[]:=hd;subst hd;rfl
 |k::ks,l,y,hd=>by
  obtain⟨h1,hk,hw,hd⟩:=hd
  rw[YY,List.map_append,Yte,Yle ks _ _ hd,List.take_append_drop]
theorem Yww{b:Brd}{l:List Ft}(h:(YaQ b l).2≠0):(YaQ b l).1=[]:=by
 unfold YaQ at h⊢
 split
 ·rfl
 ·rename_i h1
  rw[if_neg h1]at h
  split
  ·rfl
  ·rename_i h2;rw[if_neg h2]at h;exact absurd rfl h
theorem Yti{b:Brd}{l:List Ft}(h:(YaQ b l).2=0):(YaQ b l).1.length=l.length/\Ygu b (YaQ b l).1=0/\(0<=b.c/\b.c<=1000000)/\l.length<=200/\
 (∀i,i<l.length->(okP ((YaQ b l).1.getD i default)/\(((YaQ b l).1.getD i default).r=(l.getD i default).1/\((YaQ b l).1.getD i default).h=(l.getD i default).2)/\((YaQ b l).1.getD i default).r<=((YaQ b l).1.getD i default).x/\((YaQ b l).1.getD i default).r<=((YaQ b l).1.getD i default).y))/\
 ∀k i,k<i->i<l.length->sepF b ((YaQ b l).1.getD k default) ((YaQ b l).1.getD i default):=by
 have hask:askF b l=0:=by
  unfold YaQ at h
  split at h
  ·rename_i h1;exact absurd h h1
  ·rename_i h1;simpa using h1
 obtain⟨hb,hl,h2⟩:=Yq4 hask
 have hw:YeW b=false:=by
  unfold askF at hask
  split at hask
  ·cases hask
  ·split at hask
   ·cases hask
   ·rename_i h3
    rw[YIp,YHp]at h3
    exact h3.1
 have e:(YF b l).is=true/\(YF b l).depth<=b.d/\(YaQ b l).1=YY b (YcS b l) l 0:=by
  unfold YaQ at h⊢
  rw[if_neg (by rw[hask];decide)]at h⊢
  split at h
  ·cases h
  ·rename_i h3
   rw[if_neg h3]
   simp only[not_or,Bool.not_eq_false]at h3
   exact⟨h3.1,by omega,rfl⟩
 obtain⟨e1,e2,e3⟩:=e
 obtain⟨d1,d2,_⟩:=YDF hb.2.2.1 _ l rfl h2 hl e1
 have hc:=Ymh hb hw hl h2 d1 (by omega)
 have hl1:∀f∈l,1<=f.1:=fun f hf=>(hl f hf).1.1
 have hlen:=Yg6 (YcS b l) l 0 d1
 have hmap:=Yle (YcS b l) l 0 d1
 have hsep:=List.pairwise_iff_getElem.1 (Yg8 hb.2.2.1.1 (YcS b l) l 0 hl1 d1)
 rw[e3]
 generalize YY b (YcS b l) l 0=L at*
 have hck:chkF b L=0/\Yhp b L=0:=by
  unfold Ygu at hc
  split at hc
  ·rename_i h3;exact absurd hc h3
  ·rename_i h3;exact⟨by simpa using h3,hc⟩
 obtain⟨_,c2,_⟩:=Yrq hck.1
 have hoff:L.any (offF b)=false:=by
  have:=hck.2
  unfold Yhp at this
  split at this
  ·cases this
  ·rename_i h3;simpa using h3
 refine⟨hlen,hc,hb.2.2.1,h2,fun i hi=>⟨c2 _ (Yh (by omega)),?_,?_⟩,fun k i hki hi=>?_⟩
 ·have:(L.map (fun p=>(p.r,p.h))).getD i default=l.getD i default:=by rw[hmap]
  rw[Yf0 (by omega)]at this
  exact⟨congrArg Prod.fst this,congrArg Prod.snd this⟩
 ·have:=YHP.1 hoff _ (Yh (show i<L.length by omega))
  simp only[offF,YIp,YHp,Yda]at this
  omega
 ·have g:∀j,(hj:j<L.length)->L[j]=L.getD j default:=fun j hj=>by
   rw[YHo,YH2 hj];rfl
  have:=hsep k i (by omega) (by omega) hki
  rw[g k (by omega),g i (by omega)]at this
  exact this
def Yjb(X:Blt)(i:Nat):Ft:=(((diaS X.s (X.lo+i)).2+1)/2,lenB X i)
def Yi6(X:Blt):List Ft:=(YIc (rngB X)).map (Yjb X)
theorem Yi8(X:Blt):(Yi6 X).length=rngB X:=by unfold Yi6;rw[List.length_map,List.length_range]
theorem Yi7{X:Blt}{k:Nat}(hk:k<rngB X):(Yi6 X).getD k default=Yjb X k:=by
 unfold Yi6
 rw[YHo,List.getElem?_map,List.getElem?_range hk];rfl
theorem apart{b:Brd}{p q:Std}{s t:Int}(hc:0<=b.c)(hs:0<=s/\s<=2*p.r)(ht:0<=t/\t<=2*q.r)(h:sepF b q p):(s+t+2*b.c)*(s+t+2*b.c)<=2*(p.x-q.x)*(2*(p.x-q.x))+2*(p.y-q.y)*(2*(p.y-q.y)):=by
 have z1:=sqnn (2*(p.x-q.x))
 have z2:=sqnn (2*(p.y-q.y))
 unfold sepF at h
 rcases h with h|h
 ·have:=YjK (a:=s+t+2*b.c) (d:=2*(p.x-q.x)) (by omega) (by omega)
  omega
 ·have:=YjK (a:=s+t+2*b.c) (d:=2*(p.y-q.y)) (by omega) (by omega)
  omega
end Go.Proofs.YtlfhmpkopcnheaaGreat
