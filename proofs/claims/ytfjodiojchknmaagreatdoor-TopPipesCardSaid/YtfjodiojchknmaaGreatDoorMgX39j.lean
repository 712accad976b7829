/- Lengths, walked: Check, corrections. -/
import Derived.Test.YtfjodiojchknmaaGreatDoorMgX39e
import Derived.Test.YtfjodiojchknmaaGreatDoorMgX39i
import Derived.Test.YtfjodiojchknmaaGreatDoorMgX39d
import Derived.LaidMore
import Derived.OpenShut
import Derived.Stop.Joined
import Derived.Deep.Slices
import Derived.Test.YtfjodiojchknmaaGreatDoorRows
import Derived.Test.YtfjodiojchknmaaGreatDoorCards
import Derived.Test.YtfjodiojchknmaaGreatDoorTie
import Derived.ProofKit
import Derived.SevenTiedAt
open And renaming intro->YHd
open Array renaming getElem?_eq_some_iff->YHu
open Bool renaming and_eq_true->YG2,not_eq_false'->YHA,not_eq_true'->YHn,or_eq_false_iff->YHq,or_eq_true->YHB
open Int renaming le_refl->YHS,mul_nonneg->YG7,toNat_natCast->YG0,toNat_of_nonneg->YHs
open Go.IntWalk renaming i64_in->YGZ
open Nat renaming le_refl->YG8,mul_one->YH8,reduceAdd->YGU,reduceEqDiff->YGV,reduceLeDiff->YGW,zero_add->YH0
open Go.Proofs.Tryz renaming prog->YGY
set_option linter.all false
namespace Go.Proofs.YtfjodiojchknmaaGreatDoor
open Go Go.Vx
set_option maxRecDepth 100000
set_option maxHeartbeats 4000000
def v29:VF:=⟨59,[.tmp 2],(ZR [u1 1 .box [.tm 0],Zi 2 0] (ZR [Za 4 2 1,Zf 5 1 4,Za 6 1 1,Zf 7 1 6,Zr 8 .eql 5 7,Za 9 2 1,Zf 10 1 9,Za 11 1 1,Zf 12 1 11,Zr 13 .eql 10 12,Za 14 2 1,Zf 15 1 14,Za 16 1 1,Zf 17 1 16,Zr 18 .lss 15 17,u1 19 (.build [(.bool false),(.bool false),(.bool false),(.bool false)] [(1,1),(2,1),(3,1)]) [.tm 8,.tm 13,.tm 18],u1 3 (.allocArr 4 1 [(.bool false),(.bool false),(.bool false),(.bool false)]) [],Zs 4 3 19] (.seq (ZR [Za 20 0 1,Zf 21 1 20,u1 22 (.call 27) [.tm 21,.cn (.int .i64 1),.cn (.int .i64 3)],u1 23 .not [.tm 22],Zm 24 23,Zj 25 24 false 0 1,Zh 26 24 false 1 25,u2 27 24 false (.idxArr 4 1) [.tm 3,.tm 26],Zh 28 24 false 1 27,u2 29 24 false .not [.tm 28],u1 30 .or [.tm 24,.tm 29]] (ZC 30 (ZR [Zi 2 2] .ret) .skip)) (.seq (ZR [Za 31 1 1,Zf 32 1 31,u1 33 (.call 27) [.tm 32,.cn (.int .i64 1000),.cn (.int .i64 500000)],u1 34 .not [.tm 33],Zm 35 34,Zj 36 35 false 2 1,Zh 37 35 false 1 36,u2 38 35 false (.call 27) [.tm 37,.cn (.int .i64 1000),.cn (.int .i64 500000)],u2 39 35 false .not [.tm 38],u1 40 .or [.tm 35,.tm 39],Zm 41 40,Zj 42 41 false 3 1,Zh 43 41 false 1 42,Zj 44 41 false 1 1,Zh 45 41 false 1 44,u2 46 41 false (.ari .mul) [.cn (.int .i64 4),.tm 45],u2 47 41 false (.call 27) [.tm 43,.cn (.int .i64 1),.tm 46],u2 48 41 false .not [.tm 47],u1 49 .or [.tm 41,.tm 48],Zm 50 49,Zj 51 50 false 4 1,Zh 52 50 false 1 51,Zj 53 50 false 1 1,Zh 54 50 false 1 53,u2 55 50 false (.ari .mul) [.cn (.int .i64 4),.tm 54],u2 56 50 false (.call 27) [.tm 52,.cn (.int .i64 1),.tm 55],u2 57 50 false .not [.tm 56],u1 58 .or [.tm 50,.tm 57]] (ZC 58 (ZR [Zi 2 2] .ret) .skip)) (ZR [Zi 2 0] .ret)))))⟩
theorem YFZ:Yf YGY Tryz.f29=some v29:=by kernel_rfl
def v27:VF:=⟨15,[.tmp 6],(ZR [u1 6 .mov [.cn (.bool false)]] (ZR [Zm 7 0,Zm 8 1,Zr 9 .geq 7 8,Zm 10 9,Zg 11 10 true 0,Zg 12 10 true 2,u2 13 10 true (.cmp .leq) [.tm 11,.tm 12],u1 14 .and [.tm 10,.tm 13],Zm 6 14] .ret))⟩
theorem YFX:Yf YGY Tryz.f27=some v27:=by kernel_rfl
def encY(b:Bdy):List SV:=[.int .i64 b.kind,.int .i64 b.bottom,.int .i64 b.top,.int .i64 b.mouth,.int .i64 b.cut]
def chkBC:Ctr:={ alias:=false,of:=fun l=>match l with
 | [.agg [.int .i64 a,.int .i64 b,.int .i64 c,.int .i64 d,.int .i64 e]]=> .fin (.int .i64 (chkB ⟨a,b,c,d,e⟩)) []
 |_=>noC}
def inC:Ctr:={ alias:=false,of:=fun l=>match l with
 | [.int .i64 n,.int .i64 a,.int .i64 b]=> .fin (.bool (inF n a b)) []
 |_=> .pre False (.fin (.bool false) [])}
def UL00:Env:={ ct:=fun _=>none,fn:=fun _=>none,meth:=fun _ _=>none}
theorem Yx0:Yl YGY UL00:=by
 refine⟨fun f c h=>?_,fun f vf h=>?_,(fun _ _ _ h=>by cases h),by kernel_rfl,(fun _ h=>by cases h)⟩
 . cases h
 . cases h
theorem in_c:inC.ok YGY 27:=by
 refine Yb Tryz.func27 YFX Yx0 100 inC fun args k h=>?_
 simp only[inC]at h
 split at h
 . rename_i n a b
   refine⟨[.int .i64 n,.int .i64 a,.int .i64 b],by simp [leL,le],?_⟩
   dsimp only[v27,go_sem,reduceIte,YGU]
   simp only[Yc,YGU,YGW,reduceCtorEq,YGV]
   exact Yx h
 . exact h.1.elim
def UL0:Env:={ ct:=fun n=>match n with|27=>some inC|_=>none,fn:=fun _=>none,meth:=fun _ _=>none}
theorem YcQ:UL0.ct 27=some inC:=rfl
theorem YCq:Yl YGY UL0:=by
 refine⟨fun f c h=>?_,fun f vf h=>?_,(fun _ _ _ h=>by cases h),by kernel_rfl,(fun _ h=>by cases h)⟩
 . simp only[UL0]at h
   split at h
   . cases h;exact⟨in_c,Tryz.f27,Tryz.func27,by kernel_rfl,by kernel_rfl⟩
   . cases h
 . cases h
theorem Yrs:chkBC.ok YGY 29:=by
 refine Yb Tryz.func29 YFZ YCq 300 chkBC fun args k h=>?_
 simp only[chkBC]at h
 split at h
 . rename_i a b c d e
   refine⟨[.agg [.int .i64 a,.int .i64 b,.int .i64 c,.int .i64 d,.int .i64 e]],by simp [leL,le],?_⟩
   by_cases h1:a=1
   . subst h1
     have hin:inF 1 1 3=true:=by decide
     have hsh:Yo7 ⟨1,b,c,d,e⟩=decide (c=b):=rfl
     dsimp only[v29,YcQ,inC,Int.reduceToNat,Nat.reduceMul,Int.toNat_zero,Int.toNat_one,go_sem,reduceIte,YGU]
     simp only[Yc,YGU,YGW,reduceCtorEq,YGV]
     simp only[chkB,hin,hsh,Bool.true_and]at h
     refine⟨by decide,by decide,by decide,fun hc=>?_,fun hc=>?_⟩
     . rw[hin,Bool.not_true,Bool.false_or,YHn]at hc
       rw[hc,if_neg (by decide)]at h
       exact Yi h
     . rw[hin,Bool.not_true,Bool.false_or,YHA]at hc
       rw[hc,if_pos rfl]at h
       refine⟨fun hd=>?_,fun hd=>?_⟩
       . rw[if_neg (fun hh=>by
           simp only[YG2]at hh
           rw[hh.1.1.1,hh.1.1.2,hh.1.2,hh.2]at hd
           cases hd)]at h
         exact Yi h
       . simp only[YHq,YHA]at hd
         rw[if_pos (by simp only[YG2];exact hd)]at h
         exact Yi h
   by_cases h2:a=2
   . subst h2
     have hin:inF 2 1 3=true:=by decide
     have hsh:Yo7 ⟨2,b,c,d,e⟩=decide (c=b):=rfl
     dsimp only[v29,YcQ,inC,Int.reduceToNat,Nat.reduceMul,Int.toNat_zero,Int.toNat_one,go_sem,reduceIte,YGU]
     simp only[Yc,YGU,YGW,reduceCtorEq,YGV]
     simp only[chkB,hin,hsh,Bool.true_and]at h
     refine⟨by decide,by decide,by decide,fun hc=>?_,fun hc=>?_⟩
     . rw[hin,Bool.not_true,Bool.false_or,YHn]at hc
       rw[hc,if_neg (by decide)]at h
       exact Yi h
     . rw[hin,Bool.not_true,Bool.false_or,YHA]at hc
       rw[hc,if_pos rfl]at h
       refine⟨fun hd=>?_,fun hd=>?_⟩
       . rw[if_neg (fun hh=>by
           simp only[YG2]at hh
           rw[hh.1.1.1,hh.1.1.2,hh.1.2,hh.2]at hd
           cases hd)]at h
         exact Yi h
       . simp only[YHq,YHA]at hd
         rw[if_pos (by simp only[YG2];exact hd)]at h
         exact Yi h
   by_cases h3:a=3
   . subst h3
     have hin:inF 3 1 3=true:=by decide
     have hsh:Yo7 ⟨3,b,c,d,e⟩=decide (c<b):=rfl
     dsimp only[v29,YcQ,inC,Int.reduceToNat,Nat.reduceMul,Int.toNat_zero,Int.toNat_one,go_sem,reduceIte,YGU]
     simp only[Yc,YGU,YGW,reduceCtorEq,YGV]
     simp only[chkB,hin,hsh,Bool.true_and]at h
     refine⟨by decide,by decide,by decide,fun hc=>?_,fun hc=>?_⟩
     . rw[hin,Bool.not_true,Bool.false_or,YHn]at hc
       rw[hc,if_neg (by decide)]at h
       exact Yi h
     . rw[hin,Bool.not_true,Bool.false_or,YHA]at hc
       rw[hc,if_pos rfl]at h
       refine⟨fun hd=>?_,fun hd=>?_⟩
       . rw[if_neg (fun hh=>by
           simp only[YG2]at hh
           rw[hh.1.1.1,hh.1.1.2,hh.1.2,hh.2]at hd
           cases hd)]at h
         exact Yi h
       . simp only[YHq,YHA]at hd
         rw[if_pos (by simp only[YG2];exact hd)]at h
         exact Yi h
   have hin:inF a 1 3=false:=by
     unfold inF
     rw[Bool.and_eq_false_iff,decide_eq_false_iff_not,decide_eq_false_iff_not]
     omega
   dsimp only[v29,YcQ,inC,go_sem,reduceIte,YGU]
   simp only[Yc,YGU,YGW,reduceCtorEq,YGV]
   rw[hin]
   have hch:chkB ⟨a,b,c,d,e⟩=2:=by
     rw[chkB,if_neg (by simp [hin])]
   rw[hch]at h
   by_cases h4:a<=0
   . rw[show a.toNat=0 by omega]
     dsimp only[Nat.reduceMul,YcQ,inC,go_sem,reduceIte,YGU]
     simp only[Yc,YGU,YGW,reduceCtorEq,YGV]
     refine⟨by decide,fun _=>Yi h,fun hh=>by cases hh⟩
   . obtain⟨m,hm⟩:∃m,a.toNat=m+4:=⟨a.toNat-4,by omega⟩
     rw[hm,YH8]
     have hdn:Yu m []=[]:=by cases m <;> rfl
     dsimp only[go_sem,reduceIte,YGU]
     rw[hdn]
     dsimp only[YcQ,inC,go_sem,reduceIte,YGU]
     simp only[Yc,YGU,YGW,reduceCtorEq,YGV]
     refine⟨by decide,.bool false,?_⟩
     dsimp only[YcQ,inC,go_sem,reduceIte,YGU]
     simp only[Yc,YGU,YGW,reduceCtorEq,YGV]
     exact⟨fun _=>Yi h,fun hh=>by cases hh⟩
 . exact h.1.elim
def v90:VF:=⟨8,[.tmp 2],(ZR [u1 2 .mov [.cn (.val (.pointer none))]] (ZR [Zm 3 0,Zm 4 0,u1 5 (.build [(.int .i64 0),(.int .i64 0)] [(0,1),(1,1)]) [.tm 3,.tm 4],u1 6 (.build [(.int .i64 0),(.int .i64 0),(.int .i64 0)] [(0,2)]) [.tm 5],u1 7 .box [.tm 6],Zm 2 7] .ret))⟩
theorem YGD:Yf YGY Tryz.f90=some v90:=by kernel_rfl
def v32:VF:=⟨29,[.tmp 6],(ZR [u1 5 .box [.tm 2],u1 6 .mov [.cn (.val (.pointer none))]] (.seq (.draw [(7,.box [(.int .i64 0),(.int .i64 0)])] [Zu 10 1,Zu 11 0,w1 12 .nilCheck [.tm 11],Zy 13 0 12,Zw 14 2 13,Zw 15 2 5,w1 16 .callv [.tm 10,.tm 14,.tm 15],Zu 9 16,ZE 17 0 9,ZE 18 1 9,ZS 2 7 17,Zu 8 18]) (ZR [Zm 19 0,u1 20 .nilCheck [.tm 19],Za 21 2 20,Zm 22 8,Zd 23 65 21 22] (ZR [Zm 24 0,Zt 25 2 7,u1 26 .nilCheck [.tm 24],Za 27 0 26,Zs 2 27 25] (ZR [Zm 28 0,Zm 6 28] .ret)))))⟩
theorem YtY:Yf YGY Tryz.f32=some v32:=by kernel_rfl
def v64:VF:=⟨29,[.tmp 6],(ZR [u1 6 .mov [.cn (.val (.pointer none))]] (ZR [Zm 10 0,u1 11 .nilCheck [.tm 10],Za 12 0 11,Zt 13 2 12,Zm 14 1,Zm 15 2,u1 16 (.call 13) [.tm 13,.tm 14,.tm 15],Zm 9 16,Ze 17 0 9,Ze 18 1 9,Zn 7,Zs 2 7 17,Zm 8 18] (ZR [Zm 19 0,u1 20 .nilCheck [.tm 19],Za 21 2 20,Zm 22 8,Zd 23 65 21 22] (ZR [Zm 24 0,Zt 25 2 7,u1 26 .nilCheck [.tm 24],Za 27 0 26,Zs 2 27 25] (ZR [Zm 28 0,Zm 6 28] .ret)))))⟩
theorem Yxy:Yf YGY Tryz.f64=some v64:=by kernel_rfl
def v92:VF:=⟨23,[.tmp 2],(ZR [u1 2 .mov [.cn (.val (.pointer none))]] (ZR [Zm 6 0,u1 7 .nilCheck [.tm 6],Za 8 0 7,Zt 9 2 8,u1 10 (.call 110) [.tm 9,.cn (.int .i64 2)],Zm 5 10,Ze 11 0 5,Ze 12 1 5,Zn 3,Zs 2 3 11,Zm 4 12] (ZR [Zm 13 0,u1 14 .nilCheck [.tm 13],Za 15 2 14,Zm 16 4,Zd 17 65 15 16] (ZR [Zm 18 0,Zt 19 2 3,u1 20 .nilCheck [.tm 18],Za 21 0 20,Zs 2 21 19] (ZR [Zm 22 0,Zm 2 22] .ret)))))⟩
theorem YGF:Yf YGY Tryz.f92=some v92:=by kernel_rfl
def v65:VF:=⟨13,[],(ZR [Zm 4 0,u1 5 .nilCheck [.tm 4],Za 6 0 5,Zf 7 1 6,Zq 8 .eql 7 0] (ZC 8 (.region [Zm 9 0,Zm 10 1,u1 11 .nilCheck [.tm 9],Za 12 0 11,Zs 1 12 10]) .skip))⟩
theorem YtZ:Yf YGY Tryz.f65=some v65:=by kernel_rfl
def v63:VF:=⟨49,[.cell 2 true 2,.cell 3 true 2],(ZR [u1 1 .box [.tm 0],Zn 2,Zn 3] (ZR [Za 6 1 1,Zf 7 1 6,Zc 8 90 7,u1 9 .nilCheck [.tm 8],Za 10 0 9,Zt 11 2 10,Zn 4,Zs 2 4 11] (.seq (.draw [] [Zy 12 3 1,Zv 13 1 12,Zy 15 4 1,Zv 16 1 15,w1 14 (.call 90) [.tm 13],w1 17 (.call 90) [.tm 16],w1 18 .nilCheck [.tm 17],Zy 19 0 18,Zw 20 2 19,w1 21 (.call 32) [.tm 14,.cn (.fn (.func 91) [] []),.tm 20],w1 22 (.call 92) [.tm 21],Zu 5 22]) (.seq (.drawT [] (.ops [Zy 23 1 1] (.ops [Zv 24 1 23] (.ops [Zw 26 2 4] (.br (.ops [w1 25 (.call 90) [.tm 24]] (.br (.ops [w1 27 (.call 32) [.tm 25,.cn (.fn (.func 91) [] []),.tm 26]] (.br (.ops [w1 28 (.call 64) [.tm 27,.cn (.int .i64 575),.cn (.int .i64 1000)]] (.ops [Zu 29 5] (.ops [w1 30 .nilCheck [.tm 29]] (.ops [Zy 31 0 30] (.ops [Zw 32 2 31] (.ops [w1 33 (.call 32) [.tm 28,.cn (.fn (.func 33) [] []),.tm 32]] (.ops [w1 34 .nilCheck [.tm 33]] (.ops [Zy 35 0 34] (.ops [Zw 36 2 35] (.ops [ZS 2 2 36] .leaf)))))))))) (.ops [Zu 29 5] (.br (.ops [w1 28 (.call 64) [.tm 27,.cn (.int .i64 575),.cn (.int .i64 1000)]] (.ops [w1 30 .nilCheck [.tm 29]] (.ops [Zy 31 0 30] (.ops [Zw 32 2 31] (.ops [w1 33 (.call 32) [.tm 28,.cn (.fn (.func 33) [] []),.tm 32]] (.ops [w1 34 .nilCheck [.tm 33]] (.ops [Zy 35 0 34] (.ops [Zw 36 2 35] (.ops [ZS 2 2 36] .leaf))))))))) (.ops [w1 30 .nilCheck [.tm 29]] (.br (.ops [w1 28 (.call 64) [.tm 27,.cn (.int .i64 575),.cn (.int .i64 1000)]] (.ops [Zy 31 0 30] (.ops [Zw 32 2 31] (.ops [w1 33 (.call 32) [.tm 28,.cn (.fn (.func 33) [] []),.tm 32]] (.ops [w1 34 .nilCheck [.tm 33]] (.ops [Zy 35 0 34] (.ops [Zw 36 2 35] (.ops [ZS 2 2 36] .leaf)))))))) (.ops [Zy 31 0 30] (.br (.ops [w1 28 (.call 64) [.tm 27,.cn (.int .i64 575),.cn (.int .i64 1000)]] (.ops [Zw 32 2 31] (.ops [w1 33 (.call 32) [.tm 28,.cn (.fn (.func 33) [] []),.tm 32]] (.ops [w1 34 .nilCheck [.tm 33]] (.ops [Zy 35 0 34] (.ops [Zw 36 2 35] (.ops [ZS 2 2 36] .leaf))))))) (.ops [Zw 32 2 31] (.ops [w1 28 (.call 64) [.tm 27,.cn (.int .i64 575),.cn (.int .i64 1000)]] (.ops [w1 33 (.call 32) [.tm 28,.cn (.fn (.func 33) [] []),.tm 32]] (.ops [w1 34 .nilCheck [.tm 33]] (.ops [Zy 35 0 34] (.ops [Zw 36 2 35] (.ops [ZS 2 2 36] .leaf))))))))))))))) (.ops [Zu 29 5] (.br (.ops [w1 27 (.call 32) [.tm 25,.cn (.fn (.func 91) [] []),.tm 26]] (.br (.ops [w1 28 (.call 64) [.tm 27,.cn (.int .i64 575),.cn (.int .i64 1000)]] (.ops [w1 30 .nilCheck [.tm 29]] (.ops [Zy 31 0 30] (.ops [Zw 32 2 31] (.ops [w1 33 (.call 32) [.tm 28,.cn (.fn (.func 33) [] []),.tm 32]] (.ops [w1 34 .nilCheck [.tm 33]] (.ops [Zy 35 0 34] (.ops [Zw 36 2 35] (.ops [ZS 2 2 36] .leaf))))))))) (.ops [w1 30 .nilCheck [.tm 29]] (.br (.ops [w1 28 (.call 64) [.tm 27,.cn (.int .i64 575),.cn (.int .i64 1000)]] (.ops [Zy 31 0 30] (.ops [Zw 32 2 31] (.ops [w1 33 (.call 32) [.tm 28,.cn (.fn (.func 33) [] []),.tm 32]] (.ops [w1 34 .nilCheck [.tm 33]] (.ops [Zy 35 0 34] (.ops [Zw 36 2 35] (.ops [ZS 2 2 36] .leaf)))))))) (.ops [Zy 31 0 30] (.br (.ops [w1 28 (.call 64) [.tm 27,.cn (.int .i64 575),.cn (.int .i64 1000)]] (.ops [Zw 32 2 31] (.ops [w1 33 (.call 32) [.tm 28,.cn (.fn (.func 33) [] []),.tm 32]] (.ops [w1 34 .nilCheck [.tm 33]] (.ops [Zy 35 0 34] (.ops [Zw 36 2 35] (.ops [ZS 2 2 36] .leaf))))))) (.ops [Zw 32 2 31] (.ops [w1 28 (.call 64) [.tm 27,.cn (.int .i64 575),.cn (.int .i64 1000)]] (.ops [w1 33 (.call 32) [.tm 28,.cn (.fn (.func 33) [] []),.tm 32]] (.ops [w1 34 .nilCheck [.tm 33]] (.ops [Zy 35 0 34] (.ops [Zw 36 2 35] (.ops [ZS 2 2 36] .leaf))))))))))))) (.ops [w1 30 .nilCheck [.tm 29]] (.br (.ops [w1 27 (.call 32) [.tm 25,.cn (.fn (.func 91) [] []),.tm 26]] (.br (.ops [w1 28 (.call 64) [.tm 27,.cn (.int .i64 575),.cn (.int .i64 1000)]] (.ops [Zy 31 0 30] (.ops [Zw 32 2 31] (.ops [w1 33 (.call 32) [.tm 28,.cn (.fn (.func 33) [] []),.tm 32]] (.ops [w1 34 .nilCheck [.tm 33]] (.ops [Zy 35 0 34] (.ops [Zw 36 2 35] (.ops [ZS 2 2 36] .leaf)))))))) (.ops [Zy 31 0 30] (.br (.ops [w1 28 (.call 64) [.tm 27,.cn (.int .i64 575),.cn (.int .i64 1000)]] (.ops [Zw 32 2 31] (.ops [w1 33 (.call 32) [.tm 28,.cn (.fn (.func 33) [] []),.tm 32]] (.ops [w1 34 .nilCheck [.tm 33]] (.ops [Zy 35 0 34] (.ops [Zw 36 2 35] (.ops [ZS 2 2 36] .leaf))))))) (.ops [Zw 32 2 31] (.ops [w1 28 (.call 64) [.tm 27,.cn (.int .i64 575),.cn (.int .i64 1000)]] (.ops [w1 33 (.call 32) [.tm 28,.cn (.fn (.func 33) [] []),.tm 32]] (.ops [w1 34 .nilCheck [.tm 33]] (.ops [Zy 35 0 34] (.ops [Zw 36 2 35] (.ops [ZS 2 2 36] .leaf))))))))))) (.ops [Zy 31 0 30] (.br (.ops [w1 27 (.call 32) [.tm 25,.cn (.fn (.func 91) [] []),.tm 26]] (.br (.ops [w1 28 (.call 64) [.tm 27,.cn (.int .i64 575),.cn (.int .i64 1000)]] (.ops [Zw 32 2 31] (.ops [w1 33 (.call 32) [.tm 28,.cn (.fn (.func 33) [] []),.tm 32]] (.ops [w1 34 .nilCheck [.tm 33]] (.ops [Zy 35 0 34] (.ops [Zw 36 2 35] (.ops [ZS 2 2 36] .leaf))))))) (.ops [Zw 32 2 31] (.ops [w1 28 (.call 64) [.tm 27,.cn (.int .i64 575),.cn (.int .i64 1000)]] (.ops [w1 33 (.call 32) [.tm 28,.cn (.fn (.func 33) [] []),.tm 32]] (.ops [w1 34 .nilCheck [.tm 33]] (.ops [Zy 35 0 34] (.ops [Zw 36 2 35] (.ops [ZS 2 2 36] .leaf))))))))) (.ops [Zw 32 2 31] (.ops [w1 27 (.call 32) [.tm 25,.cn (.fn (.func 91) [] []),.tm 26]] (.ops [w1 28 (.call 64) [.tm 27,.cn (.int .i64 575),.cn (.int .i64 1000)]] (.ops [w1 33 (.call 32) [.tm 28,.cn (.fn (.func 33) [] []),.tm 32]] (.ops [w1 34 .nilCheck [.tm 33]] (.ops [Zy 35 0 34] (.ops [Zw 36 2 35] (.ops [ZS 2 2 36] .leaf)))))))))))))))) (.ops [Zu 29 5] (.br (.ops [w1 25 (.call 90) [.tm 24]] (.br (.ops [w1 27 (.call 32) [.tm 25,.cn (.fn (.func 91) [] []),.tm 26]] (.br (.ops [w1 28 (.call 64) [.tm 27,.cn (.int .i64 575),.cn (.int .i64 1000)]] (.ops [w1 30 .nilCheck [.tm 29]] (.ops [Zy 31 0 30] (.ops [Zw 32 2 31] (.ops [w1 33 (.call 32) [.tm 28,.cn (.fn (.func 33) [] []),.tm 32]] (.ops [w1 34 .nilCheck [.tm 33]] (.ops [Zy 35 0 34] (.ops [Zw 36 2 35] (.ops [ZS 2 2 36] .leaf))))))))) (.ops [w1 30 .nilCheck [.tm 29]] (.br (.ops [w1 28 (.call 64) [.tm 27,.cn (.int .i64 575),.cn (.int .i64 1000)]] (.ops [Zy 31 0 30] (.ops [Zw 32 2 31] (.ops [w1 33 (.call 32) [.tm 28,.cn (.fn (.func 33) [] []),.tm 32]] (.ops [w1 34 .nilCheck [.tm 33]] (.ops [Zy 35 0 34] (.ops [Zw 36 2 35] (.ops [ZS 2 2 36] .leaf)))))))) (.ops [Zy 31 0 30] (.br (.ops [w1 28 (.call 64) [.tm 27,.cn (.int .i64 575),.cn (.int .i64 1000)]] (.ops [Zw 32 2 31] (.ops [w1 33 (.call 32) [.tm 28,.cn (.fn (.func 33) [] []),.tm 32]] (.ops [w1 34 .nilCheck [.tm 33]] (.ops [Zy 35 0 34] (.ops [Zw 36 2 35] (.ops [ZS 2 2 36] .leaf))))))) (.ops [Zw 32 2 31] (.ops [w1 28 (.call 64) [.tm 27,.cn (.int .i64 575),.cn (.int .i64 1000)]] (.ops [w1 33 (.call 32) [.tm 28,.cn (.fn (.func 33) [] []),.tm 32]] (.ops [w1 34 .nilCheck [.tm 33]] (.ops [Zy 35 0 34] (.ops [Zw 36 2 35] (.ops [ZS 2 2 36] .leaf))))))))))))) (.ops [w1 30 .nilCheck [.tm 29]] (.br (.ops [w1 27 (.call 32) [.tm 25,.cn (.fn (.func 91) [] []),.tm 26]] (.br (.ops [w1 28 (.call 64) [.tm 27,.cn (.int .i64 575),.cn (.int .i64 1000)]] (.ops [Zy 31 0 30] (.ops [Zw 32 2 31] (.ops [w1 33 (.call 32) [.tm 28,.cn (.fn (.func 33) [] []),.tm 32]] (.ops [w1 34 .nilCheck [.tm 33]] (.ops [Zy 35 0 34] (.ops [Zw 36 2 35] (.ops [ZS 2 2 36] .leaf)))))))) (.ops [Zy 31 0 30] (.br (.ops [w1 28 (.call 64) [.tm 27,.cn (.int .i64 575),.cn (.int .i64 1000)]] (.ops [Zw 32 2 31] (.ops [w1 33 (.call 32) [.tm 28,.cn (.fn (.func 33) [] []),.tm 32]] (.ops [w1 34 .nilCheck [.tm 33]] (.ops [Zy 35 0 34] (.ops [Zw 36 2 35] (.ops [ZS 2 2 36] .leaf))))))) (.ops [Zw 32 2 31] (.ops [w1 28 (.call 64) [.tm 27,.cn (.int .i64 575),.cn (.int .i64 1000)]] (.ops [w1 33 (.call 32) [.tm 28,.cn (.fn (.func 33) [] []),.tm 32]] (.ops [w1 34 .nilCheck [.tm 33]] (.ops [Zy 35 0 34] (.ops [Zw 36 2 35] (.ops [ZS 2 2 36] .leaf))))))))))) (.ops [Zy 31 0 30] (.br (.ops [w1 27 (.call 32) [.tm 25,.cn (.fn (.func 91) [] []),.tm 26]] (.br (.ops [w1 28 (.call 64) [.tm 27,.cn (.int .i64 575),.cn (.int .i64 1000)]] (.ops [Zw 32 2 31] (.ops [w1 33 (.call 32) [.tm 28,.cn (.fn (.func 33) [] []),.tm 32]] (.ops [w1 34 .nilCheck [.tm 33]] (.ops [Zy 35 0 34] (.ops [Zw 36 2 35] (.ops [ZS 2 2 36] .leaf))))))) (.ops [Zw 32 2 31] (.ops [w1 28 (.call 64) [.tm 27,.cn (.int .i64 575),.cn (.int .i64 1000)]] (.ops [w1 33 (.call 32) [.tm 28,.cn (.fn (.func 33) [] []),.tm 32]] (.ops [w1 34 .nilCheck [.tm 33]] (.ops [Zy 35 0 34] (.ops [Zw 36 2 35] (.ops [ZS 2 2 36] .leaf))))))))) (.ops [Zw 32 2 31] (.ops [w1 27 (.call 32) [.tm 25,.cn (.fn (.func 91) [] []),.tm 26]] (.ops [w1 28 (.call 64) [.tm 27,.cn (.int .i64 575),.cn (.int .i64 1000)]] (.ops [w1 33 (.call 32) [.tm 28,.cn (.fn (.func 33) [] []),.tm 32]] (.ops [w1 34 .nilCheck [.tm 33]] (.ops [Zy 35 0 34] (.ops [Zw 36 2 35] (.ops [ZS 2 2 36] .leaf)))))))))))))) (.ops [w1 30 .nilCheck [.tm 29]] (.br (.ops [w1 25 (.call 90) [.tm 24]] (.br (.ops [w1 27 (.call 32) [.tm 25,.cn (.fn (.func 91) [] []),.tm 26]] (.br (.ops [w1 28 (.call 64) [.tm 27,.cn (.int .i64 575),.cn (.int .i64 1000)]] (.ops [Zy 31 0 30] (.ops [Zw 32 2 31] (.ops [w1 33 (.call 32) [.tm 28,.cn (.fn (.func 33) [] []),.tm 32]] (.ops [w1 34 .nilCheck [.tm 33]] (.ops [Zy 35 0 34] (.ops [Zw 36 2 35] (.ops [ZS 2 2 36] .leaf)))))))) (.ops [Zy 31 0 30] (.br (.ops [w1 28 (.call 64) [.tm 27,.cn (.int .i64 575),.cn (.int .i64 1000)]] (.ops [Zw 32 2 31] (.ops [w1 33 (.call 32) [.tm 28,.cn (.fn (.func 33) [] []),.tm 32]] (.ops [w1 34 .nilCheck [.tm 33]] (.ops [Zy 35 0 34] (.ops [Zw 36 2 35] (.ops [ZS 2 2 36] .leaf))))))) (.ops [Zw 32 2 31] (.ops [w1 28 (.call 64) [.tm 27,.cn (.int .i64 575),.cn (.int .i64 1000)]] (.ops [w1 33 (.call 32) [.tm 28,.cn (.fn (.func 33) [] []),.tm 32]] (.ops [w1 34 .nilCheck [.tm 33]] (.ops [Zy 35 0 34] (.ops [Zw 36 2 35] (.ops [ZS 2 2 36] .leaf))))))))))) (.ops [Zy 31 0 30] (.br (.ops [w1 27 (.call 32) [.tm 25,.cn (.fn (.func 91) [] []),.tm 26]] (.br (.ops [w1 28 (.call 64) [.tm 27,.cn (.int .i64 575),.cn (.int .i64 1000)]] (.ops [Zw 32 2 31] (.ops [w1 33 (.call 32) [.tm 28,.cn (.fn (.func 33) [] []),.tm 32]] (.ops [w1 34 .nilCheck [.tm 33]] (.ops [Zy 35 0 34] (.ops [Zw 36 2 35] (.ops [ZS 2 2 36] .leaf))))))) (.ops [Zw 32 2 31] (.ops [w1 28 (.call 64) [.tm 27,.cn (.int .i64 575),.cn (.int .i64 1000)]] (.ops [w1 33 (.call 32) [.tm 28,.cn (.fn (.func 33) [] []),.tm 32]] (.ops [w1 34 .nilCheck [.tm 33]] (.ops [Zy 35 0 34] (.ops [Zw 36 2 35] (.ops [ZS 2 2 36] .leaf))))))))) (.ops [Zw 32 2 31] (.ops [w1 27 (.call 32) [.tm 25,.cn (.fn (.func 91) [] []),.tm 26]] (.ops [w1 28 (.call 64) [.tm 27,.cn (.int .i64 575),.cn (.int .i64 1000)]] (.ops [w1 33 (.call 32) [.tm 28,.cn (.fn (.func 33) [] []),.tm 32]] (.ops [w1 34 .nilCheck [.tm 33]] (.ops [Zy 35 0 34] (.ops [Zw 36 2 35] (.ops [ZS 2 2 36] .leaf)))))))))))) (.ops [Zy 31 0 30] (.br (.ops [w1 25 (.call 90) [.tm 24]] (.br (.ops [w1 27 (.call 32) [.tm 25,.cn (.fn (.func 91) [] []),.tm 26]] (.br (.ops [w1 28 (.call 64) [.tm 27,.cn (.int .i64 575),.cn (.int .i64 1000)]] (.ops [Zw 32 2 31] (.ops [w1 33 (.call 32) [.tm 28,.cn (.fn (.func 33) [] []),.tm 32]] (.ops [w1 34 .nilCheck [.tm 33]] (.ops [Zy 35 0 34] (.ops [Zw 36 2 35] (.ops [ZS 2 2 36] .leaf))))))) (.ops [Zw 32 2 31] (.ops [w1 28 (.call 64) [.tm 27,.cn (.int .i64 575),.cn (.int .i64 1000)]] (.ops [w1 33 (.call 32) [.tm 28,.cn (.fn (.func 33) [] []),.tm 32]] (.ops [w1 34 .nilCheck [.tm 33]] (.ops [Zy 35 0 34] (.ops [Zw 36 2 35] (.ops [ZS 2 2 36] .leaf))))))))) (.ops [Zw 32 2 31] (.ops [w1 27 (.call 32) [.tm 25,.cn (.fn (.func 91) [] []),.tm 26]] (.ops [w1 28 (.call 64) [.tm 27,.cn (.int .i64 575),.cn (.int .i64 1000)]] (.ops [w1 33 (.call 32) [.tm 28,.cn (.fn (.func 33) [] []),.tm 32]] (.ops [w1 34 .nilCheck [.tm 33]] (.ops [Zy 35 0 34] (.ops [Zw 36 2 35] (.ops [ZS 2 2 36] .leaf)))))))))) (.ops [Zw 32 2 31] (.ops [w1 25 (.call 90) [.tm 24]] (.ops [w1 27 (.call 32) [.tm 25,.cn (.fn (.func 91) [] []),.tm 26]] (.ops [w1 28 (.call 64) [.tm 27,.cn (.int .i64 575),.cn (.int .i64 1000)]] (.ops [w1 33 (.call 32) [.tm 28,.cn (.fn (.func 33) [] []),.tm 32]] (.ops [w1 34 .nilCheck [.tm 33]] (.ops [Zy 35 0 34] (.ops [Zw 36 2 35] (.ops [ZS 2 2 36] .leaf)))))))))))))))))))) (.seq (ZR [Za 37 0 1,Zf 38 1 37,Zq 39 .neq 38 2] (ZC 39 (.region [Za 40 2 1,Zf 41 1 40,Zc 42 90 41,u1 43 (.call 64) [.tm 42,.cn (.int .i64 30665),.cn (.int .i64 100000)],u1 44 .nilCheck [.tm 43],Za 45 0 44,Zt 46 2 45,Zs 2 3 46]) .skip)) (.seq (.draw [] [Zw 47 2 2,Zw 48 2 3,⟨Zs 2 2 47,[.tm 3]⟩,ZS 2 3 48]) .ret))))))⟩
theorem YGk:Yf YGY Tryz.f63=some v63:=by kernel_rfl
def ofSC:Ctr:={ alias:=false,of:=fun l=>match l with
 | [.int .i64 n]=> .fin (.ptr 0 0) [.box [.int .i64 n,.int .i64 n,.int .i64 0]]
 |_=>noC}
def UL2:Env:={ ct:=fun _=>none,fn:=fun _=>none,meth:=fun _ _=>none}
theorem YCs:Yl YGY UL2:=by
 refine⟨fun f c h=>?_,fun f vf h=>?_,(fun _ _ _ h=>by cases h),by kernel_rfl,(fun _ h=>by cases h)⟩
 . cases h
 . cases h
theorem ofS_c:ofSC.ok YGY 90:=by
 refine YdI Tryz.func90 YGD YCs 100 ofSC fun args k h=>?_
 simp only[ofSC]at h
 split at h
 . rename_i n
   refine⟨[.int .i64 n],by simp [leL,le],?_⟩
   dsimp only[v90,go_sem,reduceIte,YGU]
   simp only[Yc,YGU,YGW,reduceCtorEq,YGV]
   exact⟨h,trivial,⟨trivial,trivial,trivial,trivial⟩,trivial⟩
 . exact h.1.elim
def corC:Ctr:={ alias:=false,of:=fun l=>match l with
 | [.agg [.int .i64 a,.int .i64 b,.int .i64 c,.int .i64 d,.int .i64 e]]=> .pre (chkB ⟨a,b,c,d,e⟩=0) (.fin (.tup [.agg (enc2 (YaB ⟨a,b,c,d,e⟩)),.agg (enc2 (endF ⟨a,b,c,d,e⟩))]) [])
 |_=>noC}
theorem YqY{k:SV->List HO->Prop}{al:Bool}{hp:List HO}{p q:Iv}(h:k (.tup [.agg (enc2 p),.agg (enc2 q)]) []):Yy al k (.tup [.agg [.int .i64 p.1,.int .i64 p.2],.agg [.int .i64 q.1,.int .i64 q.2]]) hp:=
 YD (show k _ []from h) (Yw (.tup [.agg [.int .i64 p.1,.int .i64 p.2],.agg [.int .i64 q.1,.int .i64 q.2]]) ⟨⟨trivial,trivial,trivial⟩,⟨trivial,trivial,trivial⟩,trivial⟩) (fun _=>by simp [enc2,Yj,Yk])
def UL1:Env:={ ct:=fun n=>match n with|91=>some mulC|33=>some quoC|13=>some sclC|110=>some rootC|90=>some ofSC|_=>none,fn:=fun n=>match n with|32=>some v32|64=>some v64|92=>some v92|65=>some v65|_=>none,meth:=fun _ _=>none,lo:=fun n=>match n with|32=>true|64=>true|92=>true|_=>false}
theorem YcX:UL1.ct 91=some mulC:=rfl
theorem YcT:UL1.ct 33=some quoC:=rfl
theorem YcR:UL1.ct 13=some sclC:=rfl
theorem Yb2:UL1.ct 110=some rootC:=rfl
theorem YcW:UL1.ct 90=some ofSC:=rfl
theorem YcS:UL1.ct 32=none:=rfl
theorem YcZ:UL1.fn 32=some v32:=rfl
theorem YcU:UL1.ct 64=none:=rfl
theorem Yc0:UL1.fn 64=some v64:=rfl
theorem YcY:UL1.ct 92=none:=rfl
theorem Yc2:UL1.fn 92=some v92:=rfl
theorem YcV:UL1.ct 65=none:=rfl
theorem Yc1:UL1.fn 65=some v65:=rfl
theorem YCr:Yl YGY UL1:=by
 refine⟨fun f c h=>?_,fun f vf h=>?_,(fun _ _ _ h=>by cases h),by kernel_rfl,fun f h=>?_⟩
 . simp only[UL1]at h
   split at h
   . cases h;exact⟨YEc,Tryz.f91,Tryz.func91,by kernel_rfl,by kernel_rfl⟩
   . cases h;exact⟨Yxg,Tryz.f33,Tryz.func33,by kernel_rfl,by kernel_rfl⟩
   . cases h;exact⟨Yo0,Tryz.f13,Tryz.func13,by kernel_rfl,by kernel_rfl⟩
   . cases h;exact⟨YAq,Tryz.f110,Tryz.func110,by kernel_rfl,by kernel_rfl⟩
   . cases h;exact⟨ofS_c,Tryz.f90,Tryz.func90,by kernel_rfl,by kernel_rfl⟩
   . cases h
 . simp only[UL1]at h
   split at h
   . cases h;exact⟨Tryz.f32,Tryz.func32,YtY,Tryz.f32,Tryz.func32,by kernel_rfl,by kernel_rfl⟩
   . cases h;exact⟨Tryz.f64,Tryz.func64,Yxy,Tryz.f64,Tryz.func64,by kernel_rfl,by kernel_rfl⟩
   . cases h;exact⟨Tryz.f92,Tryz.func92,YGF,Tryz.f92,Tryz.func92,by kernel_rfl,by kernel_rfl⟩
   . cases h;exact⟨Tryz.f65,Tryz.func65,YtZ,Tryz.f65,Tryz.func65,by kernel_rfl,by kernel_rfl⟩
   . cases h
 . simp only[UL1]at h
   split at h
   . kernel_rfl
   . kernel_rfl
   . kernel_rfl
   . cases h
theorem Yc3:UL1.lo 32=true:=rfl
theorem Yc4:UL1.lo 64=true:=rfl
theorem Yc5:UL1.lo 92=true:=rfl
theorem YDd:corC.ok YGY 63:=by
 refine Yb Tryz.func63 YGk YCr 600 corC fun args k h=>?_
 simp only[corC]at h
 split at h
 . rename_i a b c d e
   obtain⟨hchk,h⟩:=h
   obtain⟨_,⟨b0,b1⟩,⟨c0,c1⟩,⟨d0,d1⟩,e0,e1⟩:=Yhq hchk
   dsimp only at b0 b1 c0 c1 d0 d1 e0 e1
   have M1:(mulF (d,d) (e,e)).2=0:=by rw[Yl3 (by omega) d1 (by omega) e1]
   have M2:(mulF (b,b) (b,b)).2=0:=by rw[Yl3 (by omega) (by omega) (by omega) (by omega)]
   have M3:(sclF ((mulF (b,b) (b,b)).1.1,(mulF (b,b) (b,b)).1.2) 575 1000).2=0:=by
     have hb1:b*b<=500000*500000:=YaG b1 b1 (by omega) (by decide)
     have hb0:0<=b*b:=YG7 (by omega) (by omega)
     rw[Yl3 (by omega) (by omega) (by omega) (by omega)]
     exact Ytt hb0 (YHS _) (by simp only;omega) (by decide) (by decide) (by decide) (by decide)
   have hN:¬a=2->k (.tup [.agg (enc2 (YaB ⟨a,b,c,d,e⟩)),.agg (enc2 (sclF (c,c) 30665 100000).1)]) []:=fun hc=>by
     have h:k (.tup [.agg (enc2 (YaB ⟨a,b,c,d,e⟩)),.agg (enc2 (endF ⟨a,b,c,d,e⟩))]) []:=h
     rw[endF,if_neg hc]at h;exact h
   have hY:a=2->k (.tup [.agg (enc2 (YaB ⟨a,b,c,d,e⟩)),.agg (enc2 ((0,0):Iv))]) []:=fun hc=>by
     have h:k (.tup [.agg (enc2 (YaB ⟨a,b,c,d,e⟩)),.agg (enc2 (endF ⟨a,b,c,d,e⟩))]) []:=h
     rw[endF,if_pos hc]at h;exact h
   refine⟨[.agg [.int .i64 a,.int .i64 b,.int .i64 c,.int .i64 d,.int .i64 e]],by simp [leL,le],?_⟩
   dsimp only[v63,YcX,YcT,YcR,Yb2,YcW,ofSC,mulC,quoC,sclC,rootC,iv2C,ivoC,enc2,YcS,YcZ,Yc3,v32,YcU,Yc0,Yc4,v64,YcY,Yc2,Yc5,v92,YcV,Yc1,v65,go_sem,reduceIte,YGU]
   simp only[Yc,YGU,YGW,reduceCtorEq,YGV]
   (refine Ybk _ (by((try dsimp only[YcX,YcT,YcR,Yb2,YcW,ofSC,mulC,quoC,sclC,rootC,iv2C,ivoC,enc2,YcS,YcZ,Yc3,v32,YcU,Yc0,Yc4,v64,YcY,Yc2,Yc5,v92,YcV,Yc1,v65,go_sem,reduceIte,YGU]);(try simp only[Yc,YGU,YGW,reduceCtorEq,YGV]));exact⟨by decide,by decide,rfl,fun hh=>absurd trivial hh⟩) ?_;(try simp only[M1,M2,M3]);((try dsimp only[YcX,YcT,YcR,Yb2,YcW,ofSC,mulC,quoC,sclC,rootC,iv2C,ivoC,enc2,YcS,YcZ,Yc3,v32,YcU,Yc0,Yc4,v64,YcY,Yc2,Yc5,v92,YcV,Yc1,v65,go_sem,reduceIte,YGU]);(try simp only[Yc,YGU,YGW,reduceCtorEq,YGV])))
   (refine Ybk _ (by((try dsimp only[YcX,YcT,YcR,Yb2,YcW,ofSC,mulC,quoC,sclC,rootC,iv2C,ivoC,enc2,YcS,YcZ,Yc3,v32,YcU,Yc0,Yc4,v64,YcY,Yc2,Yc5,v92,YcV,Yc1,v65,go_sem,reduceIte,YGU]);(try simp only[Yc,YGU,YGW,reduceCtorEq,YGV]));exact⟨by decide,by decide,rfl,fun hh=>absurd trivial hh⟩) ?_;(try simp only[M1,M2,M3]);((try dsimp only[YcX,YcT,YcR,Yb2,YcW,ofSC,mulC,quoC,sclC,rootC,iv2C,ivoC,enc2,YcS,YcZ,Yc3,v32,YcU,Yc0,Yc4,v64,YcY,Yc2,Yc5,v92,YcV,Yc1,v65,go_sem,reduceIte,YGU]);(try simp only[Yc,YGU,YGW,reduceCtorEq,YGV])))
   repeat' (first|apply YHd| (refine Ybk _ (by((try dsimp only[YcX,YcT,YcR,Yb2,YcW,ofSC,mulC,quoC,sclC,rootC,iv2C,ivoC,enc2,YcS,YcZ,Yc3,v32,YcU,Yc0,Yc4,v64,YcY,Yc2,Yc5,v92,YcV,Yc1,v65,go_sem,reduceIte,YGU]);(try simp only[Yc,YGU,YGW,reduceCtorEq,YGV]));exact⟨by decide,by decide,rfl,fun hh=>absurd trivial hh⟩) ?_;(try simp only[M1,M2,M3]);((try dsimp only[YcX,YcT,YcR,Yb2,YcW,ofSC,mulC,quoC,sclC,rootC,iv2C,ivoC,enc2,YcS,YcZ,Yc3,v32,YcU,Yc0,Yc4,v64,YcY,Yc2,Yc5,v92,YcV,Yc1,v65,go_sem,reduceIte,YGU]);(try simp only[Yc,YGU,YGW,reduceCtorEq,YGV]))))
   all_goals first
     |exact fun hc=>⟨by decide,by decide,YqY (hN hc),fun hh=>absurd trivial hh⟩
     |exact fun hc=>YqY (hY hc)
 . exact h.1.elim
set_option maxHeartbeats 8000000
def v14:VF:=⟨47,[.cell 4 true 2,.cell 5 true 2,.tmp 6],(ZR [u1 2 .box [.tm 0],Zn 4,Zn 5,Zi 6 0] (.seq (ZR [Zt 10 7 2,Zm 11 1,Zm 12 1,u1 13 (.call 41) [.tm 10,.tm 11,.tm 12],Zm 7 13] (ZR [Zm 14 7,Zq 15 .neq 14 0] (ZC 15 (ZR [u1 16 (.build [(.int .i64 0),(.int .i64 0)] []) [],u1 17 (.build [(.int .i64 0),(.int .i64 0)] []) [],Zm 18 7,Zs 2 4 16,Zs 2 5 17,Zm 6 18] .ret) .skip))) (ZR [Zt 20 7 2,Zm 21 1,Zd 22 43 20 21,Zc 23 42 22,Zm 19 23,Ze 24 0 19,Ze 25 1 19,Zn 8,Zs 2 8 24,Zm 9 25] (ZR [Zt 27 2 8,Za 28 3 2,Zf 29 1 28,Za 30 4 2,Zf 31 1 30,u1 32 (.call 13) [.tm 27,.tm 29,.tm 31],Zm 26 32,Ze 33 0 26,Ze 34 1 26,Zs 2 4 33] (ZR [Zt 36 2 4,Za 37 5 2,Zf 38 1 37,Za 39 6 2,Zf 40 1 39,u1 41 (.call 13) [.tm 36,.tm 38,.tm 40],Zm 35 41,Ze 42 0 35,Ze 43 1 35,Zs 2 5 42,Zm 6 43] (.seq (.draw [] [Zw 44 2 4,Zw 45 2 5,Zu 46 6,⟨Zs 2 4 44,[.tm 5]⟩,ZS 2 5 45,Zu 6 46]) .ret))))))⟩
theorem YFQ:Yf YGY Tryz.f14=some v14:=by kernel_rfl
def v9:VF:=⟨57,[.cell 6 true 5,.tmp 7],(ZR [u1 3 .box [.tm 0],u1 6 (.alloc [(.int .i64 0),(.int .i64 0),(.int .i64 0),(.int .i64 0),(.int .i64 0)]) [],Zi 7 0] (ZR [Zt 15 7 3,Zm 16 1,Zd 17 14 15 16,Zm 14 17,Ze 18 0 14,Ze 19 1 14,Ze 20 2 14,Zn 8,Zn 9,Zs 2 8 18,Zs 2 9 19,Zm 10 20] (.seq (ZR [Zm 21 10,Zq 22 .neq 21 0] (ZC 22 (ZR [u1 23 (.build [(.int .i64 0),(.int .i64 0),(.int .i64 0),(.int .i64 0),(.int .i64 0)] []) [],Zm 24 10,Zs 5 6 23,Zm 7 24] .ret) .skip)) (.seq (ZR [Zm 25 2,u1 26 (.call 27) [.tm 25,.cn (.int .i64 1),.cn (.int .i64 3)],u1 27 .not [.tm 26]] (ZC 27 (ZR [u1 28 (.build [(.int .i64 0),(.int .i64 0),(.int .i64 0),(.int .i64 0),(.int .i64 0)] []) [],Zs 5 6 28,Zi 7 2] .ret) .skip)) (ZR [Zt 30 7 3,Zm 31 1,Zd 32 28 30 31,Zm 29 32,Ze 33 0 29,Ze 34 1 29,Zn 11,Zs 2 11 33,Zm 12 34] (ZR [Zm 35 2,Za 36 0 11,Zf 37 1 36,Za 38 0 11,Zf 39 1 38,Za 40 0 8,Zf 41 1 40,Za 42 0 9,Zf 43 1 42,u1 44 (.build [(.int .i64 0),(.int .i64 0),(.int .i64 0),(.int .i64 0),(.int .i64 0)] [(0,1),(1,1),(2,1),(3,1),(4,1)]) [.tm 35,.tm 37,.tm 39,.tm 41,.tm 43],u1 13 (.alloc [(.int .i64 0),(.int .i64 0),(.int .i64 0),(.int .i64 0),(.int .i64 0)]) [],Zs 5 13 44] (.seq (ZR [Zm 45 2,Zq 46 .eql 45 3] (ZC 46 (.region [Za 47 0 11,Zf 48 1 47,u1 49 (.ari .mul) [.tm 48,.cn (.int .i64 2)],u1 50 .quo [.tm 49,.cn (.int .i64 3)],Za 51 2 13,Zs 1 51 50]) .skip)) (.seq (ZR [Zt 52 5 13,Zc 53 29 52,Zq 54 .neq 53 0] (ZC 54 (ZR [u1 55 (.build [(.int .i64 0),(.int .i64 0),(.int .i64 0),(.int .i64 0),(.int .i64 0)] []) [],Zs 5 6 55,Zi 7 7] .ret) .skip)) (ZR [Zt 56 5 13,Zs 5 6 56,Zi 7 0] .ret)))))))))⟩
theorem v9_is:Yf YGY Tryz.f9=some v9:=by kernel_rfl
def v36:VF:=⟨20,[.cell 2 true 2,.cell 3 true 2,.tmp 4],(ZR [u1 1 .box [.tm 0],Zn 2,Zn 3,Zi 4 0] (.seq (ZR [Zt 6 5 1,Zc 7 29 6,Zm 5 7] (ZR [Zm 8 5,Zq 9 .neq 8 0] (ZC 9 (ZR [u1 10 (.build [(.int .i64 0),(.int .i64 0)] []) [],u1 11 (.build [(.int .i64 0),(.int .i64 0)] []) [],Zm 12 5,Zs 2 2 10,Zs 2 3 11,Zm 4 12] .ret) .skip))) (ZR [Zt 14 5 1,Zc 15 63 14,Zm 13 15,Ze 16 0 13,Ze 17 1 13,Zs 2 2 16,Zs 2 3 17] (.seq (.draw [] [Zw 18 2 2,Zw 19 2 3,⟨Zs 2 2 18,[.tm 3]⟩,ZS 2 3 19,w1 4 .mov [.cn (.int .i64 0)]]) .ret))))⟩
theorem YF5:Yf YGY Tryz.f36=some v36:=by kernel_rfl
def crnF(b:Bdy):Iv×Iv×Int:=if chkB b≠0 then((0,0),(0,0),chkB b)else(YaB b,endF b,0)
def crnC:Ctr:={ alias:=false,of:=fun l=>match l with
 | [.agg [.int .i64 a,.int .i64 b,.int .i64 c,.int .i64 d,.int .i64 e]]=> .fin (.tup [.agg (enc2 (crnF ⟨a,b,c,d,e⟩).1),.agg (enc2 (crnF ⟨a,b,c,d,e⟩).2.1),.int .i64 (crnF ⟨a,b,c,d,e⟩).2.2]) []
 |_=>noC}
theorem YjA{k:SV->List HO->Prop}{al:Bool}{hp:List HO}{p q:Iv}{e:Int}(h:k (.tup [.agg (enc2 p),.agg (enc2 q),.int .i64 e]) []):Yy al k (.tup [.agg [.int .i64 p.1,.int .i64 p.2],.agg [.int .i64 q.1,.int .i64 q.2],.int .i64 e]) hp:=
 YD (show k _ []from h) (Yw (.tup [.agg [.int .i64 p.1,.int .i64 p.2],.agg [.int .i64 q.1,.int .i64 q.2],.int .i64 e]) ⟨⟨trivial,trivial,trivial⟩,⟨trivial,trivial,trivial⟩,trivial,trivial⟩) (fun _=>by simp [enc2,Yj,Yk])
def UM0:Env:={ ct:=fun n=>match n with|29=>some chkBC|63=>some corC|_=>none,fn:=fun _=>none,meth:=fun _ _=>none}
theorem Yux:UM0.ct 29=some chkBC:=rfl
theorem Yuy:UM0.ct 63=some corC:=rfl
theorem YCu:Yl YGY UM0:=by
 refine⟨fun f c h=>?_,fun f vf h=>?_,(fun _ _ _ h=>by cases h),by kernel_rfl,(fun _ h=>by cases h)⟩
 . simp only[UM0]at h
   split at h
   . cases h;exact⟨Yrs,Tryz.f29,Tryz.func29,by kernel_rfl,by kernel_rfl⟩
   . cases h;exact⟨YDd,Tryz.f63,Tryz.func63,by kernel_rfl,by kernel_rfl⟩
   . cases h
 . cases h
theorem crn_c:crnC.ok YGY 36:=by
 refine Yb Tryz.func36 YF5 YCu 400 crnC fun args k h=>?_
 simp only[crnC]at h
 split at h
 . rename_i a b c d e
   have h:k (.tup [.agg (enc2 (crnF ⟨a,b,c,d,e⟩).1),.agg (enc2 (crnF ⟨a,b,c,d,e⟩).2.1),.int .i64 (crnF ⟨a,b,c,d,e⟩).2.2]) []:=h
   refine⟨[.agg [.int .i64 a,.int .i64 b,.int .i64 c,.int .i64 d,.int .i64 e]],by simp [leL,le],?_⟩
   dsimp only[v36,Yux,Yuy,chkBC,corC,enc2,go_sem,reduceIte,YGU]
   simp only[Yc,YGU,YGW,reduceCtorEq,YGV]
   refine⟨fun hc=>?_,fun hc=>?_⟩
   . rw[crnF,if_pos hc]at h
     exact YjA (p:=(0,0)) (q:=(0,0)) h
   . rw[crnF,if_neg (by rw[hc];decide)]at h
     refine⟨hc,?_⟩
     (try simp only[Yc,YGU,YGW,reduceCtorEq,YGV])
     exact⟨by decide,by decide,YjA (p:=YaB ⟨a,b,c,d,e⟩) (q:=endF ⟨a,b,c,d,e⟩) (e:=0) h⟩
 . exact h.1.elim
def mouC:Ctr:={ alias:=false,of:=fun l=>match l with
 | [.agg [.int .i64 d,.int .i64 c,.vs _ _ n sz get,.int .i64 mn,.int .i64 md,.int .i64 cn,.int .i64 cd],.int .i64 note]=>
   .ex (List (Int×Int)) fun bs=> .pre (lsP 2 enc2 n sz get bs/\n<=9223372036854775807) (.fin (.tup [.agg (enc2 (mouS ⟨d,c,bs,mn,md,cn,cd⟩ note).1),.agg (enc2 (mouS ⟨d,c,bs,mn,md,cn,cd⟩ note).2.1),.int .i64 (mouS ⟨d,c,bs,mn,md,cn,cd⟩ note).2.2]) [])
 |_=>noC}
def UM1:Env:={ ct:=fun n=>match n with|41=>some askC|43=>some diaC|42=>some piC|13=>some sclC|_=>none,fn:=fun _=>none,meth:=fun _ _=>none}
theorem YnI:UM1.ct 41=some askC:=rfl
theorem YnK:UM1.ct 43=some diaC:=rfl
theorem YnJ:UM1.ct 42=some piC:=rfl
theorem YnH:UM1.ct 13=some sclC:=rfl
theorem YCv:Yl YGY UM1:=by
 refine⟨fun f c h=>?_,fun f vf h=>?_,(fun _ _ _ h=>by cases h),by kernel_rfl,(fun _ h=>by cases h)⟩
 . simp only[UM1]at h
   split at h
   . cases h;exact⟨YCN,Tryz.f41,Tryz.func41,by kernel_rfl,by kernel_rfl⟩
   . cases h;exact⟨YDf,Tryz.f43,Tryz.func43,by kernel_rfl,by kernel_rfl⟩
   . cases h;exact⟨pi_ok,Tryz.f42,Tryz.func42,by kernel_rfl,by kernel_rfl⟩
   . cases h;exact⟨Yo0,Tryz.f13,Tryz.func13,by kernel_rfl,by kernel_rfl⟩
   . cases h
 . cases h
theorem YD9:mouC.ok YGY 14:=by
 refine Yb Tryz.func14 YFQ YCv 400 mouC fun args k h=>?_
 simp only[mouC]at h
 split at h
 . rename_i d c tt z n sz get mn md cn cd note
   obtain⟨bs,⟨⟨rfl,rfl,hg⟩,hn⟩,h⟩:=h
   refine⟨[.agg [.int .i64 d,.int .i64 c,.vs tt z bs.length 2 (fun k=>enc2 (bs.getD k default)),.int .i64 mn,.int .i64 md,.int .i64 cn,.int .i64 cd],.int .i64 note],⟨⟨⟨rfl,rfl⟩,⟨rfl,rfl⟩,⟨id,rfl,rfl,rfl,hg⟩,⟨rfl,rfl⟩,⟨rfl,rfl⟩,⟨rfl,rfl⟩,⟨rfl,rfl⟩,trivial⟩,⟨rfl,rfl⟩,trivial⟩,?_⟩
   obtain⟨s,hs⟩:∃s:Scl,s=⟨d,c,bs,mn,md,cn,cd⟩:=⟨_,rfl⟩
   have h:k (.tup [.agg (enc2 (mouS ⟨d,c,bs,mn,md,cn,cd⟩ note).1),.agg (enc2 (mouS ⟨d,c,bs,mn,md,cn,cd⟩ note).2.1),.int .i64 (mouS ⟨d,c,bs,mn,md,cn,cd⟩ note).2.2]) []:=h
   dsimp only[v14,YnI,YnK,YnJ,YnH,askC,diaC,piC,sclC,ivoC,enc2,go_sem,reduceIte,YGU]
   simp only[Yc,YGU,YGW,reduceCtorEq,YGV]
   have self:lsP 2 enc2 bs.length 2 (fun k=>[SV.int IntKind.i64 (bs.getD k default).fst,SV.int IntKind.i64 (bs.getD k default).snd]) bs:=⟨rfl,rfl,fun k _=>Yd _⟩
   refine⟨bs,⟨self,hn⟩,fun hc=>?_,fun hc=>?_⟩
   . rw[mouS,if_pos hc]at h
     exact YjA (p:=(0,0)) (q:=(0,0)) h
   . rw[mouS,if_neg (by rw[hc];decide)]at h
     obtain⟨a1,a2,_⟩:=YuX hc
     have:=YdO a1
     refine⟨bs,⟨self,a1,by omega,a2.2⟩,?_⟩
     (try dsimp only[YnI,YnK,YnJ,YnH,askC,diaC,piC,sclC,ivoC,enc2,go_sem,reduceIte,YGU])
     (try simp only[Yc,YGU,YGW,reduceCtorEq,YGV])
     exact⟨by decide,by decide,by decide,by decide,by decide,by decide,YjA (p:=widS ⟨d,c,bs,mn,md,cn,cd⟩ note) (q:=(cutS ⟨d,c,bs,mn,md,cn,cd⟩ note).1) (e:=(cutS ⟨d,c,bs,mn,md,cn,cd⟩ note).2) h⟩
 . exact h.1.elim
def bodC:Ctr:={ alias:=false,of:=fun l=>match l with
 | [.agg [.int .i64 d,.int .i64 c,.vs _ _ n sz get,.int .i64 mn,.int .i64 md,.int .i64 cn,.int .i64 cd],.int .i64 note,.int .i64 kind]=>
   .ex (List (Int×Int)) fun bs=> .pre (lsP 2 enc2 n sz get bs/\n<=9223372036854775807) (.fin (.tup [.agg (encY (bodF ⟨d,c,bs,mn,md,cn,cd⟩ note kind).1),.int .i64 (bodF ⟨d,c,bs,mn,md,cn,cd⟩ note kind).2]) [])
 |_=>noC}
theorem YfU{k:SV->List HO->Prop}{al:Bool}{hp:List HO}{p:Bdy}{e:Int}(h:k (.tup [.agg (encY p),.int .i64 e]) []):Yy al k (.tup [.agg [.int .i64 p.kind,.int .i64 p.bottom,.int .i64 p.top,.int .i64 p.mouth,.int .i64 p.cut],.int .i64 e]) hp:=
 YD (show k _ []from h) (Yw (.tup [.agg [.int .i64 p.kind,.int .i64 p.bottom,.int .i64 p.top,.int .i64 p.mouth,.int .i64 p.cut],.int .i64 e]) ⟨⟨trivial,trivial,trivial,trivial,trivial,trivial⟩,trivial,trivial⟩) (fun _=>by simp [encY,Yj,Yk])
def UM2:Env:={ ct:=fun n=>match n with|14=>some mouC|27=>some inC|28=>some diaFC|29=>some chkBC|_=>none,fn:=fun _=>none,meth:=fun _ _=>none}
theorem Yuz:UM2.ct 14=some mouC:=rfl
theorem YuA:UM2.ct 27=some inC:=rfl
theorem YuB:UM2.ct 28=some diaFC:=rfl
theorem YuC:UM2.ct 29=some chkBC:=rfl
theorem YCw:Yl YGY UM2:=by
 refine⟨fun f c h=>?_,fun f vf h=>?_,(fun _ _ _ h=>by cases h),by kernel_rfl,(fun _ h=>by cases h)⟩
 . simp only[UM2]at h
   split at h
   . cases h;exact⟨YD9,Tryz.f14,Tryz.func14,by kernel_rfl,by kernel_rfl⟩
   . cases h;exact⟨in_c,Tryz.f27,Tryz.func27,by kernel_rfl,by kernel_rfl⟩
   . cases h;exact⟨YDe,Tryz.f28,Tryz.func28,by kernel_rfl,by kernel_rfl⟩
   . cases h;exact⟨Yrs,Tryz.f29,Tryz.func29,by kernel_rfl,by kernel_rfl⟩
   . cases h
 . cases h
theorem Yyw:bodC.ok YGY 9:=by
 refine Yb Tryz.func9 v9_is YCw 400 bodC fun args k h=>?_
 simp only[bodC]at h
 split at h
 . rename_i d c tt z n sz get mn md cn cd note kind
   obtain⟨bs,⟨⟨rfl,rfl,hg⟩,hn⟩,h⟩:=h
   refine⟨[.agg [.int .i64 d,.int .i64 c,.vs tt z bs.length 2 (fun k=>enc2 (bs.getD k default)),.int .i64 mn,.int .i64 md,.int .i64 cn,.int .i64 cd],.int .i64 note,.int .i64 kind],⟨⟨⟨rfl,rfl⟩,⟨rfl,rfl⟩,⟨id,rfl,rfl,rfl,hg⟩,⟨rfl,rfl⟩,⟨rfl,rfl⟩,⟨rfl,rfl⟩,⟨rfl,rfl⟩,trivial⟩,⟨rfl,rfl⟩,⟨rfl,rfl⟩,trivial⟩,?_⟩
   have h:k (.tup [.agg (encY (bodF ⟨d,c,bs,mn,md,cn,cd⟩ note kind).1),.int .i64 (bodF ⟨d,c,bs,mn,md,cn,cd⟩ note kind).2]) []:=h
   dsimp only[v9,Yuz,YuA,YuB,YuC,mouC,inC,diaFC,chkBC,enc2,go_sem,reduceIte,YGU]
   simp only[Yc,YGU,YGW,reduceCtorEq,YGV]
   have self:lsP 2 enc2 bs.length 2 (fun k=>[SV.int IntKind.i64 (bs.getD k default).fst,SV.int IntKind.i64 (bs.getD k default).snd]) bs:=⟨rfl,rfl,fun k _=>Yd _⟩
   refine⟨bs,⟨self,hn⟩,by decide,by decide,by decide,fun hc=>?_,fun hc=>?_⟩
   . rw[bodF,if_pos hc]at h
     exact YfU (p:=bod0) h
   . rw[bodF,if_neg (by rw[hc];decide)]at h
     have hask:askS ⟨d,c,bs,mn,md,cn,cd⟩ note note=0:=by
       by_cases h0:askS ⟨d,c,bs,mn,md,cn,cd⟩ note note=0
       . exact h0
       . rw[mouS,if_pos h0]at hc;exact absurd hc h0
     obtain⟨hs,n0,_⟩:=YuX hask
     have hf:=YdO hs
     have hm:mouS ⟨d,c,bs,mn,md,cn,cd⟩ note=(widS ⟨d,c,bs,mn,md,cn,cd⟩ note,(cutS ⟨d,c,bs,mn,md,cn,cd⟩ note).1,(cutS ⟨d,c,bs,mn,md,cn,cd⟩ note).2):=by
       rw[mouS,if_neg (by rw[hask];decide)]
     have hd:diaF ⟨d,c,bs,mn,md,cn,cd⟩ note=(diaS ⟨d,c,bs,mn,md,cn,cd⟩ note,0):=by
       rw[diaF,if_neg (by rw[hask];decide)]
     obtain⟨d0,d1,d2,d3⟩:=YrB hs (note:=note) (by omega)
     refine⟨fun hi=>?_,fun hi=>⟨bs,⟨self,hn⟩,?_⟩⟩
     . rw[if_neg (by rw[hi];decide)]at h
       exact YfU (p:=bod0) h
     . rw[if_pos hi]at h
       rw[hd,hm]
       dsimp only
       have e1:IntKind.i64.wrap ((diaS ⟨d,c,bs,mn,md,cn,cd⟩ note).1*2)=(diaS ⟨d,c,bs,mn,md,cn,cd⟩ note).1*2:=YGZ _ (by omega)
       have e2:IntKind.i64.wrap (Int.tdiv ((diaS ⟨d,c,bs,mn,md,cn,cd⟩ note).1*2) 3)=Int.tdiv ((diaS ⟨d,c,bs,mn,md,cn,cd⟩ note).1*2) 3:=by
         refine YGZ _ ?_
         rw[Int.tdiv_eq_ediv_of_nonneg (by omega)]
         omega
       rw[e1,e2]
       refine⟨by decide,by decide,fun hk=>⟨by decide,fun hx=>?_,fun hx=>?_⟩,fun hk=>⟨fun hx=>?_,fun hx=>?_⟩⟩
       all_goals
         have hB:bodB ⟨d,c,bs,mn,md,cn,cd⟩ note kind=⟨kind,(diaS ⟨d,c,bs,mn,md,cn,cd⟩ note).1,if kind=3 then Int.tdiv ((diaS ⟨d,c,bs,mn,md,cn,cd⟩ note).1*2) 3 else(diaS ⟨d,c,bs,mn,md,cn,cd⟩ note).1,(widS ⟨d,c,bs,mn,md,cn,cd⟩ note).1,(cutS ⟨d,c,bs,mn,md,cn,cd⟩ note).1.1⟩:=rfl
         first|rw[if_pos hk]at hB|rw[if_neg hk]at hB
         rw[hB]at h
       . rw[if_pos hx]at h
         exact YfU (p:=bod0) h
       . rw[if_neg (by rw[hx];decide)]at h
         exact YfU h
       . rw[if_pos hx]at h
         exact YfU (p:=bod0) h
       . rw[if_neg (by rw[hx];decide)]at h
         exact YfU h
 . exact h.1.elim
def v30:VF:=⟨75,[.tmp 10,.cell 11 true 2,.tmp 12],(ZR [u1 5 .box [.tm 0],u1 6 .box [.tm 1],u1 10 .mov [.cn (.val (.pointer none))],Zn 11,Zi 12 0] (.seq (ZR [Zt 19 5 5,Zc 20 29 19,Zm 13 20] (ZR [Zm 21 13,Zq 22 .neq 21 0] (ZC 22 (ZR [u1 23 (.build [(.int .i64 0),(.int .i64 0)] []) [],Zm 24 13,u1 10 .mov [.cn (.val (.pointer none))],Zs 2 11 23,Zm 12 24] .ret) .skip))) (ZR [Zm 26 4,Zc 27 21 26,Zm 25 27,Ze 28 0 25,Ze 29 1 25,Zn 14,Zs 2 14 28,Zm 12 29] (.seq (ZR [Zm 30 12,Zq 31 .neq 30 0,Zm 32 31,Zj 33 32 false 0 6,Zh 34 32 false 1 33,Zg 35 32 false 2,u2 36 32 false (.cmp .lss) [.tm 34,.tm 35],u1 37 .or [.tm 32,.tm 36],Zm 38 37,Zj 39 38 false 0 6,Zh 40 38 false 1 39,Zj 41 38 false 1 6,Zh 42 38 false 1 41,u2 43 38 false (.cmp .gtr) [.tm 40,.tm 42],u1 44 .or [.tm 38,.tm 43],Zm 45 44,Zj 46 45 false 1 6,Zh 47 45 false 1 46,Zg 48 45 false 3,u2 49 45 false (.cmp .gtr) [.tm 47,.tm 48],u1 50 .or [.tm 45,.tm 49]] (ZC 50 (ZR [u1 51 (.build [(.int .i64 0),(.int .i64 0)] []) [],u1 10 .mov [.cn (.val (.pointer none))],Zs 2 11 51,Zi 12 2] .ret) .skip)) (ZR [u1 52 (.build [(.int .i64 0),(.int .i64 0),(.int .i64 0),(.int .i64 0)] [(1,1),(2,1),(3,1)]) [.cn (.int .i64 500),.cn (.int .i64 250),.cn (.int .i64 500)],u1 15 (.allocArr 4 1 [(.int .i64 0),(.int .i64 0),(.int .i64 0),(.int .i64 0)]) [],Zs 4 15 52] (ZR [Zt 54 5 5,Zc 55 63 54,Zm 53 55,Ze 56 0 53,Ze 57 1 53,Zn 16,Zn 17,Zs 2 16 56,Zs 2 17 57] (ZR [Zt 58 2 16,u1 59 (.build [(.int .i64 0),(.int .i64 0),(.int .i64 0)] [(0,2)]) [.tm 58],u1 60 .box [.tm 59],Zm 18 60] (.seq (.drawT [] (.ops [Zw 61 2 14] (.ops [w1 62 (.build [(.int .i64 0),(.int .i64 0),(.int .i64 0)] [(0,2)]) [.tm 61]] (.ops [Zy 64 0 5] (.ops [Zv 65 1 64] (.ops [w1 66 (.idxArr 4 1) [.tm 15,.tm 65]] (.ops [Zv 67 1 66] (.br (.ops [w1 63 .box [.tm 62]] (.br (.ops [w1 68 (.call 64) [.tm 63,.tm 67,.cn (.int .i64 1)]] (.br (.ops [Zu 69 18] (.ops [Zw 70 2 17] (.ops [w1 71 (.call 32) [.tm 69,.cn (.fn (.func 35) [] []),.tm 70]] (.ops [w1 72 .nilCheck [.tm 71]] (.ops [Zy 73 0 72] (.ops [Zw 74 2 73] (.ops [Zu 10 68] (.ops [ZS 2 11 74] (.ops [w1 12 .mov [.cn (.int .i64 0)]] .leaf))))))))) (.ops [Zw 70 2 17] (.ops [Zu 69 18] (.ops [w1 71 (.call 32) [.tm 69,.cn (.fn (.func 35) [] []),.tm 70]] (.ops [w1 72 .nilCheck [.tm 71]] (.ops [Zy 73 0 72] (.ops [Zw 74 2 73] (.ops [Zu 10 68] (.ops [ZS 2 11 74] (.ops [w1 12 .mov [.cn (.int .i64 0)]] .leaf))))))))))) (.br (.ops [Zu 69 18] (.br (.ops [w1 68 (.call 64) [.tm 63,.tm 67,.cn (.int .i64 1)]] (.ops [Zw 70 2 17] (.ops [w1 71 (.call 32) [.tm 69,.cn (.fn (.func 35) [] []),.tm 70]] (.ops [w1 72 .nilCheck [.tm 71]] (.ops [Zy 73 0 72] (.ops [Zw 74 2 73] (.ops [Zu 10 68] (.ops [ZS 2 11 74] (.ops [w1 12 .mov [.cn (.int .i64 0)]] .leaf))))))))) (.ops [Zw 70 2 17] (.ops [w1 68 (.call 64) [.tm 63,.tm 67,.cn (.int .i64 1)]] (.ops [w1 71 (.call 32) [.tm 69,.cn (.fn (.func 35) [] []),.tm 70]] (.ops [w1 72 .nilCheck [.tm 71]] (.ops [Zy 73 0 72] (.ops [Zw 74 2 73] (.ops [Zu 10 68] (.ops [ZS 2 11 74] (.ops [w1 12 .mov [.cn (.int .i64 0)]] .leaf))))))))))) (.ops [Zw 70 2 17] (.br (.ops [w1 68 (.call 64) [.tm 63,.tm 67,.cn (.int .i64 1)]] (.ops [Zu 69 18] (.ops [w1 71 (.call 32) [.tm 69,.cn (.fn (.func 35) [] []),.tm 70]] (.ops [w1 72 .nilCheck [.tm 71]] (.ops [Zy 73 0 72] (.ops [Zw 74 2 73] (.ops [Zu 10 68] (.ops [ZS 2 11 74] (.ops [w1 12 .mov [.cn (.int .i64 0)]] .leaf))))))))) (.ops [Zu 69 18] (.ops [w1 68 (.call 64) [.tm 63,.tm 67,.cn (.int .i64 1)]] (.ops [w1 71 (.call 32) [.tm 69,.cn (.fn (.func 35) [] []),.tm 70]] (.ops [w1 72 .nilCheck [.tm 71]] (.ops [Zy 73 0 72] (.ops [Zw 74 2 73] (.ops [Zu 10 68] (.ops [ZS 2 11 74] (.ops [w1 12 .mov [.cn (.int .i64 0)]] .leaf)))))))))))))) (.br (.ops [Zu 69 18] (.br (.ops [w1 63 .box [.tm 62]] (.br (.ops [w1 68 (.call 64) [.tm 63,.tm 67,.cn (.int .i64 1)]] (.ops [Zw 70 2 17] (.ops [w1 71 (.call 32) [.tm 69,.cn (.fn (.func 35) [] []),.tm 70]] (.ops [w1 72 .nilCheck [.tm 71]] (.ops [Zy 73 0 72] (.ops [Zw 74 2 73] (.ops [Zu 10 68] (.ops [ZS 2 11 74] (.ops [w1 12 .mov [.cn (.int .i64 0)]] .leaf))))))))) (.ops [Zw 70 2 17] (.ops [w1 68 (.call 64) [.tm 63,.tm 67,.cn (.int .i64 1)]] (.ops [w1 71 (.call 32) [.tm 69,.cn (.fn (.func 35) [] []),.tm 70]] (.ops [w1 72 .nilCheck [.tm 71]] (.ops [Zy 73 0 72] (.ops [Zw 74 2 73] (.ops [Zu 10 68] (.ops [ZS 2 11 74] (.ops [w1 12 .mov [.cn (.int .i64 0)]] .leaf))))))))))) (.ops [Zw 70 2 17] (.ops [w1 63 .box [.tm 62]] (.ops [w1 68 (.call 64) [.tm 63,.tm 67,.cn (.int .i64 1)]] (.ops [w1 71 (.call 32) [.tm 69,.cn (.fn (.func 35) [] []),.tm 70]] (.ops [w1 72 .nilCheck [.tm 71]] (.ops [Zy 73 0 72] (.ops [Zw 74 2 73] (.ops [Zu 10 68] (.ops [ZS 2 11 74] (.ops [w1 12 .mov [.cn (.int .i64 0)]] .leaf)))))))))))) (.ops [Zw 70 2 17] (.br (.ops [w1 63 .box [.tm 62]] (.br (.ops [w1 68 (.call 64) [.tm 63,.tm 67,.cn (.int .i64 1)]] (.ops [Zu 69 18] (.ops [w1 71 (.call 32) [.tm 69,.cn (.fn (.func 35) [] []),.tm 70]] (.ops [w1 72 .nilCheck [.tm 71]] (.ops [Zy 73 0 72] (.ops [Zw 74 2 73] (.ops [Zu 10 68] (.ops [ZS 2 11 74] (.ops [w1 12 .mov [.cn (.int .i64 0)]] .leaf))))))))) (.ops [Zu 69 18] (.ops [w1 68 (.call 64) [.tm 63,.tm 67,.cn (.int .i64 1)]] (.ops [w1 71 (.call 32) [.tm 69,.cn (.fn (.func 35) [] []),.tm 70]] (.ops [w1 72 .nilCheck [.tm 71]] (.ops [Zy 73 0 72] (.ops [Zw 74 2 73] (.ops [Zu 10 68] (.ops [ZS 2 11 74] (.ops [w1 12 .mov [.cn (.int .i64 0)]] .leaf))))))))))) (.ops [Zu 69 18] (.ops [w1 63 .box [.tm 62]] (.ops [w1 68 (.call 64) [.tm 63,.tm 67,.cn (.int .i64 1)]] (.ops [w1 71 (.call 32) [.tm 69,.cn (.fn (.func 35) [] []),.tm 70]] (.ops [w1 72 .nilCheck [.tm 71]] (.ops [Zy 73 0 72] (.ops [Zw 74 2 73] (.ops [Zu 10 68] (.ops [ZS 2 11 74] (.ops [w1 12 .mov [.cn (.int .i64 0)]] .leaf))))))))))))))))))))) .ret))))))))⟩
theorem YF0:Yf YGY Tryz.f30=some v30:=by kernel_rfl
def v31:VF:=⟨34,[.cell 4 true 2,.tmp 5],(ZR [Zn 4,Zi 5 0] (.seq (ZR [Zm 6 0,u1 7 .nilCheck [.tm 6],Za 8 2 7,Za 9 0 8,Zf 10 1 9,Zq 11 .neq 10 0,Zm 12 11,Zg 13 12 false 0,u2 14 12 false .nilCheck [.tm 13],Zj 15 12 false 0 14,Zj 16 12 false 0 15,Zh 17 12 false 1 16,u2 18 12 false (.cmp .lss) [.tm 17,.cn (.int .i64 1)],u1 19 .or [.tm 12,.tm 18],Zm 20 19,Zg 21 20 false 0,u2 22 20 false .nilCheck [.tm 21],Zj 23 20 false 0 22,Zj 24 20 false 1 23,Zh 25 20 false 1 24,Zg 26 20 false 1,u2 27 20 false (.cmp .gtr) [.tm 25,.tm 26],u1 28 .or [.tm 20,.tm 27]] (ZC 28 (ZR [u1 29 (.build [(.int .i64 0),(.int .i64 0)] []) [],Zs 2 4 29,Zi 5 7] .ret) .skip)) (ZR [Zm 30 0,u1 31 .nilCheck [.tm 30],Za 32 0 31,Zt 33 2 32,Zs 2 4 33,Zi 5 0] .ret)))⟩
theorem YF1:Yf YGY Tryz.f31=some v31:=by kernel_rfl
def begH(B:Bdy)(x:Iv)(t:Int):List HO:=[.box [.int .i64 B.kind,.int .i64 B.bottom,.int .i64 B.top,.int .i64 B.mouth,.int .i64 B.cut],.box [.int .i64 x.1,.int .i64 x.2],.box [.int .i64 (Yao B).1,.int .i64 (Yao B).2],.box [.int .i64 (Yal t).1.1,.int .i64 (Yal t).1.2],.own false 1 4 (YaW 1 [.int .i64 0,.int .i64 500,.int .i64 250,.int .i64 500]),.box [.int .i64 (YaB B).1,.int .i64 (YaB B).2],.box [.int .i64 (endF B).1,.int .i64 (endF B).2],.box [.int .i64 (Yao B).1,.int .i64 (Yao B).2,.int .i64 (addF (YaB B) (endF B)).2],.box [.int .i64 (wayF B t).1.1,.int .i64 (wayF B t).1.2,.int .i64 (wayF B t).2],.box [.int .i64 (wayF B t).1.1,.int .i64 (wayF B t).1.2],.box [.int .i64 (endF B).1,.int .i64 (endF B).2],.box [.int .i64 (Yao B).1,.int .i64 (Yao B).2]]
def begC:Ctr:={ alias:=false,of:=fun l=>match l with
 | [.agg [.int .i64 a,.int .i64 b,.int .i64 c,.int .i64 d,.int .i64 e],.agg [.int .i64 x0,.int .i64 x1],.int .i64 least,.int .i64 most,.int .i64 t]=>
   if chkB ⟨a,b,c,d,e⟩=0 then
     if(Yal t).2≠0\/x0<least\/x1<x0\/most<x1 then
       .fin (.tup [.val (.pointer none),.agg [.int .i64 0,.int .i64 0],.int .i64 2]) [.box [.int .i64 a,.int .i64 b,.int .i64 c,.int .i64 d,.int .i64 e],.box [.int .i64 x0,.int .i64 x1],.box [.int .i64 0,.int .i64 0],.box [.int .i64 (Yal t).1.1,.int .i64 (Yal t).1.2]]
     else .fin (.tup [.ptr 8 0,.agg [.int .i64 (Yao ⟨a,b,c,d,e⟩).1,.int .i64 (Yao ⟨a,b,c,d,e⟩).2],.int .i64 0]) (begH ⟨a,b,c,d,e⟩ (x0,x1) t)
   else .fin (.tup [.val (.pointer none),.agg [.int .i64 0,.int .i64 0],.int .i64 (chkB ⟨a,b,c,d,e⟩)]) [.box [.int .i64 a,.int .i64 b,.int .i64 c,.int .i64 d,.int .i64 e],.box [.int .i64 x0,.int .i64 x1],.box [.int .i64 0,.int .i64 0]]
 |_=>noC}
theorem Yrb(B:Bdy)(x:Iv)(t:Int):Yj (.tup [.ptr 8 0,.agg [.int .i64 (Yao B).1,.int .i64 (Yao B).2],.int .i64 0])/\YaR (begH B x t):=by
 refine⟨by simp [Yj,Yk],?_⟩
 simp only[begH,YaR,Yk,Yj,true_and,and_true]
 intro k hk
 match k,hk with
 |0,_=>exact⟨trivial,trivial⟩
 |1,_=>exact⟨trivial,trivial⟩
 |2,_=>exact⟨trivial,trivial⟩
 |3,_=>exact⟨trivial,trivial⟩
def UL3:Env:={ ct:=fun n=>match n with|29=>some chkBC|21=>some speedC|63=>some corC|35=>some addC|13=>some sclC|_=>none,fn:=fun n=>match n with|32=>some v32|64=>some v64|65=>some v65|_=>none,meth:=fun _ _=>none,lo:=fun n=>match n with|32=>true|64=>true|_=>false}
theorem Ya9:UL3.ct 29=some chkBC:=rfl
theorem Ya8:UL3.ct 21=some speedC:=rfl
theorem Ybc:UL3.ct 63=some corC:=rfl
theorem Ybb:UL3.ct 35=some addC:=rfl
theorem Ya7:UL3.ct 13=some sclC:=rfl
theorem Yba:UL3.ct 32=none:=rfl
theorem Ybf:UL3.fn 32=some v32:=rfl
theorem Ybd:UL3.ct 64=none:=rfl
theorem Ybg:UL3.fn 64=some v64:=rfl
theorem Ybe:UL3.ct 65=none:=rfl
theorem Ybh:UL3.fn 65=some v65:=rfl
theorem YCt:Yl YGY UL3:=by
 refine⟨fun f c h=>?_,fun f vf h=>?_,(fun _ _ _ h=>by cases h),by kernel_rfl,fun f h=>?_⟩
 . simp only[UL3]at h
   split at h
   . cases h;exact⟨Yrs,Tryz.f29,Tryz.func29,by kernel_rfl,by kernel_rfl⟩
   . cases h;exact⟨YAB,Tryz.f21,Tryz.func21,by kernel_rfl,by kernel_rfl⟩
   . cases h;exact⟨YDd,Tryz.f63,Tryz.func63,by kernel_rfl,by kernel_rfl⟩
   . cases h;exact⟨YnP,Tryz.f35,Tryz.func35,by kernel_rfl,by kernel_rfl⟩
   . cases h;exact⟨Yo0,Tryz.f13,Tryz.func13,by kernel_rfl,by kernel_rfl⟩
   . cases h
 . simp only[UL3]at h
   split at h
   . cases h;exact⟨Tryz.f32,Tryz.func32,YtY,Tryz.f32,Tryz.func32,by kernel_rfl,by kernel_rfl⟩
   . cases h;exact⟨Tryz.f64,Tryz.func64,Yxy,Tryz.f64,Tryz.func64,by kernel_rfl,by kernel_rfl⟩
   . cases h;exact⟨Tryz.f65,Tryz.func65,YtZ,Tryz.f65,Tryz.func65,by kernel_rfl,by kernel_rfl⟩
   . cases h
 . simp only[UL3]at h
   split at h
   . kernel_rfl
   . kernel_rfl
   . cases h
theorem Ybi:UL3.lo 32=true:=rfl
theorem Ybj:UL3.lo 64=true:=rfl
theorem beg_c:begC.ok YGY 30:=by
 refine YdI Tryz.func30 YF0 YCt 600 begC fun args k h=>?_
 simp only[begC]at h
 split at h
 . rename_i a b c d e x0 x1 least most t
   refine⟨[.agg [.int .i64 a,.int .i64 b,.int .i64 c,.int .i64 d,.int .i64 e],.agg [.int .i64 x0,.int .i64 x1],.int .i64 least,.int .i64 most,.int .i64 t],by simp [leL,le],?_⟩
   dsimp only[v30,Ya9,Ya8,Ybc,Ybb,Ya7,chkBC,speedC,corC,sclC,addC,iv2C,ivoC,enc2,Yba,Ybf,Ybi,v32,Ybd,Ybg,Ybj,v64,Ybe,Ybh,v65,go_sem,reduceIte,YGU]
   simp only[Yc,YGU,YGW,reduceCtorEq,YGV]
   refine⟨fun hc=>?_,fun hc=>⟨by decide,by decide,fun hg=>?_,fun hg=>⟨by decide,hc,by decide,by decide,?_⟩⟩⟩
   . rw[if_neg hc]at h
     exact⟨h,by simp [Yj,Yk],by simp [YaR,Yk,Yj]⟩
   . rw[if_pos hc,if_pos (by simpa [or_assoc]using hg)]at h
     exact⟨h,by simp [Yj,Yk],by simp [YaR,Yk,Yj]⟩
   . have hgood:k (.tup [.ptr 8 0,.agg [.int .i64 (Yao ⟨a,b,c,d,e⟩).1,.int .i64 (Yao ⟨a,b,c,d,e⟩).2],.int .i64 0]) (begH ⟨a,b,c,d,e⟩ (x0,x1) t):=by
       rw[if_pos hc,if_neg (fun hh=>by
         simp only[YHq,YHA,decide_eq_true_eq,decide_eq_false_iff_not]at hg
         omega)]at h
       exact h
     have hfr:=Yrb ⟨a,b,c,d,e⟩ (x0,x1) t
     have ha:a=1\/a=2\/a=3:=by
       obtain⟨⟨h1,h2⟩,_⟩:=Yhq hc
       dsimp only at h1 h2;omega
     rcases ha with rfl|rfl|rfl
     . refine⟨by decide,by decide,?_,?_⟩
       all_goals ((try dsimp only[Int.reduceToNat,Nat.reduceMul,Int.toNat_zero,Int.toNat_one,Ya9,Ya8,Ybc,Ybb,Ya7,chkBC,speedC,corC,sclC,addC,iv2C,ivoC,enc2,Yba,Ybf,Ybi,v32,Ybd,Ybg,Ybj,v64,Ybe,Ybh,v65,go_sem,reduceIte,YGU]);(try simp only[Yc,YGU,YGW,reduceCtorEq,YGV]))
       all_goals repeat' (first|exact⟨hgood,hfr⟩ |apply YHd| (refine Ybk _ (by((try dsimp only[Int.reduceToNat,Nat.reduceMul,Int.toNat_zero,Int.toNat_one,Ya9,Ya8,Ybc,Ybb,Ya7,chkBC,speedC,corC,sclC,addC,iv2C,ivoC,enc2,Yba,Ybf,Ybi,v32,Ybd,Ybg,Ybj,v64,Ybe,Ybh,v65,go_sem,reduceIte,YGU]);(try simp only[Yc,YGU,YGW,reduceCtorEq,YGV]));exact⟨by decide,by decide,rfl,fun hh=>absurd trivial hh⟩) ?_;((try dsimp only[Int.reduceToNat,Nat.reduceMul,Int.toNat_zero,Int.toNat_one,Ya9,Ya8,Ybc,Ybb,Ya7,chkBC,speedC,corC,sclC,addC,iv2C,ivoC,enc2,Yba,Ybf,Ybi,v32,Ybd,Ybg,Ybj,v64,Ybe,Ybh,v65,go_sem,reduceIte,YGU]);(try simp only[Yc,YGU,YGW,reduceCtorEq,YGV]))))
     . refine⟨by decide,by decide,?_,?_⟩
       all_goals ((try dsimp only[Int.reduceToNat,Nat.reduceMul,Int.toNat_zero,Int.toNat_one,Ya9,Ya8,Ybc,Ybb,Ya7,chkBC,speedC,corC,sclC,addC,iv2C,ivoC,enc2,Yba,Ybf,Ybi,v32,Ybd,Ybg,Ybj,v64,Ybe,Ybh,v65,go_sem,reduceIte,YGU]);(try simp only[Yc,YGU,YGW,reduceCtorEq,YGV]))
       all_goals repeat' (first|exact⟨hgood,hfr⟩ |apply YHd| (refine Ybk _ (by((try dsimp only[Int.reduceToNat,Nat.reduceMul,Int.toNat_zero,Int.toNat_one,Ya9,Ya8,Ybc,Ybb,Ya7,chkBC,speedC,corC,sclC,addC,iv2C,ivoC,enc2,Yba,Ybf,Ybi,v32,Ybd,Ybg,Ybj,v64,Ybe,Ybh,v65,go_sem,reduceIte,YGU]);(try simp only[Yc,YGU,YGW,reduceCtorEq,YGV]));exact⟨by decide,by decide,rfl,fun hh=>absurd trivial hh⟩) ?_;((try dsimp only[Int.reduceToNat,Nat.reduceMul,Int.toNat_zero,Int.toNat_one,Ya9,Ya8,Ybc,Ybb,Ya7,chkBC,speedC,corC,sclC,addC,iv2C,ivoC,enc2,Yba,Ybf,Ybi,v32,Ybd,Ybg,Ybj,v64,Ybe,Ybh,v65,go_sem,reduceIte,YGU]);(try simp only[Yc,YGU,YGW,reduceCtorEq,YGV]))))
     . refine⟨by decide,by decide,?_,?_⟩
       all_goals ((try dsimp only[Int.reduceToNat,Nat.reduceMul,Int.toNat_zero,Int.toNat_one,Ya9,Ya8,Ybc,Ybb,Ya7,chkBC,speedC,corC,sclC,addC,iv2C,ivoC,enc2,Yba,Ybf,Ybi,v32,Ybd,Ybg,Ybj,v64,Ybe,Ybh,v65,go_sem,reduceIte,YGU]);(try simp only[Yc,YGU,YGW,reduceCtorEq,YGV]))
       all_goals repeat' (first|exact⟨hgood,hfr⟩ |apply YHd| (refine Ybk _ (by((try dsimp only[Int.reduceToNat,Nat.reduceMul,Int.toNat_zero,Int.toNat_one,Ya9,Ya8,Ybc,Ybb,Ya7,chkBC,speedC,corC,sclC,addC,iv2C,ivoC,enc2,Yba,Ybf,Ybi,v32,Ybd,Ybg,Ybj,v64,Ybe,Ybh,v65,go_sem,reduceIte,YGU]);(try simp only[Yc,YGU,YGW,reduceCtorEq,YGV]));exact⟨by decide,by decide,rfl,fun hh=>absurd trivial hh⟩) ?_;((try dsimp only[Int.reduceToNat,Nat.reduceMul,Int.toNat_zero,Int.toNat_one,Ya9,Ya8,Ybc,Ybb,Ya7,chkBC,speedC,corC,sclC,addC,iv2C,ivoC,enc2,Yba,Ybf,Ybi,v32,Ybd,Ybg,Ybj,v64,Ybe,Ybh,v65,go_sem,reduceIte,YGU]);(try simp only[Yc,YGU,YGW,reduceCtorEq,YGV]))))
 . exact h.1.elim
def v10:VF:=⟨31,[.cell 6 true 2,.tmp 7],(ZR [u1 3 .box [.tm 0],u1 4 .box [.tm 1],Zn 6,Zi 7 0] (ZR [Zt 12 5 3,Zt 13 2 4,Zm 14 2,u1 15 (.call 30) [.tm 12,.tm 13,.cn (.int .i64 1000),.cn (.int .i64 20000000),.tm 14],Zm 11 15,Ze 16 0 11,Ze 17 1 11,Ze 18 2 11,Zn 9,Zm 8 16,Zs 2 9 17,Zm 10 18] (.seq (ZR [Zm 19 10,Zq 20 .neq 19 0] (ZC 20 (ZR [u1 21 (.build [(.int .i64 0),(.int .i64 0)] []) [],Zm 22 10,Zs 2 6 21,Zm 7 22] .ret) .skip)) (.seq (.drawT [] (.ops [Zu 23 8] (.ops [Zw 24 2 4] (.br (.ops [w1 25 (.call 32) [.tm 23,.cn (.fn (.func 33) [] []),.tm 24]] (.ops [Zw 26 2 9] (.ops [w1 27 (.call 32) [.tm 25,.cn (.fn (.func 34) [] []),.tm 26]] (.ops [w1 28 (.call 31) [.tm 27,.cn (.int .i64 12000000)]] (.ops [ZE 29 0 28] (.ops [ZE 30 1 28] (.ops [ZS 2 6 29] (.ops [Zu 7 30] .leaf)))))))) (.ops [Zw 26 2 9] (.ops [w1 25 (.call 32) [.tm 23,.cn (.fn (.func 33) [] []),.tm 24]] (.ops [w1 27 (.call 32) [.tm 25,.cn (.fn (.func 34) [] []),.tm 26]] (.ops [w1 28 (.call 31) [.tm 27,.cn (.int .i64 12000000)]] (.ops [ZE 29 0 28] (.ops [ZE 30 1 28] (.ops [ZS 2 6 29] (.ops [Zu 7 30] .leaf)))))))))))) .ret))))⟩
theorem YFM:Yf YGY Tryz.f10=some v10:=by kernel_rfl
def v11:VF:=⟨38,[.cell 6 true 2,.tmp 7],(ZR [u1 3 .box [.tm 0],u1 4 .box [.tm 1],Zn 6,Zi 7 0] (ZR [Zt 13 5 3,Zt 14 2 4,Zm 15 2,u1 16 (.call 30) [.tm 13,.tm 14,.cn (.int .i64 1),.cn (.int .i64 12000000),.tm 15],Zm 12 16,Ze 17 0 12,Ze 18 1 12,Ze 19 2 12,Zn 9,Zm 8 17,Zs 2 9 18,Zm 10 19] (.seq (ZR [Zm 20 10,Zq 21 .neq 20 0] (ZC 21 (ZR [u1 22 (.build [(.int .i64 0),(.int .i64 0)] []) [],Zm 23 10,Zs 2 6 22,Zm 7 23] .ret) .skip)) (ZR [Zt 24 2 4,u1 25 (.build [(.int .i64 0),(.int .i64 0),(.int .i64 0)] [(0,2)]) [.tm 24],u1 26 .box [.tm 25],Zt 27 2 9,u1 28 (.call 32) [.tm 26,.cn (.fn (.func 35) [] []),.tm 27],Zm 11 28] (ZR [Zm 29 8,Zm 30 11,u1 31 .nilCheck [.tm 30],Za 32 0 31,Zt 33 2 32,u1 34 (.call 32) [.tm 29,.cn (.fn (.func 33) [] []),.tm 33],u1 35 (.call 31) [.tm 34,.cn (.int .i64 200000000)],Ze 36 0 35,Ze 37 1 35,Zs 2 6 36,Zm 7 37] .ret)))))⟩
theorem YFN:Yf YGY Tryz.f11=some v11:=by kernel_rfl
def lenC:Ctr:={ alias:=false,of:=fun l=>match l with
 | [.agg [.int .i64 a,.int .i64 b,.int .i64 c,.int .i64 d,.int .i64 e],.agg [.int .i64 x0,.int .i64 x1],.int .i64 t]=>
   .fin (.tup [.agg (enc2 (lenF ⟨a,b,c,d,e⟩ (x0,x1) t).1),.int .i64 (lenF ⟨a,b,c,d,e⟩ (x0,x1) t).2]) []
 |_=>noC}
def pitC:Ctr:={ alias:=false,of:=fun l=>match l with
 | [.agg [.int .i64 a,.int .i64 b,.int .i64 c,.int .i64 d,.int .i64 e],.agg [.int .i64 x0,.int .i64 x1],.int .i64 t]=>
   .fin (.tup [.agg (enc2 (pitF ⟨a,b,c,d,e⟩ (x0,x1) t).1),.int .i64 (pitF ⟨a,b,c,d,e⟩ (x0,x1) t).2]) []
 |_=>noC}
theorem Yc6{k:SV->List HO->Prop}{al:Bool}{hp:List HO}{p:Iv}{e:Int}(h:k (.tup [.agg (enc2 p),.int .i64 e]) []):Yy al k (.tup [.agg [.int .i64 p.1,.int .i64 p.2],.int .i64 e]) hp:=
 YD (show k _ []from h) (Yw (.tup [.agg [.int .i64 p.1,.int .i64 p.2],.int .i64 e]) ⟨⟨trivial,trivial,trivial⟩,trivial,trivial⟩) (fun _=>by simp [enc2,Yj,Yk])
def fitsC:Ctr:={ alias:=false,of:=fun l=>match l with
 | [.xp _ [.int .i64 lo,.int .i64 hi,.int .i64 e],.int .i64 most]=> .fin (.tup [.agg (enc2 (Ycy (lo,hi) e most).1),.int .i64 (Ycy (lo,hi) e most).2]) []
 |_=>noC}
def UL40:Env:={ ct:=fun _=>none,fn:=fun _=>none,meth:=fun _ _=>none}
theorem Yx1:Yl YGY UL40:=by
 refine⟨fun f c h=>?_,fun f vf h=>?_,(fun _ _ _ h=>by cases h),by kernel_rfl,(fun _ h=>by cases h)⟩
 . cases h
 . cases h
theorem YDs:fitsC.ok YGY 31:=by
 refine Yb Tryz.func31 YF1 Yx1 200 fitsC fun args k h=>?_
 simp only[fitsC]at h
 split at h
 . rename_i tt lo hi e most
   refine⟨[.xp tt [.int .i64 lo,.int .i64 hi,.int .i64 e],.int .i64 most],⟨⟨id,Yd _⟩,⟨rfl,rfl⟩,trivial⟩,?_⟩
   dsimp only[v31,go_sem,reduceIte,YGU]
   simp only[Yc,YGU,YGW,reduceCtorEq,YGV]
   refine⟨fun hc=>?_,fun hc=>?_⟩
   . rw[show Ycy (lo,hi) e most=((0,0),7)by
       rw[Ycy,if_pos]
       simp only[YHB,YHn,decide_eq_true_eq,decide_eq_false_iff_not]at hc
       simp only;omega]at h
     exact Yc6 (p:=(0,0)) h
   . rw[show Ycy (lo,hi) e most=((lo,hi),0)by
       rw[Ycy,if_neg]
       simp only[YHq,YHA,decide_eq_true_eq,decide_eq_false_iff_not]at hc
       simp only;omega]at h
     exact Yc6 (p:=(lo,hi)) h
 . exact h.1.elim
def UL4:Env:={ ct:=fun n=>match n with|30=>some begC|33=>some quoC|34=>some subC|35=>some addC|31=>some fitsC|_=>none,fn:=fun n=>match n with|32=>some v32|65=>some v65|_=>none,meth:=fun _ _=>none,lo:=fun n=>match n with|32=>true|_=>false}
theorem YN:UL4.ct 30=some begC:=rfl
theorem YQ:UL4.ct 33=some quoC:=rfl
theorem YR:UL4.ct 34=some subC:=rfl
theorem YS:UL4.ct 35=some addC:=rfl
theorem YO:UL4.ct 31=some fitsC:=rfl
theorem YP:UL4.ct 32=none:=rfl
theorem YU:UL4.fn 32=some v32:=rfl
theorem YT:UL4.ct 65=none:=rfl
theorem YV:UL4.fn 65=some v65:=rfl
theorem YwF:Yl YGY UL4:=by
 refine⟨fun f c h=>?_,fun f vf h=>?_,(fun _ _ _ h=>by cases h),by kernel_rfl,fun f h=>?_⟩
 . simp only[UL4]at h
   split at h
   . cases h;exact⟨beg_c,Tryz.f30,Tryz.func30,by kernel_rfl,by kernel_rfl⟩
   . cases h;exact⟨Yxg,Tryz.f33,Tryz.func33,by kernel_rfl,by kernel_rfl⟩
   . cases h;exact⟨YFB,Tryz.f34,Tryz.func34,by kernel_rfl,by kernel_rfl⟩
   . cases h;exact⟨YnP,Tryz.f35,Tryz.func35,by kernel_rfl,by kernel_rfl⟩
   . cases h;exact⟨YDs,Tryz.f31,Tryz.func31,by kernel_rfl,by kernel_rfl⟩
   . cases h
 . simp only[UL4]at h
   split at h
   . cases h;exact⟨Tryz.f32,Tryz.func32,YtY,Tryz.f32,Tryz.func32,by kernel_rfl,by kernel_rfl⟩
   . cases h;exact⟨Tryz.f65,Tryz.func65,YtZ,Tryz.f65,Tryz.func65,by kernel_rfl,by kernel_rfl⟩
   . cases h
 . simp only[UL4]at h
   split at h
   . kernel_rfl
   . cases h
theorem YW:UL4.lo 32=true:=rfl
theorem Yzr:lenC.ok YGY 10:=by
 refine Yb Tryz.func10 YFM YwF 600 lenC fun args k h=>?_
 simp only[lenC]at h
 split at h
 . rename_i a b c d e x0 x1 t
   refine⟨[.agg [.int .i64 a,.int .i64 b,.int .i64 c,.int .i64 d,.int .i64 e],.agg [.int .i64 x0,.int .i64 x1],.int .i64 t],by simp [leL,le],?_⟩
   by_cases hc:chkB ⟨a,b,c,d,e⟩=0
   . by_cases hg:(Yal t).2≠0\/x0<1000\/x1<x0\/20000000<x1
     . dsimp only[v10,begC,YN,YQ,YR,YS,quoC,subC,addC,iv2C,ivoC,enc2,YP,YU,YW,v32,YT,YV,v65,YO,fitsC,go_sem,reduceIte,YGU]
       simp only[if_pos hc,if_pos hg]
       ((try dsimp only[YN,YQ,YR,YS,quoC,subC,addC,iv2C,ivoC,enc2,YP,YU,YW,v32,YT,YV,v65,YO,fitsC,go_sem,reduceIte,YGU]);(try simp only[Yc,YGU,YGW,reduceCtorEq,YGV]))
       refine⟨by decide,by decide,by decide,fun _=>?_,fun hh=>absurd hh (by decide)⟩
       rw[show lenF ⟨a,b,c,d,e⟩ (x0,x1) t=((0,0),2)by rw[lenF,show begE ⟨a,b,c,d,e⟩ (x0,x1) 1000 20000000 t=2 by rw[begE,if_neg (fun hh=>hh hc),if_pos hg],if_pos (by decide)]]at h
       exact Yc6 (p:=(0,0)) h
     . have hB:begE ⟨a,b,c,d,e⟩ (x0,x1) 1000 20000000 t=0:=by rw[begE,if_neg (fun hh=>hh hc),if_neg hg]
       have MW:(wayF ⟨a,b,c,d,e⟩ t).2=0:=Yt2 _ _
       have MQ:(quoF ((wayF ⟨a,b,c,d,e⟩ t).1.1,(wayF ⟨a,b,c,d,e⟩ t).1.2) (x0,x1)).2=0:=by
         obtain⟨w0,w1,w2⟩:=Ypg ⟨a,b,c,d,e⟩ t
         exact YER w0 w1 (by omega) (by simp only;omega) (by simp only;omega) (by simp only;omega)
       have hL:lenF ⟨a,b,c,d,e⟩ (x0,x1) t=Ycy (subF (quoF (wayF ⟨a,b,c,d,e⟩ t).1 (x0,x1)).1 (Yao ⟨a,b,c,d,e⟩)).1 (subF (quoF (wayF ⟨a,b,c,d,e⟩ t).1 (x0,x1)).1 (Yao ⟨a,b,c,d,e⟩)).2 12000000:=by
         rw[lenF,hB,if_neg (by decide),MW,show(quoF (wayF ⟨a,b,c,d,e⟩ t).1 (x0,x1)).2=0 from MQ]
         rfl
       rw[hL]at h
       dsimp only[v10,begC,YN,YQ,YR,YS,quoC,subC,addC,iv2C,ivoC,enc2,YP,YU,YW,v32,YT,YV,v65,YO,fitsC,go_sem,reduceIte,YGU]
       simp only[if_pos hc,if_neg hg,begH,Yc,YGU,YGW,reduceCtorEq,YGV]
       simp only[MW]
       ((try dsimp only[YN,YQ,YR,YS,quoC,subC,addC,iv2C,ivoC,enc2,YP,YU,YW,v32,YT,YV,v65,YO,fitsC,go_sem,reduceIte,YGU]);(try simp only[Yc,YGU,YGW,reduceCtorEq,YGV]))
       refine⟨by decide,by decide,by decide,fun hh=>absurd trivial hh,?_⟩
       refine⟨?_,?_⟩
       . (refine Ybk _ (by((try dsimp only[YN,YQ,YR,YS,quoC,subC,addC,iv2C,ivoC,enc2,YP,YU,YW,v32,YT,YV,v65,YO,fitsC,go_sem,reduceIte,YGU]);(try simp only[Yc,YGU,YGW,reduceCtorEq,YGV]));exact⟨by decide,by decide,rfl,fun hh=>absurd trivial hh⟩) ?_;(try simp only[MW,MQ]);((try dsimp only[YN,YQ,YR,YS,quoC,subC,addC,iv2C,ivoC,enc2,YP,YU,YW,v32,YT,YV,v65,YO,fitsC,go_sem,reduceIte,YGU]);(try simp only[Yc,YGU,YGW,reduceCtorEq,YGV])))
         (refine Ybk _ (by((try dsimp only[YN,YQ,YR,YS,quoC,subC,addC,iv2C,ivoC,enc2,YP,YU,YW,v32,YT,YV,v65,YO,fitsC,go_sem,reduceIte,YGU]);(try simp only[Yc,YGU,YGW,reduceCtorEq,YGV]));exact⟨by decide,by decide,rfl,fun hh=>absurd trivial hh⟩) ?_;(try simp only[MW,MQ]);((try dsimp only[YN,YQ,YR,YS,quoC,subC,addC,iv2C,ivoC,enc2,YP,YU,YW,v32,YT,YV,v65,YO,fitsC,go_sem,reduceIte,YGU]);(try simp only[Yc,YGU,YGW,reduceCtorEq,YGV])))
         exact⟨by decide,by decide,Yc6 h⟩
       . (refine Ybk _ (by((try dsimp only[YN,YQ,YR,YS,quoC,subC,addC,iv2C,ivoC,enc2,YP,YU,YW,v32,YT,YV,v65,YO,fitsC,go_sem,reduceIte,YGU]);(try simp only[Yc,YGU,YGW,reduceCtorEq,YGV]));exact⟨by decide,by decide,rfl,fun hh=>absurd trivial hh⟩) ?_;(try simp only[MW,MQ]);((try dsimp only[YN,YQ,YR,YS,quoC,subC,addC,iv2C,ivoC,enc2,YP,YU,YW,v32,YT,YV,v65,YO,fitsC,go_sem,reduceIte,YGU]);(try simp only[Yc,YGU,YGW,reduceCtorEq,YGV])))
         (refine Ybk _ (by((try dsimp only[YN,YQ,YR,YS,quoC,subC,addC,iv2C,ivoC,enc2,YP,YU,YW,v32,YT,YV,v65,YO,fitsC,go_sem,reduceIte,YGU]);(try simp only[Yc,YGU,YGW,reduceCtorEq,YGV]));exact⟨by decide,by decide,rfl,fun hh=>absurd trivial hh⟩) ?_;(try simp only[MW,MQ]);((try dsimp only[YN,YQ,YR,YS,quoC,subC,addC,iv2C,ivoC,enc2,YP,YU,YW,v32,YT,YV,v65,YO,fitsC,go_sem,reduceIte,YGU]);(try simp only[Yc,YGU,YGW,reduceCtorEq,YGV])))
         exact⟨by decide,by decide,Yc6 h⟩
   . dsimp only[v10,begC,YN,YQ,YR,YS,quoC,subC,addC,iv2C,ivoC,enc2,YP,YU,YW,v32,YT,YV,v65,YO,fitsC,go_sem,reduceIte,YGU]
     simp only[if_neg hc]
     ((try dsimp only[YN,YQ,YR,YS,quoC,subC,addC,iv2C,ivoC,enc2,YP,YU,YW,v32,YT,YV,v65,YO,fitsC,go_sem,reduceIte,YGU]);(try simp only[Yc,YGU,YGW,reduceCtorEq,YGV]))
     refine⟨by decide,by decide,by decide,fun _=>?_,fun hh=>absurd hh hc⟩
     rw[show lenF ⟨a,b,c,d,e⟩ (x0,x1) t=((0,0),chkB ⟨a,b,c,d,e⟩)by rw[lenF,show begE ⟨a,b,c,d,e⟩ (x0,x1) 1000 20000000 t=chkB ⟨a,b,c,d,e⟩by rw[begE,if_pos hc],if_pos hc]]at h
     exact Yc6 (p:=(0,0)) h
 . exact h.1.elim
theorem pit_c:pitC.ok YGY 11:=by
 refine Yb Tryz.func11 YFN YwF 600 pitC fun args k h=>?_
 simp only[pitC]at h
 split at h
 . rename_i a b c d e x0 x1 t
   refine⟨[.agg [.int .i64 a,.int .i64 b,.int .i64 c,.int .i64 d,.int .i64 e],.agg [.int .i64 x0,.int .i64 x1],.int .i64 t],by simp [leL,le],?_⟩
   by_cases hc:chkB ⟨a,b,c,d,e⟩=0
   . by_cases hg:(Yal t).2≠0\/x0<1\/x1<x0\/12000000<x1
     . dsimp only[v11,begC,YN,YQ,YR,YS,quoC,subC,addC,iv2C,ivoC,enc2,YP,YU,YW,v32,YT,YV,v65,YO,fitsC,go_sem,reduceIte,YGU]
       simp only[if_pos hc,if_pos hg]
       ((try dsimp only[YN,YQ,YR,YS,quoC,subC,addC,iv2C,ivoC,enc2,YP,YU,YW,v32,YT,YV,v65,YO,fitsC,go_sem,reduceIte,YGU]);(try simp only[Yc,YGU,YGW,reduceCtorEq,YGV]))
       refine⟨by decide,by decide,by decide,fun _=>?_,fun hh=>absurd hh (by decide)⟩
       rw[show pitF ⟨a,b,c,d,e⟩ (x0,x1) t=((0,0),2)by rw[pitF,show begE ⟨a,b,c,d,e⟩ (x0,x1) 1 12000000 t=2 by rw[begE,if_neg (fun hh=>hh hc),if_pos hg],if_pos (by decide)]]at h
       exact Yc6 (p:=(0,0)) h
     . have hB:begE ⟨a,b,c,d,e⟩ (x0,x1) 1 12000000 t=0:=by rw[begE,if_neg (fun hh=>hh hc),if_neg hg]
       have MW:(wayF ⟨a,b,c,d,e⟩ t).2=0:=Yt2 _ _
       have hL:pitF ⟨a,b,c,d,e⟩ (x0,x1) t=Ycy (quoF (wayF ⟨a,b,c,d,e⟩ t).1 (addF (x0,x1) (Yao ⟨a,b,c,d,e⟩)).1).1 (quoF (wayF ⟨a,b,c,d,e⟩ t).1 (addF (x0,x1) (Yao ⟨a,b,c,d,e⟩)).1).2 200000000:=by
         rw[pitF,hB,if_neg (by decide),MW]
         rfl
       rw[hL]at h
       dsimp only[v11,begC,YN,YQ,YR,YS,quoC,subC,addC,iv2C,ivoC,enc2,YP,YU,YW,v32,YT,YV,v65,YO,fitsC,go_sem,reduceIte,YGU]
       simp only[if_pos hc,if_neg hg,begH,Yc,YGU,YGW,reduceCtorEq,YGV]
       simp only[MW]
       ((try dsimp only[YN,YQ,YR,YS,quoC,subC,addC,iv2C,ivoC,enc2,YP,YU,YW,v32,YT,YV,v65,YO,fitsC,go_sem,reduceIte,YGU]);(try simp only[Yc,YGU,YGW,reduceCtorEq,YGV]))
       refine⟨by decide,by decide,by decide,fun hh=>absurd trivial hh,?_⟩
       repeat' (first|exact Yc6 h|exact fun hh=>absurd trivial hh|decide|refine YHd ?_ ?_|intro _)
   . dsimp only[v11,begC,YN,YQ,YR,YS,quoC,subC,addC,iv2C,ivoC,enc2,YP,YU,YW,v32,YT,YV,v65,YO,fitsC,go_sem,reduceIte,YGU]
     simp only[if_neg hc]
     ((try dsimp only[YN,YQ,YR,YS,quoC,subC,addC,iv2C,ivoC,enc2,YP,YU,YW,v32,YT,YV,v65,YO,fitsC,go_sem,reduceIte,YGU]);(try simp only[Yc,YGU,YGW,reduceCtorEq,YGV]))
     refine⟨by decide,by decide,by decide,fun _=>?_,fun hh=>absurd hh hc⟩
     rw[show pitF ⟨a,b,c,d,e⟩ (x0,x1) t=((0,0),chkB ⟨a,b,c,d,e⟩)by rw[pitF,show begE ⟨a,b,c,d,e⟩ (x0,x1) 1 12000000 t=chkB ⟨a,b,c,d,e⟩by rw[begE,if_pos hc],if_pos hc]]at h
     exact Yc6 (p:=(0,0)) h
 . exact h.1.elim
def v15:VF:=⟨17,[.tmp 4],(ZR [u1 2 .box [.tm 0],u1 3 .box [.tm 1],u1 4 .mov [.cn (.bool false)]] (ZR [Za 5 0 2,Zf 6 1 5,Za 7 1 3,Zf 8 1 7,Zr 9 .leq 6 8,Zm 10 9,Zj 11 10 true 0 3,Zh 12 10 true 1 11,Zj 13 10 true 1 2,Zh 14 10 true 1 13,u2 15 10 true (.cmp .leq) [.tm 12,.tm 14],u1 16 .and [.tm 10,.tm 15],Zm 4 16] .ret))⟩
theorem YFR:Yf YGY Tryz.f15=some v15:=by kernel_rfl
def v12:VF:=⟨81,[.cell 4 true 2,.tmp 5],(ZR [u1 2 .box [.tm 0],Zn 4,u1 5 .mov [.cn (.bool false)]] (ZR [Za 16 0 2,Zt 17 3 16,Za 18 3 2,Zt 19 27 18,Zm 20 1,u1 21 (.call 8) [.tm 17,.tm 19,.tm 20],Zm 15 21,Ze 22 0 15,Ze 23 1 15,Zn 6,Zs 2 6 22,Zm 7 23] (ZR [Za 25 30 2,Zt 26 7 25,Zm 27 1,Za 28 37 2,Zf 29 1 28,u1 30 (.call 9) [.tm 26,.tm 27,.tm 29],Zm 24 30,Ze 31 0 24,Ze 32 1 24,u1 8 (.alloc [(.int .i64 0),(.int .i64 0),(.int .i64 0),(.int .i64 0),(.int .i64 0)]) [],Zs 5 8 31,Zm 9 32] (.seq (ZR [Zm 33 7,Zq 34 .neq 33 0,Zm 35 34,Zg 36 35 false 9,u2 37 35 false (.cmp .neq) [.tm 36,.cn (.int .i64 0)],u1 38 .or [.tm 35,.tm 37]] (ZC 38 (ZR [u1 39 (.build [(.int .i64 0),(.int .i64 0)] []) [],Zs 2 4 39,u1 5 .mov [.cn (.bool false)]] .ret) .skip)) (ZR [Zt 41 5 8,Zt 42 2 6,Za 43 0 2,Za 44 2 43,Zf 45 1 44,u1 46 (.call 10) [.tm 41,.tm 42,.tm 45],Zm 40 46,Ze 47 0 40,Ze 48 1 40,Zn 10,Zs 2 10 47,Zm 7 48] (.seq (ZR [Zm 49 7,Zq 50 .neq 49 0] (ZC 50 (ZR [u1 51 (.build [(.int .i64 0),(.int .i64 0)] []) [],Zs 2 4 51,u1 5 .mov [.cn (.bool false)]] .ret) .skip)) (ZR [Zt 53 5 8,Zc 54 36 53,Zm 52 54,Ze 55 0 52,Ze 56 1 52,Ze 57 2 52,Zn 11,Zn 12,Zs 2 11 55,Zs 2 12 56,Zm 7 57] (ZR [Zt 59 2 11,Zt 60 2 12,Zd 61 35 59 60,Zm 58 61,Ze 62 0 58,Ze 63 1 58,Zn 13,Zs 2 13 62,Zm 9 63] (ZR [Zt 65 2 10,Zt 66 2 13,Zd 67 35 65 66,Zm 64 67,Ze 68 0 64,Ze 69 1 64,Zs 2 10 68,Zm 14 69] (ZR [Zt 70 2 10,Zm 71 7,Zq 72 .eql 71 0,Zm 73 72,Zg 74 73 true 9,u2 75 73 true (.cmp .eql) [.tm 74,.cn (.int .i64 0)],u1 76 .and [.tm 73,.tm 75],Zm 77 76,Zg 78 77 true 14,u2 79 77 true (.cmp .eql) [.tm 78,.cn (.int .i64 0)],u1 80 .and [.tm 77,.tm 79],Zs 2 4 70,Zm 5 80] .ret))))))))))⟩
theorem YFO:Yf YGY Tryz.f12=some v12:=by kernel_rfl
structure Rnk where
 a:Int
 t0:Int
 t:Int
 T:Tm
 s:Scl
 kind:Int
 note:Int
def vsB(tt z:Bool)(bs:List (Int×Int)):SV:= .vs tt z bs.length 2 (fun k=>enc2 (bs.getD k default))
def sclX(s:Scl)(x:SV):List SV:=[.int .i64 s.d,.int .i64 s.c,x,.int .i64 s.mn,.int .i64 s.md,.int .i64 s.cn,.int .i64 s.cd]
def rnkC(R:Rnk)(x:SV):List SV:= .int .i64 R.a:: .int .i64 R.t0:: .int .i64 R.t::(encT R.T++(sclX R.s x++[.int .i64 R.kind,.int .i64 R.note]))
def frqR(R:Rnk)(note:Int):Iv×Int:=YgD R.a R.a R.t0 R.t R.T note
def bodR(R:Rnk)(note:Int):Bdy×Int:=bodF R.s note R.kind
def spkR(R:Rnk)(note:Int):Iv×Bool:=spkF (frqR R note) (bodR R note) R.t
def Rnk.ok(R:Rnk):Prop:=R.T.nm.size<=9223372036854775807/\R.s.bs.length<=9223372036854775807
def spkC:Ctr:={ alias:=false,of:=fun l=>match l with
 | [.agg cs,.int .i64 note]=> .ex (Rnk×Bool×Bool) fun R=> .pre (cs=rnkC R.1 (vsB R.2.1 R.2.2 R.1.s.bs)/\R.1.ok) (.fin (.tup [.agg [.int .i64 (spkR R.1 note).1.1,.int .i64 (spkR R.1 note).1.2],.bool (spkR R.1 note).2]) [])
 |_=>noC}
def metF(a b:Iv):Bool:=decide (a.1<=b.2)&&decide (b.1<=a.2)
def metC:Ctr:={ alias:=false,of:=fun l=>match l with
 | [.agg [.int .i64 a,.int .i64 b],.agg [.int .i64 c,.int .i64 d]]=> .fin (.bool (metF (a,b) (c,d))) []
 |_=> .pre False (.fin (.bool false) [])}
def UN1:Env:={ ct:=fun _=>none,fn:=fun _=>none,meth:=fun _ _=>none}
theorem YCx:Yl YGY UN1:=by
 refine⟨fun f c h=>?_,fun f vf h=>?_,(fun _ _ _ h=>by cases h),by kernel_rfl,(fun _ h=>by cases h)⟩
 . cases h
 . cases h
theorem met_c:metC.ok YGY 15:=by
 refine Yb Tryz.func15 YFR YCx 200 metC fun args k h=>?_
 simp only[metC]at h
 split at h
 . rename_i a b c d
   have h:k (.bool (metF (a,b) (c,d))) []:=h
   refine⟨[.agg [.int .i64 a,.int .i64 b],.agg [.int .i64 c,.int .i64 d]],by simp [leL,le],?_⟩
   dsimp only[v15,go_sem,reduceIte,YGU]
   simp only[Yc,YGU,YGW,reduceCtorEq,YGV]
   exact Yx h
 . exact h.1.elim
def UN2:Env:={ ct:=fun n=>match n with|8=>some frqA|9=>some bodC|10=>some lenC|36=>some crnC|35=>some addC|_=>none,fn:=fun _=>none,meth:=fun _ _=>none}
theorem Yx2:UN2.ct 8=some frqA:=rfl
theorem Yx3:UN2.ct 9=some bodC:=rfl
theorem YuD:UN2.ct 10=some lenC:=rfl
theorem YuF:UN2.ct 36=some crnC:=rfl
theorem YuE:UN2.ct 35=some addC:=rfl
theorem YCy:Yl YGY UN2:=by
 refine⟨fun f c h=>?_,fun f vf h=>?_,(fun _ _ _ h=>by cases h),by kernel_rfl,(fun _ h=>by cases h)⟩
 . simp only[UN2]at h
   split at h
   . cases h;exact⟨YrW,Tryz.f8,Tryz.func8,by kernel_rfl,by kernel_rfl⟩
   . cases h;exact⟨Yyw,Tryz.f9,Tryz.func9,by kernel_rfl,by kernel_rfl⟩
   . cases h;exact⟨Yzr,Tryz.f10,Tryz.func10,by kernel_rfl,by kernel_rfl⟩
   . cases h;exact⟨crn_c,Tryz.f36,Tryz.func36,by kernel_rfl,by kernel_rfl⟩
   . cases h;exact⟨YnP,Tryz.f35,Tryz.func35,by kernel_rfl,by kernel_rfl⟩
   . cases h
 . cases h
theorem Yq0{k:SV->List HO->Prop}{al:Bool}{hp:List HO}{p:Iv}{b:Bool}(h:k (.tup [.agg [.int .i64 p.1,.int .i64 p.2],.bool b]) []):Yy al k (.tup [.agg [.int .i64 p.1,.int .i64 p.2],.bool b]) hp:=
 YD (show k _ []from h) (Yw (.tup [.agg [.int .i64 p.1,.int .i64 p.2],.bool b]) ⟨⟨trivial,trivial,trivial⟩,trivial,trivial⟩) (fun _=>by simp [Yj,Yk])
theorem spk_c:spkC.ok YGY 12:=by
 refine Yb Tryz.func12 YFO YCy 900 spkC fun args k h=>?_
 simp only[spkC]at h
 split at h
 . rename_i cs note
   obtain⟨⟨R,tt,z⟩,⟨rfl,hnm,hbs⟩,h⟩:=h
   refine⟨[.agg (rnkC R (vsB tt z R.s.bs)),.int .i64 note],⟨Yp _ (by simp [rnkC,sclX,vsB,encT,encP,bndL,bnd]),⟨rfl,rfl⟩,trivial⟩,?_⟩
   have h:k (.tup [.agg [.int .i64 (spkR R note).1.1,.int .i64 (spkR R note).1.2],.bool (spkR R note).2]) []:=h
   dsimp only[v12,rnkC,sclX,vsB,encT,encP,Yx2,Yx3,YuD,YuF,YuE,frqA,bodC,lenC,crnC,addC,iv2C,encY,enc2,go_sem,reduceIte,YGU]
   simp only[Yc,YGU,YGW,reduceCtorEq,YGV]
   have self:lsP 2 enc2 R.s.bs.length 2 (fun k=>[SV.int IntKind.i64 (R.s.bs.getD k default).fst,SV.int IntKind.i64 (R.s.bs.getD k default).snd]) R.s.bs:=⟨rfl,rfl,fun k _=>Yd _⟩
   refine⟨rfl,R.T,⟨rfl,hnm⟩,by decide,by decide,R.s.bs,⟨self,hbs⟩,by decide,by decide,?_⟩
   have hbo:(bodR R note).2=0->chkB (bodR R note).1=0:=fun hh=>by
     obtain⟨_,e1,e2,_⟩:=Yyv (s:=R.s) (note:=note) (kind:=R.kind) hh
     unfold bodR
     rw[e1];exact e2
   unfold spkR at h
   obtain⟨f,hf⟩:∃f,f=frqR R note:=⟨_,rfl⟩
   obtain⟨b,hb⟩:∃b,b=bodR R note:=⟨_,rfl⟩
   rw[<-hf,<-hb]at h
   rw[<-hb]at hbo
   rw[show YgD R.a R.a R.t0 R.t R.T note=f from hf.symm,show bodF ⟨R.s.d,R.s.c,R.s.bs,R.s.mn,R.s.md,R.s.cn,R.s.cd⟩ note R.kind=b from hb.symm]
   refine⟨fun hc=>?_,fun hc=>⟨by decide,by decide,fun hl=>?_,fun hl=>?_⟩⟩
   . rw[spkF,if_pos (by simpa [Decidable.or_iff_not_imp_left]using hc)]at h
     exact Yq0 (p:=(0,0)) h
   all_goals
     simp only[YHq,YHA,decide_eq_true_eq]at hc
     rw[spkF,if_neg (by rw[hc.1,hc.2];simp)]at h
     have hcr:crnF b.1=(YaB b.1,endF b.1,0):=by rw[crnF,if_neg (by rw[hbo hc.2];decide)]
   . rw[if_pos hl]at h
     exact Yq0 (p:=(0,0)) h
   . rw[if_neg (fun hh=>hh hl)]at h
     rw[show crnF ⟨b.1.kind,b.1.bottom,b.1.top,b.1.mouth,b.1.cut⟩=(YaB b.1,endF b.1,0)from hcr]
     exact⟨by decide,by decide,by decide,by decide,by decide,by decide,by decide,Yq0 (p:=(spkL b.1 f.1 R.t).1) h⟩
 . exact h.1.elim
def sclA:Scl:=⟨155500,0,[(36,16)],1,4,1,4⟩
theorem awk_1:(bodF sclA 69 1).2=0/\(lenF (bodB sclA 69 1) (440000,440000) 15000).2=0/\250000<(lenF (bodB sclA 69 1) (440000,440000) 15000).1.1/\(lenF (bodB sclA 69 1) (440000,440000) 15000).1.2<386000:=by decide+kernel
theorem awk_0:YgD 440000 440000 15000 15000 EQ 69=((440000,440000),0):=by decide+kernel
theorem awk_2:bodF sclA 69 1=(bodB sclA 69 1,0):=(Yyv awk_1.1).2.1
def v89:VF:=⟨9,[.tmp 4],(ZR [u1 4 .mov [.cn (.bool false)]] (ZR [Zm 5 0,Zm 6 1,Zd 7 109 5 6,Zq 8 .geq 7 0,Zm 4 8] .ret))⟩
theorem YGC:Yf YGY Tryz.f89=some v89:=by kernel_rfl
def v109:VF:=⟨19,[.tmp 4],(ZR [Zi 4 0] (.seq (ZR [Zm 6 0,Zl 7 6,Zi 8 0] (.block 0 (.loop (ZR [Zr 9 .lss 8 7] (.seq (ZC 9 .skip (.exit 0)) (.seq (.block 1 (ZR [Zm 10 8,Zm 5 10] (ZR [Zm 11 1,Zm 12 0,Zm 13 5,Zx 14 1 12 13,Zf 15 1 14,Zr 16 .eql 11 15] (ZC 16 (ZR [Zm 17 5,Zm 4 17] .ret) .skip)))) (.region [Zp 18 8 1,Zm 8 18]))))))) (ZR [Zi 4 (-1)] .ret)))⟩
theorem YAQ:Yf YGY Tryz.f109=some v109:=by kernel_rfl
def v61:VF:=⟨35,[.cell 10 true 27,.tmp 11],(ZR [u1 10 (.alloc [(.val (.string ⟨#[]⟩)),(.bool false),(.int .i64 0),(.int .i64 0),(.int .i64 0),(.int .i64 0),(.int .i64 0),(.int .i64 0),(.int .i64 0),(.int .i64 0),(.int .i64 0),(.int .i64 0),(.int .i64 0),(.int .i64 0),(.int .i64 0),(.int .i64 0),(.int .i64 0),(.int .i64 0),(.int .i64 0),(.int .i64 0),(.int .i64 0),(.int .i64 0),(.int .i64 0),(.int .i64 0),(.int .i64 0),(.int .i64 0),(.int .i64 0)]) [],Zi 11 0] (ZR [Zm 14 0,Zm 15 1,Zm 16 2,u1 17 (.build [(.val (.string ⟨#[]⟩)),(.bool false),(.int .i64 0),(.int .i64 0),(.int .i64 0),(.int .i64 0),(.int .i64 0),(.int .i64 0),(.int .i64 0),(.int .i64 0),(.int .i64 0),(.int .i64 0),(.int .i64 0),(.int .i64 0),(.int .i64 0),(.int .i64 0),(.int .i64 0),(.int .i64 0),(.int .i64 0),(.int .i64 0),(.int .i64 0),(.int .i64 0),(.int .i64 0),(.int .i64 0),(.int .i64 0),(.int .i64 0),(.int .i64 0)] [(0,1),(1,1),(2,1)]) [.tm 14,.tm 15,.tm 16],u1 12 (.alloc [(.val (.string ⟨#[]⟩)),(.bool false),(.int .i64 0),(.int .i64 0),(.int .i64 0),(.int .i64 0),(.int .i64 0),(.int .i64 0),(.int .i64 0),(.int .i64 0),(.int .i64 0),(.int .i64 0),(.int .i64 0),(.int .i64 0),(.int .i64 0),(.int .i64 0),(.int .i64 0),(.int .i64 0),(.int .i64 0),(.int .i64 0),(.int .i64 0),(.int .i64 0),(.int .i64 0),(.int .i64 0),(.int .i64 0),(.int .i64 0),(.int .i64 0)]) [],Zs 27 12 17] (.seq (ZR [Zi 18 0] (.block 0 (.loop (ZR [Zq 19 .lss 18 12] (.seq (ZC 19 .skip (.exit 0)) (.seq (.block 1 (ZR [Zm 20 18,Zm 13 20] (ZR [Zm 21 13,Za 22 3 12,u1 23 (.idxArr 12 2) [.tm 22,.tm 21],Za 24 1 23,u0 (.store 1) [.tm 24,.cn (.int .i64 1)]] (ZR [Zm 25 4,Zm 26 13,Zd 27 89 25 26] (ZC 27 (.region [Zm 28 13,Zm 29 3,u1 30 (.build [(.int .i64 0),(.int .i64 0)] [(0,1),(1,1)]) [.cn (.int .i64 1),.tm 29],Za 31 3 12,u1 32 (.idxArr 12 2) [.tm 31,.tm 28],Zs 2 32 30]) .skip))))) (.region [Zp 33 18 1,Zm 18 33]))))))) (ZR [Zt 34 27 12,Zs 27 10 34,Zi 11 0] .ret))))⟩
theorem YGi:Yf YGY Tryz.f61=some v61:=by kernel_rfl
def v23:VF:=⟨54,[.cell 2 true 27,.tmp 3],(ZR [u1 2 (.alloc [(.val (.string ⟨#[]⟩)),(.bool false),(.int .i64 0),(.int .i64 0),(.int .i64 0),(.int .i64 0),(.int .i64 0),(.int .i64 0),(.int .i64 0),(.int .i64 0),(.int .i64 0),(.int .i64 0),(.int .i64 0),(.int .i64 0),(.int .i64 0),(.int .i64 0),(.int .i64 0),(.int .i64 0),(.int .i64 0),(.int .i64 0),(.int .i64 0),(.int .i64 0),(.int .i64 0),(.int .i64 0),(.int .i64 0),(.int .i64 0),(.int .i64 0)]) [],Zi 3 0] (.seq (ZR [Zm 4 0] (.block 0 (ZR [u1 6 (.eqStr false) [.tm 4,.cn (.val (.string ⟨#[101,113,117,97,108]⟩))],Zm 5 6] (ZC 5 (ZR [Zm 7 0,u1 8 (.buildSlice 1 11 [(.int .i64 0)] [(0,1),(1,1),(2,1),(3,1),(4,1),(5,1),(6,1),(7,1),(8,1),(9,1),(10,1)]) [.cn (.int .i64 0),.cn (.int .i64 1),.cn (.int .i64 2),.cn (.int .i64 3),.cn (.int .i64 4),.cn (.int .i64 5),.cn (.int .i64 6),.cn (.int .i64 7),.cn (.int .i64 8),.cn (.int .i64 9),.cn (.int .i64 10)],u1 9 (.call 61) [.tm 7,.cn (.bool false),.cn (.int .i64 11),.cn (.int .i64 12),.tm 8],Ze 10 0 9,Ze 11 1 9,Zs 27 2 10,Zm 3 11] .ret) (ZR [u1 13 (.eqStr false) [.tm 4,.cn (.val (.string ⟨#[112,121,116,104,97,103,111,114,101,97,110]⟩))],Zm 12 13] (ZC 12 (ZR [Zm 14 0,u1 15 (.call 61) [.tm 14,.cn (.bool false),.cn (.int .i64 8),.cn (.int .i64 1),.cn .nil],Ze 16 0 15,Ze 17 1 15,Zs 27 2 16,Zm 3 17] .ret) (ZR [u1 19 (.eqStr false) [.tm 4,.cn (.val (.string ⟨#[109,101,97,110,116,111,110,101]⟩))],Zm 18 19] (ZC 18 (ZR [Zm 20 0,u1 21 (.buildSlice 1 11 [(.int .i64 0)] [(0,1),(1,1),(2,1),(3,1),(4,1),(5,1),(6,1),(7,1),(8,1),(9,1),(10,1)]) [.cn (.int .i64 0),.cn (.int .i64 1),.cn (.int .i64 2),.cn (.int .i64 3),.cn (.int .i64 4),.cn (.int .i64 5),.cn (.int .i64 6),.cn (.int .i64 7),.cn (.int .i64 9),.cn (.int .i64 10),.cn (.int .i64 11)],u1 22 (.call 61) [.tm 20,.cn (.bool true),.cn (.int .i64 8),.cn (.int .i64 4),.tm 21],Ze 23 0 22,Ze 24 1 22,Zs 27 2 23,Zm 3 24] .ret) (ZR [u1 26 (.eqStr false) [.tm 4,.cn (.val (.string ⟨#[119,101,114,99,107,109,101,105,115,116,101,114]⟩))],Zm 25 26] (ZC 25 (ZR [Zm 27 0,u1 28 (.buildSlice 1 4 [(.int .i64 0)] [(0,1),(1,1),(2,1),(3,1)]) [.cn (.int .i64 0),.cn (.int .i64 1),.cn (.int .i64 2),.cn (.int .i64 5)],u1 29 (.call 61) [.tm 27,.cn (.bool false),.cn (.int .i64 11),.cn (.int .i64 4),.tm 28],Ze 30 0 29,Ze 31 1 29,Zs 27 2 30,Zm 3 31] .ret) (ZR [u1 33 (.eqStr false) [.tm 4,.cn (.val (.string ⟨#[107,105,114,110,98,101,114,103,101,114]⟩))],Zm 32 33] (ZC 32 (ZR [Zm 34 0,u1 35 (.buildSlice 1 4 [(.int .i64 0)] [(0,1),(1,1),(2,1),(3,1)]) [.cn (.int .i64 0),.cn (.int .i64 1),.cn (.int .i64 2),.cn (.int .i64 3)],u1 36 (.call 61) [.tm 34,.cn (.bool true),.cn (.int .i64 6),.cn (.int .i64 4),.tm 35],Ze 37 0 36,Ze 38 1 36,Zs 27 2 37,Zm 3 38] .ret) (ZR [u1 40 (.eqStr false) [.tm 4,.cn (.val (.string ⟨#[118,97,108,108,111,116,116,105]⟩))],Zm 39 40] (ZC 39 (ZR [Zm 41 0,u1 42 (.buildSlice 1 6 [(.int .i64 0)] [(0,1),(1,1),(2,1),(3,1),(4,1),(5,1)]) [.cn (.int .i64 0),.cn (.int .i64 1),.cn (.int .i64 2),.cn (.int .i64 3),.cn (.int .i64 4),.cn (.int .i64 11)],u1 43 (.call 61) [.tm 41,.cn (.bool false),.cn (.int .i64 6),.cn (.int .i64 6),.tm 42],Ze 44 0 43,Ze 45 1 43,Zs 27 2 44,Zm 3 45] .ret) (ZR [u1 47 (.eqStr false) [.tm 4,.cn (.val (.string ⟨#[121,111,117,110,103]⟩))],Zm 46 47] (ZC 46 (ZR [Zm 48 0,u1 49 (.buildSlice 1 6 [(.int .i64 0)] [(0,1),(1,1),(2,1),(3,1),(4,1),(5,1)]) [.cn (.int .i64 0),.cn (.int .i64 1),.cn (.int .i64 2),.cn (.int .i64 3),.cn (.int .i64 4),.cn (.int .i64 5)],u1 50 (.call 61) [.tm 48,.cn (.bool false),.cn (.int .i64 11),.cn (.int .i64 6),.tm 49],Ze 51 0 50,Ze 52 1 50,Zs 27 2 51,Zm 3 52] .ret) .skip)))))))))))))))) (ZR [u1 53 (.build [(.val (.string ⟨#[]⟩)),(.bool false),(.int .i64 0),(.int .i64 0),(.int .i64 0),(.int .i64 0),(.int .i64 0),(.int .i64 0),(.int .i64 0),(.int .i64 0),(.int .i64 0),(.int .i64 0),(.int .i64 0),(.int .i64 0),(.int .i64 0),(.int .i64 0),(.int .i64 0),(.int .i64 0),(.int .i64 0),(.int .i64 0),(.int .i64 0),(.int .i64 0),(.int .i64 0),(.int .i64 0),(.int .i64 0),(.int .i64 0),(.int .i64 0)] []) [],Zs 27 2 53,Zi 3 4] .ret)))⟩
theorem YFT:Yf YGY Tryz.f23=some v23:=by kernel_rfl
def idxI(v:Int):Nat->List Int->Int
 |_,[]=> -1
 |i,x::r=>if v=x then(i:Int)else idxI v (i+1) r
theorem Yox(v:Int):∀(r:List Int)(i:Nat),decide (0<=idxI v i r)=r.contains v
 | [],i=>rfl
 |x::r,i=>by
   rw[idxI,List.contains_cons,<-Yox v r (i+1)]
   by_cases c:v=x
   . subst c
     rw[if_pos rfl,decide_eq_true (by omega:(0:Int)<=(i:Int))]
     simp
   . rw[if_neg c,beq_eq_false_iff_ne.2 c,Bool.false_or]
def idxIC:Ctr:={ alias:=false,of:=fun l=>match l with
 | [.vs _ _ n sz get,.int .i64 v]=> .ex (List Int) fun l=> .pre (lsP 1 enc1 n sz get l/\n<=1000000) (.fin (.int .i64 (idxI v 0 l)) [])
 |_=>noC}
def conIC:Ctr:={ alias:=false,of:=fun l=>match l with
 | [.vs _ _ n sz get,.int .i64 v]=> .ex (List Int) fun l=> .pre (lsP 1 enc1 n sz get l/\n<=1000000) (.fin (.bool (l.contains v)) [])
 |_=> .pre False (.fin (.bool false) [])}
def UT0:Env:={ ct:=fun _=>none,fn:=fun _=>none,meth:=fun _ _=>none}
theorem YCC:Yl YGY UT0:=by
 refine⟨fun f c h=>?_,fun f vf h=>?_,(fun _ _ _ h=>by cases h),by kernel_rfl,(fun _ h=>by cases h)⟩
 . cases h
 . cases h
theorem YDA:idxIC.ok YGY 109:=by
 refine Yb Tryz.func109 YAQ YCC 200 idxIC fun args k h=>?_
 simp only[idxIC]at h
 split at h
 . rename_i tt z n sz get v
   obtain⟨l,⟨⟨rfl,rfl,hg⟩,hn⟩,h⟩:=h
   refine⟨[.vs tt z l.length 1 (fun k=>enc1 (l.getD k default)),.int .i64 v],⟨⟨id,rfl,rfl,rfl,hg⟩,⟨rfl,rfl⟩,trivial⟩,?_⟩
   dsimp only[v109,enc1,go_sem,reduceIte,YGU]
   simp only[Yc,YGU,YGW,reduceCtorEq,YGV]
   obtain⟨R,hR⟩:∃R,R=idxI v 0 l:=⟨_,rfl⟩
   have h:k (.int .i64 R) []:=by rw[hR];exact h
   refine Loop.keep [0,0,4,0] Nat (fun i=>[(8,.int .i64 i)]) (fun _=>[]) [] (fun i=>i<=l.length/\R=idxI v i (l.drop i)) (fun i=>l.length-i) ?_ ?_
   . refine⟨0,⟨Nat.zero_le _,hR⟩,?_⟩
     dsimp only[go_sem,reduceIte,YGU]
     simp only[Ya]
     decide
   . rintro i ⟨hi,hinv⟩
     replace hi:i<=l.length:=hi
     dsimp only[enc1,YG0,go_sem,reduceIte,YGU]
     simp only[Yc,YGU,YGW,reduceCtorEq,YGV]
     refine⟨fun hlt=>⟨⟨by omega,by omega⟩,fun hv=>?_,fun hv=>?_⟩,fun hge=>?_⟩
     . rw[YdL (by omega:i<l.length),idxI,if_pos hv]at hinv
       rw[hinv]at h
       exact Yi h
     . rw[YdL (by omega:i<l.length),idxI,if_neg hv]at hinv
       refine⟨i+1,⟨by omega,hinv⟩,by omega,?_⟩
       rw[YGZ ((i:Int)+1) (by omega)]
       simp only[Ya]
       rfl
     . obtain rfl:i=l.length:=by omega
       rw[List.drop_length,idxI]at hinv
       rw[hinv]at h
       exact Yi h
 . exact h.1.elim
def UT1:Env:={ ct:=fun n=>match n with|109=>some idxIC|_=>none,fn:=fun _=>none,meth:=fun _ _=>none}
theorem YqC:UT1.ct 109=some idxIC:=rfl
theorem YCD:Yl YGY UT1:=by
 refine⟨fun f c h=>?_,fun f vf h=>?_,(fun _ _ _ h=>by cases h),by kernel_rfl,(fun _ h=>by cases h)⟩
 . simp only[UT1]at h
   split at h
   . cases h;exact⟨YDA,Tryz.f109,Tryz.func109,by kernel_rfl,by kernel_rfl⟩
   . cases h
 . cases h
theorem YDc:conIC.ok YGY 89:=by
 refine Yb Tryz.func89 YGC YCD 200 conIC fun args k h=>?_
 simp only[conIC]at h
 split at h
 . rename_i tt z n sz get v
   obtain⟨l,⟨⟨rfl,rfl,hg⟩,hn⟩,h⟩:=h
   have h:k (.bool (l.contains v)) []:=h
   refine⟨[.vs tt z l.length 1 (fun k=>enc1 (l.getD k default)),.int .i64 v],⟨⟨id,rfl,rfl,rfl,hg⟩,⟨rfl,rfl⟩,trivial⟩,?_⟩
   dsimp only[v89,YqC,idxIC,go_sem,reduceIte,YGU]
   simp only[Yc,YGU,YGW,reduceCtorEq,YGV]
   refine⟨l,⟨⟨rfl,rfl,fun k _=>Yd _⟩,hn⟩,?_⟩
   (try dsimp only[go_sem,reduceIte,YGU])
   (try simp only[Yc,YGU,YGW,reduceCtorEq,YGV])
   rw[Yox]
   exact Yx h
 . exact h.1.elim
def temP(den:Int)(l:List Int):Nat->Nat->Int×Int
 |0=>fun _=>(0,0)
 |i+1=>if l.contains (i:Int)=true then setP (setP (temP den l i) i ((temP den l i i).1,1)) i (1,den)else setP (temP den l i) i ((temP den l i i).1,1)
theorem Yvd(nm:ByteArray)(syn:Bool)(w:Int)(p:Nat->Int×Int){i:Nat}(h:i<12)(b:Int):
   YZ (encT ⟨nm,syn,w,p⟩) (3+idxN (i:Int) 2+1) [.int .i64 b]=encT ⟨nm,syn,w,setP p i ((p i).1,b)⟩:=by
 rcases Yh9 h with rfl|rfl|rfl|rfl|rfl|rfl|rfl|rfl|rfl|rfl|rfl|rfl <;> rfl
def temC:Ctr:={ alias:=false,of:=fun l=>match l with
 | [.val (.string nm),.bool syn,.int .i64 w,.int .i64 den,.vs _ _ n sz get]=> .ex (List Int) fun l=> .pre (lsP 1 enc1 n sz get l/\n<=1000000) (.fin (.tup [.agg (encT ⟨nm,syn,w,temP den l 12⟩),.int .i64 0]) [])
 |_=>noC}
def UT2:Env:={ ct:=fun n=>match n with|89=>some conIC|_=>none,fn:=fun _=>none,meth:=fun _ _=>none}
theorem YnN:UT2.ct 89=some conIC:=rfl
theorem YCE:Yl YGY UT2:=by
 refine⟨fun f c h=>?_,fun f vf h=>?_,(fun _ _ _ h=>by cases h),by kernel_rfl,(fun _ h=>by cases h)⟩
 . simp only[UT2]at h
   split at h
   . cases h;exact⟨YDc,Tryz.f89,Tryz.func89,by kernel_rfl,by kernel_rfl⟩
   . cases h
 . cases h
theorem tem_c:temC.ok YGY 61:=by
 refine Yb Tryz.func61 YGi YCE 600 temC fun args k h=>?_
 simp only[temC]at h
 split at h
 . rename_i nm syn w den tt z n sz get
   obtain⟨l,⟨⟨rfl,rfl,hg⟩,hn⟩,h⟩:=h
   have h:k (.tup [.agg (encT ⟨nm,syn,w,temP den l 12⟩),.int .i64 0]) []:=h
   refine⟨[.val (.string nm),.bool syn,.int .i64 w,.int .i64 den,.vs tt z l.length 1 (fun k=>enc1 (l.getD k default))],⟨⟨rfl,trivial⟩,rfl,⟨rfl,rfl⟩,⟨rfl,rfl⟩,⟨id,rfl,rfl,rfl,hg⟩,trivial⟩,?_⟩
   dsimp only[v61,YnN,conIC,enc1,go_sem,reduceIte,YGU]
   simp only[Yc,YGU,YGW,reduceCtorEq,YGV]
   refine⟨rfl,rfl,?_⟩
   refine Loop.keep [3,0,5,1] Nat (fun i=>[(18,.int .i64 i)]) (fun i=>[(1,.box (encT ⟨nm,syn,w,temP den l i⟩))]) [] (fun i=>i<=12) (fun i=>12-i) ?_ ?_
   . refine⟨0,by omega,?_⟩
     dsimp only[encT,encP,temP,go_sem,reduceIte,YGU]
     simp only[Ya]
     repeat' apply YHd
     all_goals first|exact trivial|decide|rfl|omega|exact(YHs (by omega)).symm|exact Yp _ (Ydb _ _) |simp
   . rintro i hi
     dsimp only[YnN,conIC,enc1,YG0,go_sem,reduceIte,YGU]
     simp only[Yc,YGU,YGW,reduceCtorEq,YGV]
     refine⟨fun hlt=>?_,fun hge=>?_⟩
     . have hi12:i<12:=by omega
       rw[Yvd _ _ _ _ hi12,Yvg _ _ _ _ hi12,YGZ ((i:Int)+1) (by omega)]
       refine⟨⟨by omega,by omega⟩,by rw[YDB,lenT];omega,l,⟨⟨rfl,rfl,fun k _=>Yd _⟩,hn⟩,fun hc=>⟨⟨by omega,by omega⟩,by rw[YDB,lenT];omega,i+1,by omega,by omega,?_⟩,fun hc=>⟨i+1,by omega,by omega,?_⟩⟩
       . have hS:temP den l (i+1)=setP (setP (temP den l i) i ((temP den l i i).1,1)) i (1,den):=by
           rw[temP,if_pos hc]
         rw[hS]
         simp only[Ya]
         refine⟨⟨by decide,by decide,rfl⟩,Yp _ (Ydb _ _)⟩
       . have hS:temP den l (i+1)=setP (temP den l i) i ((temP den l i i).1,1):=by
           rw[temP,if_neg (by rw[hc];decide)]
         rw[hS]
         simp only[Ya]
         refine⟨⟨by decide,by decide,rfl⟩,Yp _ (Ydb _ _)⟩
     . obtain rfl:i=12:=by omega
       exact⟨YG8 27,⟨rfl,YhR _⟩,YG8 27,YwJ (T:=⟨nm,syn,w,temP den l 12⟩) h⟩
 . exact h.1.elim
def stqC:Ctr:={ alias:=false,of:=fun l=>match l with
 | [.val (.string b)]=> .pre (b=EQ.nm) (.fin (.tup [.agg (encT EQ),.int .i64 0]) [])
 |_=>noC}
def UT3:Env:={ ct:=fun n=>match n with|61=>some temC|_=>none,fn:=fun _=>none,meth:=fun _ _=>none}
theorem YuO:UT3.ct 61=some temC:=rfl
theorem YCF:Yl YGY UT3:=by
 refine⟨fun f c h=>?_,fun f vf h=>?_,(fun _ _ _ h=>by cases h),by kernel_rfl,(fun _ h=>by cases h)⟩
 . simp only[UT3]at h
   split at h
   . cases h;exact⟨tem_c,Tryz.f61,Tryz.func61,by kernel_rfl,by kernel_rfl⟩
   . cases h
 . cases h
theorem stq_c:stqC.ok YGY 23:=by
 refine Yb Tryz.func23 YFT YCF 600 stqC fun args k h=>?_
 simp only[stqC]at h
 split at h
 . rename_i b
   obtain⟨rfl,h⟩:=h
   have h:k (.tup [.agg (encT EQ),.int .i64 0]) []:=h
   refine⟨[.val (.string EQ.nm)],⟨⟨rfl,trivial⟩,trivial⟩,?_⟩
   dsimp only[v23,YuO,temC,go_sem,reduceIte,YGU]
   simp only[Yc,YGU,YGW,reduceCtorEq,YGV]
   refine⟨fun _=>⟨by decide,[0,1,2,3,4,5,6,7,8,9,10],⟨rfl,rfl,fun j hj=>?_⟩,by decide,by decide,⟨rfl,YhR ⟨EQ.nm,false,11,temP 12 [0,1,2,3,4,5,6,7,8,9,10] 12⟩⟩,YG8 27,YwJ (T:=EQ) h⟩,fun hf=>?_⟩
   . rcases elev hj with rfl|rfl|rfl|rfl|rfl|rfl|rfl|rfl|rfl|rfl|rfl <;> exact Yd _
   . exact absurd hf (by rw[YFz];decide)
 . exact h.1.elim
def v7:VF:=⟨65,[.tmp 0],(ZR [u1 0 .mov [.cn (.bool false)]] (ZR [u1 12 (.call 23) [.cn (.val (.string ⟨#[101,113,117,97,108]⟩))],Zm 11 12,Ze 13 0 11,Ze 14 1 11,u1 1 (.alloc [(.val (.string ⟨#[]⟩)),(.bool false),(.int .i64 0),(.int .i64 0),(.int .i64 0),(.int .i64 0),(.int .i64 0),(.int .i64 0),(.int .i64 0),(.int .i64 0),(.int .i64 0),(.int .i64 0),(.int .i64 0),(.int .i64 0),(.int .i64 0),(.int .i64 0),(.int .i64 0),(.int .i64 0),(.int .i64 0),(.int .i64 0),(.int .i64 0),(.int .i64 0),(.int .i64 0),(.int .i64 0),(.int .i64 0),(.int .i64 0),(.int .i64 0)]) [],Zs 27 1 13,Zm 2 14] (ZR [u1 15 (.build [(.int .i64 0),(.int .i64 0),(.int .i64 0)] [(0,1),(1,1),(2,1)]) [.cn (.int .i64 440000),.cn (.int .i64 15000),.cn (.int .i64 15000)],u1 3 (.alloc [(.int .i64 0),(.int .i64 0),(.int .i64 0)]) [],Zs 3 3 15] (ZR [u1 16 (.build [(.int .i64 0),(.int .i64 0)] [(0,1),(1,1)]) [.cn (.int .i64 36),.cn (.int .i64 16)],u1 17 (.buildSlice 2 1 [(.int .i64 0),(.int .i64 0)] [(0,2)]) [.tm 16],u1 18 (.build [(.int .i64 0),(.int .i64 0),.nil,(.int .i64 0),(.int .i64 0),(.int .i64 0),(.int .i64 0)] [(0,1),(2,1),(3,1),(4,1),(5,1),(6,1)]) [.cn (.int .i64 155500),.tm 17,.cn (.int .i64 1),.cn (.int .i64 4),.cn (.int .i64 1),.cn (.int .i64 4)],u1 4 (.alloc [(.int .i64 0),(.int .i64 0),.nil,(.int .i64 0),(.int .i64 0),(.int .i64 0),(.int .i64 0)]) [],Zs 7 4 18] (ZR [Zt 20 3 3,Zt 21 27 1,u1 22 (.call 8) [.tm 20,.tm 21,.cn (.int .i64 69)],Zm 19 22,Ze 23 0 19,Ze 24 1 19,Zn 5,Zs 2 5 23,Zm 6 24] (ZR [Zt 26 7 4,u1 27 (.call 9) [.tm 26,.cn (.int .i64 69),.cn (.int .i64 1)],Zm 25 27,Ze 28 0 25,Ze 29 1 25,u1 7 (.alloc [(.int .i64 0),(.int .i64 0),(.int .i64 0),(.int .i64 0),(.int .i64 0)]) [],Zs 5 7 28,Zm 8 29] (ZR [Zt 31 5 7,Zt 32 2 5,u1 33 (.call 10) [.tm 31,.tm 32,.cn (.int .i64 15000)],Zm 30 33,Ze 34 0 30,Ze 35 1 30,Zn 9,Zs 2 9 34,Zm 10 35] (ZR [Zm 36 2,Zq 37 .eql 36 0,Zm 38 37,Zg 39 38 true 6,u2 40 38 true (.cmp .eql) [.tm 39,.cn (.int .i64 0)],u1 41 .and [.tm 38,.tm 40],Zm 42 41,Zg 43 42 true 8,u2 44 42 true (.cmp .eql) [.tm 43,.cn (.int .i64 0)],u1 45 .and [.tm 42,.tm 44],Zm 46 45,Zg 47 46 true 10,u2 48 46 true (.cmp .eql) [.tm 47,.cn (.int .i64 0)],u1 49 .and [.tm 46,.tm 48],Zm 50 49,u2 51 50 true (.load true 2) [.tm 5],u2 52 50 true (.build [(.int .i64 0),(.int .i64 0)] [(0,1),(1,1)]) [.cn (.int .i64 440000),.cn (.int .i64 440000)],u2 53 50 true (.eqv false [true,true]) [.tm 51,.tm 52],u1 54 .and [.tm 50,.tm 53],Zm 55 54,Zj 56 55 true 0 9,Zh 57 55 true 1 56,u2 58 55 true (.cmp .gtr) [.tm 57,.cn (.int .i64 250000)],u1 59 .and [.tm 55,.tm 58],Zm 60 59,Zj 61 60 true 1 9,Zh 62 60 true 1 61,u2 63 60 true (.cmp .lss) [.tm 62,.cn (.int .i64 386000)],u1 64 .and [.tm 60,.tm 63],Zm 0 64] .ret))))))))⟩
theorem v7_is:Yf YGY Tryz.f7=some v7:=by kernel_rfl
def UN3:Env:={ ct:=fun n=>match n with|23=>some stqC|8=>some frqA|9=>some bodC|10=>some lenC|_=>none,fn:=fun _=>none,meth:=fun _ _=>none}
theorem YuH:UN3.ct 23=some stqC:=rfl
theorem Yx4:UN3.ct 8=some frqA:=rfl
theorem Yx5:UN3.ct 9=some bodC:=rfl
theorem YuG:UN3.ct 10=some lenC:=rfl
theorem YCz:Yl YGY UN3:=by
 refine⟨fun f c h=>?_,fun f vf h=>?_,(fun _ _ _ h=>by cases h),by kernel_rfl,(fun _ h=>by cases h)⟩
 . simp only[UN3]at h
   split at h
   . cases h;exact⟨stq_c,Tryz.f23,Tryz.func23,by kernel_rfl,by kernel_rfl⟩
   . cases h;exact⟨YrW,Tryz.f8,Tryz.func8,by kernel_rfl,by kernel_rfl⟩
   . cases h;exact⟨Yyw,Tryz.f9,Tryz.func9,by kernel_rfl,by kernel_rfl⟩
   . cases h;exact⟨Yzr,Tryz.f10,Tryz.func10,by kernel_rfl,by kernel_rfl⟩
   . cases h
 . cases h
theorem YEq:trueC.ok YGY 7:=by
 refine Yb Tryz.func7 v7_is YCz 900 trueC fun args k h=>?_
 simp only[trueC]at h
 split at h
 . refine⟨[],trivial,?_⟩
   have h:k (.bool true) []:=h
   dsimp only[v7,Ywo,lenT,YuH,Yx4,Yx5,YuG,stqC,frqA,bodC,lenC,encY,enc2,go_sem,reduceIte,YGU]
   simp only[Yc,YGU,YGW,reduceCtorEq,YGV]
   refine⟨rfl,by decide,by decide,⟨rfl,YhR EQ⟩,by decide,YG8 27,EQ,⟨rfl,by decide⟩,by decide,by decide,[(36,16)],⟨rfl,rfl,fun q hq=>?_⟩,?_⟩
   . obtain rfl:q=0:=by omega
     exact Yd _
   . refine⟨by decide,by decide,by decide,by decide,?_⟩
     rw[awk_0,show bodF ⟨155500,0,[(36,16)],1,4,1,4⟩ 69 1=(bodB sclA 69 1,0)from awk_2]
     obtain⟨_,a2,a3,a4⟩:=awk_1
     obtain⟨L,hL⟩:∃L,L=lenF (bodB sclA 69 1) (440000,440000) 15000:=⟨_,rfl⟩
     rw[<-hL]at a2 a3 a4
     have e:lenF ⟨(bodB sclA 69 1,(0:Int)).1.kind,(bodB sclA 69 1,(0:Int)).1.bottom,(bodB sclA 69 1,(0:Int)).1.top,(bodB sclA 69 1,(0:Int)).1.mouth,(bodB sclA 69 1,(0:Int)).1.cut⟩ ((((440000:Int),(440000:Int)),(0:Int)).1.1,(((440000:Int),(440000:Int)),(0:Int)).1.2) 15000=L:=hL.symm
     rw[e,a2,decide_eq_true a3,decide_eq_true a4]
     exact Yx h
 . exact h.1.elim
def v4:VF:=⟨118,[.tmp 4],(ZR [u1 2 .box [.tm 0],u1 4 .mov [.cn (.bool false)]] (.seq (ZR [Zt 15 30 2,Zm 16 1,Zd 17 16 15 16,u1 18 .not [.tm 17],Zm 19 18,u2 20 19 false (.load true 30) [.tm 2],Zg 21 19 false 1,u2 22 19 false (.ari .add) [.tm 21,.cn (.int .i64 12)],u2 23 19 false (.call 16) [.tm 20,.tm 22],u2 24 19 false .not [.tm 23],u1 25 .or [.tm 19,.tm 24]] (ZC 25 (ZR [u1 26 (.call 17) [],Zm 4 26] .ret) .skip)) (ZR [Za 28 0 2,Zt 29 3 28,Za 30 3 2,Zt 31 27 30,Zm 32 1,u1 33 (.call 8) [.tm 29,.tm 31,.tm 32],Zm 27 33,Ze 34 0 27,Ze 35 1 27,Zn 5,Zs 2 5 34,Zm 6 35] (ZR [Za 37 0 2,Zt 38 3 37,Za 39 3 2,Zt 40 27 39,Zm 41 1,Zp 42 41 12,u1 43 (.call 8) [.tm 38,.tm 40,.tm 42],Zm 36 43,Ze 44 0 36,Ze 45 1 36,Zn 7,Zs 2 7 44,Zm 8 45] (ZR [Za 47 0 2,Zt 48 3 47,Za 49 3 2,Zt 50 27 49,Zm 51 1,u1 52 (.call 18) [.tm 48,.tm 50,.tm 51],Zm 46 52,Ze 53 0 46,Ze 54 1 46,Zn 9,Zs 2 9 53,Zm 10 54] (ZR [Za 56 0 2,Zt 57 3 56,Za 58 3 2,Zt 59 27 58,Zm 60 1,Zp 61 60 12,u1 62 (.call 18) [.tm 57,.tm 59,.tm 61],Zm 55 62,Ze 63 0 55,Ze 64 1 55,Zn 11,Zs 2 11 63,Zm 12 64] (ZR [Za 65 0 2,Za 66 1 65,Zf 67 1 66,Za 68 0 2,Za 69 2 68,Zs 1 69 67] (ZR [Za 71 0 2,Zt 72 3 71,Za 73 3 2,Zt 74 27 73,u1 75 (.call 8) [.tm 72,.tm 74,.cn (.int .i64 69)],Zm 70 75,Ze 76 0 70,Ze 77 1 70,Zn 13,Zs 2 13 76,Zm 14 77] (.seq (ZR [Zm 78 6,Zq 79 .neq 78 0,Zm 80 79,Zg 81 80 false 8,u2 82 80 false (.cmp .neq) [.tm 81,.cn (.int .i64 0)],u1 83 .or [.tm 80,.tm 82],Zm 84 83,Zg 85 84 false 10,u2 86 84 false (.cmp .neq) [.tm 85,.cn (.int .i64 0)],u1 87 .or [.tm 84,.tm 86],Zm 88 87,Zg 89 88 false 12,u2 90 88 false (.cmp .neq) [.tm 89,.cn (.int .i64 0)],u1 91 .or [.tm 88,.tm 90],Zm 92 91,Zg 93 92 false 14,u2 94 92 false (.cmp .neq) [.tm 93,.cn (.int .i64 0)],u1 95 .or [.tm 92,.tm 94],Zm 96 95,u2 97 96 false (.load true 2) [.tm 13],Zj 98 96 false 0 2,Zj 99 96 false 0 98,Zh 100 96 false 1 99,Zj 101 96 false 0 2,Zj 102 96 false 0 101,Zh 103 96 false 1 102,u2 104 96 false (.build [(.int .i64 0),(.int .i64 0)] [(0,1),(1,1)]) [.tm 100,.tm 103],u2 105 96 false (.eqv true [true,true]) [.tm 97,.tm 104],u1 106 .or [.tm 96,.tm 105]] (ZC 106 (ZR [u1 4 .mov [.cn (.bool false)]] .ret) .skip)) (ZR [Zt 107 2 5,Zt 108 2 7,Zd 109 19 107 108,Zm 110 109,u2 111 110 true (.load true 2) [.tm 11],u2 112 110 true (.load true 2) [.tm 9],u2 113 110 true (.call 19) [.tm 111,.tm 112],u1 114 .and [.tm 110,.tm 113],Zm 115 114,u2 116 115 true (.call 17) [],u1 117 .and [.tm 115,.tm 116],Zm 4 117] .ret))))))))))⟩
def Yyx(a t0 t:Int)(T:Tm):List SV:= .int .i64 a:: .int .i64 t0:: .int .i64 t::encT T
def shp6:List Sh:=[.int .i64,.int .i64,.int .i64,.str,.bool,.int .i64,.int .i64,.int .i64,.int .i64,.int .i64,.int .i64,.int .i64,.int .i64,.int .i64,.int .i64,.int .i64,.int .i64,.int .i64,.int .i64,.int .i64,.int .i64,.int .i64,.int .i64,.int .i64,.int .i64,.int .i64,.int .i64,.int .i64,.int .i64,.int .i64]
def tmOf(nm:ByteArray)(syn:Bool)(w:Int)(l:List Int):Tm:=⟨nm,syn,w,fun i=>(l.getD (2*i) 0,l.getD (2*i+1) 0)⟩
theorem YF{l:List Sh}{c:List SV}(h:okSL (.int .i64::l) c):∃(x:Int) (r:List SV),c= .int .i64 x::r/\okSL l r:=by
 obtain⟨v,r,rfl,h1,h2⟩:=Yt h
 obtain⟨a,rfl,_⟩:=Ynb h1
 exact⟨a,r,rfl,h2⟩
theorem Yu6{cs:List SV}(h:okSL shp6 cs):∃(a t0 t:Int) (T:Tm),cs=Yyx a t0 t T/\T.nm.size<=maxLen:=by
 obtain⟨a,r0,e0,h0⟩:=YF h
 obtain⟨t0,r1,e1,h1⟩:=YF h0
 obtain⟨t,r2,e2,h2⟩:=YF h1
 obtain⟨v3,r3,e3,⟨nm,u3,hnm⟩,h3⟩:=Yt h2
 obtain⟨v4,r4,e4,⟨syn,u4⟩,h4⟩:=Yt h3
 obtain⟨w,r5,e5,h5⟩:=YF h4
 obtain⟨x0,r6,e6,h6⟩:=YF h5
 obtain⟨x1,r7,e7,h7⟩:=YF h6
 obtain⟨x2,r8,e8,h8⟩:=YF h7
 obtain⟨x3,r9,e9,h9⟩:=YF h8
 obtain⟨x4,r10,e10,h10⟩:=YF h9
 obtain⟨x5,r11,e11,h11⟩:=YF h10
 obtain⟨x6,r12,e12,h12⟩:=YF h11
 obtain⟨x7,r13,e13,h13⟩:=YF h12
 obtain⟨x8,r14,e14,h14⟩:=YF h13
 obtain⟨x9,r15,e15,h15⟩:=YF h14
 obtain⟨x10,r16,e16,h16⟩:=YF h15
 obtain⟨x11,r17,e17,h17⟩:=YF h16
 obtain⟨x12,r18,e18,h18⟩:=YF h17
 obtain⟨x13,r19,e19,h19⟩:=YF h18
 obtain⟨x14,r20,e20,h20⟩:=YF h19
 obtain⟨x15,r21,e21,h21⟩:=YF h20
 obtain⟨x16,r22,e22,h22⟩:=YF h21
 obtain⟨x17,r23,e23,h23⟩:=YF h22
 obtain⟨x18,r24,e24,h24⟩:=YF h23
 obtain⟨x19,r25,e25,h25⟩:=YF h24
 obtain⟨x20,r26,e26,h26⟩:=YF h25
 obtain⟨x21,r27,e27,h27⟩:=YF h26
 obtain⟨x22,r28,e28,h28⟩:=YF h27
 obtain⟨x23,r29,e29,h29⟩:=YF h28
 have e30:=Yd2 h29
 exact⟨a,t0,t,tmOf nm syn w [x0,x1,x2,x3,x4,x5,x6,x7,x8,x9,x10,x11,x12,x13,x14,x15,x16,x17,x18,x19,x20,x21,x22,x23],by rw[e0,e1,e2,e3,u3,e4,u4,e5,e6,e7,e8,e9,e10,e11,e12,e13,e14,e15,e16,e17,e18,e19,e20,e21,e22,e23,e24,e25,e26,e27,e28,e29,e30];rfl,hnm⟩
def v3:VF:=⟨203,[.tmp 2],(ZR [u1 1 .box [.tm 0],u1 2 .mov [.cn (.bool false)]] (.seq (ZR [u1 19 (.call 7) [],u1 20 .not [.tm 19]] (ZC 20 (ZR [u1 2 .mov [.cn (.bool false)]] .ret) .skip)) (.seq (ZR [Za 21 30 1,Za 22 2 21,Zf 23 1 22,Zl 24 23,Zq 25 .gtr 24 100,Zm 26 25,Zj 27 26 false 3 1,Zj 28 26 false 0 27,Zh 29 26 false 1 28,u2 30 26 false .lenStr [.tm 29],u2 31 26 false (.cmp .gtr) [.tm 30,.cn (.int .i64 1000)],u1 32 .or [.tm 26,.tm 31],Zm 33 32,Zj 34 33 false 38 1,Zh 35 33 false 1 34,u2 36 33 false (.cmp .lss) [.tm 35,.cn (.int .i64 0)],u1 37 .or [.tm 33,.tm 36],Zm 38 37,Zj 39 38 false 38 1,Zh 40 38 false 1 39,u2 41 38 false (.cmp .gtr) [.tm 40,.cn (.int .i64 139)],u1 42 .or [.tm 38,.tm 41]] (ZC 42 (ZR [u1 2 .mov [.cn (.bool true)]] .ret) .skip)) (ZR [Za 44 0 1,Zt 45 3 44,Za 46 3 1,Zt 47 27 46,Za 48 38 1,Zf 49 1 48,u1 50 (.call 8) [.tm 45,.tm 47,.tm 49],Zm 43 50,Ze 51 0 43,Ze 52 1 43,Zn 3,Zs 2 3 51,Zm 4 52] (ZR [Za 54 30 1,Zt 55 7 54,Za 56 38 1,Zf 57 1 56,Za 58 37 1,Zf 59 1 58,u1 60 (.call 9) [.tm 55,.tm 57,.tm 59],Zm 53 60,Ze 61 0 53,Ze 62 1 53,u1 5 (.alloc [(.int .i64 0),(.int .i64 0),(.int .i64 0),(.int .i64 0),(.int .i64 0)]) [],Zs 5 5 61,Zm 6 62] (.seq (ZR [Zm 63 4,Zq 64 .neq 63 0,Zm 65 64,Zg 66 65 false 6,u2 67 65 false (.cmp .neq) [.tm 66,.cn (.int .i64 0)],u1 68 .or [.tm 65,.tm 67]] (ZC 68 (ZR [u1 2 .mov [.cn (.bool true)]] .ret) .skip)) (ZR [Zt 70 5 5,Zt 71 2 3,Za 72 0 1,Za 73 2 72,Zf 74 1 73,u1 75 (.call 10) [.tm 70,.tm 71,.tm 74],Zm 69 75,Ze 76 0 69,Ze 77 1 69,Zn 7,Zs 2 7 76,Zm 4 77] (.seq (ZR [Zm 78 4,Zq 79 .eql 78 7] (ZC 79 (ZR [u1 2 .mov [.cn (.bool true)]] .ret) .skip)) (ZR [Zt 81 5 5,Zt 82 2 7,Za 83 0 1,Za 84 2 83,Zf 85 1 84,u1 86 (.call 11) [.tm 81,.tm 82,.tm 85],Zm 80 86,Ze 87 0 80,Ze 88 1 80,Zn 8,Zs 2 8 87,Zm 6 88] (.seq (ZR [Zm 89 4,Zq 90 .neq 89 0,Zm 91 90,Zg 92 91 true 4,u2 93 91 true (.cmp .neq) [.tm 92,.cn (.int .i64 2)],u1 94 .and [.tm 91,.tm 93],Zm 95 94,Zg 96 95 false 4,u2 97 95 false (.cmp .eql) [.tm 96,.cn (.int .i64 0)],Zg 98 95 false 97,Zg 99 98 true 6,u2 100 98 true (.cmp .neq) [.tm 99,.cn (.int .i64 0)],Zg 101 98 true 100,Zg 102 101 true 6,u2 103 101 true (.cmp .neq) [.tm 102,.cn (.int .i64 7)],u2 104 98 true .and [.tm 101,.tm 103],Zg 105 98 true 104,Zg 106 105 false 6,u2 107 105 false (.cmp .eql) [.tm 106,.cn (.int .i64 0)],Zg 108 105 false 107,Zj 109 108 true 0 8,Zh 110 108 true 1 109,Zj 111 108 true 0 3,Zh 112 108 true 1 111,u2 113 108 true (.cmp .gtr) [.tm 110,.tm 112],Zg 114 108 true 113,Zj 115 114 false 1 8,Zh 116 114 false 1 115,Zj 117 114 false 1 3,Zh 118 114 false 1 117,u2 119 114 false (.cmp .lss) [.tm 116,.tm 118],u2 120 108 true .or [.tm 114,.tm 119],u2 121 105 false .and [.tm 108,.tm 120],u2 122 98 true .or [.tm 105,.tm 121],u2 123 95 false .and [.tm 98,.tm 122],u1 124 .or [.tm 95,.tm 123]] (ZC 124 (ZR [u1 2 .mov [.cn (.bool false)]] .ret) .skip)) (.seq (ZR [Za 125 38 1,Zf 126 1 125,Zp 127 126 12,Zq 128 .gtr 127 139] (ZC 128 (ZR [u1 2 .mov [.cn (.bool true)]] .ret) .skip)) (ZR [Zt 130 39 1,Za 131 38 1,Zf 132 1 131,Zd 133 12 130 132,Zm 129 133,Ze 134 0 129,Ze 135 1 129,Zn 9,Zs 2 9 134,Zm 10 135] (ZR [Zt 137 39 1,Za 138 38 1,Zf 139 1 138,Zp 140 139 12,Zd 141 12 137 140,Zm 136 141,Ze 142 0 136,Ze 143 1 136,Zn 11,Zs 2 11 142,Zm 12 143] (.seq (ZR [Zm 144 10,u1 145 .not [.tm 144],Zm 146 145,Zg 147 146 false 12,u2 148 146 false .not [.tm 147],u1 149 .or [.tm 146,.tm 148]] (ZC 149 (ZR [u1 2 .mov [.cn (.bool true)]] .ret) .skip)) (ZR [Zt 151 2 11,u1 152 (.call 13) [.tm 151,.cn (.int .i64 2),.cn (.int .i64 1)],Zm 150 152,Ze 153 0 150,Ze 154 1 150,Zn 13,Zs 2 13 153,Zm 4 154] (ZR [Za 156 30 1,Zt 157 7 156,Za 158 38 1,Zf 159 1 158,Zd 160 14 157 159,Zm 155 160,Ze 161 0 155,Ze 162 1 155,Ze 163 2 155,Zn 14,Zn 15,Zs 2 14 161,Zs 2 15 162,Zm 6 163] (ZR [Za 165 30 1,Zt 166 7 165,Za 167 38 1,Zf 168 1 167,Zp 169 168 12,Zd 170 14 166 169,Zm 164 170,Ze 171 0 164,Ze 172 1 164,Ze 173 2 164,Zn 16,Zn 17,Zs 2 16 171,Zs 2 17 172,Zm 18 173] (ZR [Zm 174 4,Zq 175 .eql 174 0,Zm 176 175,Zg 177 176 true 6,u2 178 176 true (.cmp .eql) [.tm 177,.cn (.int .i64 0)],u1 179 .and [.tm 176,.tm 178],Zm 180 179,Zg 181 180 true 18,u2 182 180 true (.cmp .eql) [.tm 181,.cn (.int .i64 0)],u1 183 .and [.tm 180,.tm 182],Zm 184 183,u2 185 184 true (.load true 2) [.tm 9],u2 186 184 true (.load true 2) [.tm 13],u2 187 184 true (.call 15) [.tm 185,.tm 186],u1 188 .and [.tm 184,.tm 187],Zm 189 188,Zj 190 189 true 0 14,Zh 191 189 true 1 190,Zj 192 189 true 0 16,Zh 193 189 true 1 192,u2 194 189 true (.cmp .geq) [.tm 191,.tm 193],u1 195 .and [.tm 189,.tm 194],Zm 196 195,Zj 197 196 true 1 14,Zh 198 196 true 1 197,Zj 199 196 true 1 16,Zh 200 196 true 1 199,u2 201 196 true (.cmp .geq) [.tm 198,.tm 200],u1 202 .and [.tm 196,.tm 201],Zm 2 202] .ret))))))))))))))))))⟩
theorem v3_is:Yf YGY Tryz.f3=some v3:=by kernel_rfl
def shpS7:List Sh:=[.int .i64,.int .i64,.slice Yyk,.int .i64,.int .i64,.int .i64,.int .i64,.int .i64,.int .i64]
def shpR:List Sh:=shp6++shpS7
theorem Yex:∀{l l':List Sh}{c:List SV},okSL (l++l') c->∃d d',c=d++d'/\okSL l d/\okSL l' d'
 | [],l',c,h=>⟨[],c,rfl,trivial,h⟩
 |x::l,l',c,h=>by
   obtain⟨v,r,rfl,h1,h2⟩:=Yt h
   obtain⟨d,d',rfl,h3,h4⟩:=Yex h2
   exact⟨v::d,d',rfl,⟨h1,h3⟩,h4⟩
theorem YoA:∀{a b c d:List SV},leXL a b->leXL c d->leXL (a++c) (b++d)
 | [],[],c,d,_,h=>h
 |x::a,y::b,c,d,h,h2=>⟨h.1,YoA h.2 h2⟩
theorem YFo{cs:List SV}(h:okSL shpR cs):∃(z:Bool) (R:Rnk),R.ok/\leXL cs (rnkC R (vsB false z R.s.bs)):=by
 obtain⟨c,c',rfl,h1,h2⟩:=Yex h
 obtain⟨a,t0,t,T,rfl,hnm⟩:=Yu6 h1
 obtain⟨_,_,rfl,⟨n1,rfl,_⟩,e1⟩:=Yt h2
 obtain⟨_,_,rfl,⟨n2,rfl,_⟩,e2⟩:=Yt e1
 obtain⟨_,_,rfl,h3,e3⟩:=Yt e2
 obtain⟨_,_,rfl,⟨n4,rfl,_⟩,e4⟩:=Yt e3
 obtain⟨_,_,rfl,⟨n5,rfl,_⟩,e5⟩:=Yt e4
 obtain⟨_,_,rfl,⟨n6,rfl,_⟩,e6⟩:=Yt e5
 obtain⟨_,_,rfl,⟨n7,rfl,_⟩,e7⟩:=Yt e6
 obtain⟨_,_,rfl,⟨n8,rfl,_⟩,e8⟩:=Yt e7
 obtain⟨_,_,rfl,⟨n9,rfl,_⟩,e9⟩:=Yt e8
 cases Yd2 e9
 obtain⟨z,l,hl,hle⟩:=YDG h3
 rw[YsO]at hl hnm
 refine⟨z,⟨a,t0,t,T,⟨n1,n2,l,n4,n5,n6,n7⟩,n8,n9⟩,⟨hnm,hl⟩,?_⟩
 show leXL (Yyx a t0 t T++_) (Yyx a t0 t T++_)
 exact YoA (Yd _) ⟨⟨rfl,rfl⟩,⟨rfl,rfl⟩,hle,⟨rfl,rfl⟩,⟨rfl,rfl⟩,⟨rfl,rfl⟩,⟨rfl,rfl⟩,⟨rfl,rfl⟩,⟨rfl,rfl⟩,trivial⟩
def UP0:Env:={ ct:=fun n=>match n with|7=>some trueC|8=>some frqA|9=>some bodC|10=>some lenC|11=>some pitC|12=>some spkC|13=>some sclC|14=>some mouC|15=>some metC|_=>none,fn:=fun _=>none,meth:=fun _ _=>none}
theorem Yx6:UP0.ct 7=some trueC:=rfl
theorem Yx7:UP0.ct 8=some frqA:=rfl
theorem Yx8:UP0.ct 9=some bodC:=rfl
theorem YuI:UP0.ct 10=some lenC:=rfl
theorem YuJ:UP0.ct 11=some pitC:=rfl
theorem YuK:UP0.ct 12=some spkC:=rfl
theorem YuL:UP0.ct 13=some sclC:=rfl
theorem YuM:UP0.ct 14=some mouC:=rfl
theorem YuN:UP0.ct 15=some metC:=rfl
theorem YCA:Yl YGY UP0:=by
 refine⟨fun f c h=>?_,fun f vf h=>?_,(fun _ _ _ h=>by cases h),by kernel_rfl,(fun _ h=>by cases h)⟩
 . simp only[UP0]at h
   split at h
   . cases h;exact⟨YEq,Tryz.f7,Tryz.func7,by kernel_rfl,by kernel_rfl⟩
   . cases h;exact⟨YrW,Tryz.f8,Tryz.func8,by kernel_rfl,by kernel_rfl⟩
   . cases h;exact⟨Yyw,Tryz.f9,Tryz.func9,by kernel_rfl,by kernel_rfl⟩
   . cases h;exact⟨Yzr,Tryz.f10,Tryz.func10,by kernel_rfl,by kernel_rfl⟩
   . cases h;exact⟨pit_c,Tryz.f11,Tryz.func11,by kernel_rfl,by kernel_rfl⟩
   . cases h;exact⟨spk_c,Tryz.f12,Tryz.func12,by kernel_rfl,by kernel_rfl⟩
   . cases h;exact⟨Yo0,Tryz.f13,Tryz.func13,by kernel_rfl,by kernel_rfl⟩
   . cases h;exact⟨YD9,Tryz.f14,Tryz.func14,by kernel_rfl,by kernel_rfl⟩
   . cases h;exact⟨met_c,Tryz.f15,Tryz.func15,by kernel_rfl,by kernel_rfl⟩
   . cases h
 . cases h
theorem YvC:(lawC [⟨true,shpR⟩]).ok YGY 3:=by
 refine Yb Tryz.func3 v3_is YCA 1500 (lawC [⟨true,shpR⟩]) fun args k h=>?_
 obtain⟨ha,hk⟩:=h
 obtain⟨_,_,rfl,h1,e1⟩:=Ykr ha
 obtain⟨cs,rfl,g1⟩:=Yna h1
 cases Yl8 e1
 obtain⟨z,R,⟨hnm,hbs⟩,hle⟩:=YFo g1
 have hk':k (.bool true) []:=hk
 refine⟨[.agg (rnkC R (vsB false z R.s.bs))],⟨Ykh _ _ hle (by simp [rnkC,sclX,vsB,encT,encP,bndL,bnd]),trivial⟩,?_⟩
 dsimp only[v3,rnkC,sclX,vsB,encT,encP,Yx6,Yx7,Yx8,YuI,YuJ,YuK,YuL,YuM,YuN,trueC,frqA,bodC,lenC,pitC,spkC,sclC,mouC,metC,encY,enc2,go_sem,reduceIte,YGU]
 simp only[Yc,YGU,YGW,reduceCtorEq,YGV]
 have self:lsP 2 enc2 R.s.bs.length 2 (fun k=>[SV.int IntKind.i64 (R.s.bs.getD k default).fst,SV.int IntKind.i64 (R.s.bs.getD k default).snd]) R.s.bs:=⟨rfl,rfl,fun k _=>Yd _⟩
 refine⟨rfl,fun _=>Yx hk',fun hr=>⟨R.T,⟨rfl,hnm⟩,by decide,by decide,R.s.bs,⟨self,hbs⟩,by decide,by decide,?_⟩⟩
 simp only[YHq,decide_eq_false_iff_not]at hr
 obtain⟨⟨⟨r1,r2⟩,r3⟩,r4⟩:=hr
 obtain⟨f,hf⟩:∃f,f=frqR R R.note:=⟨_,rfl⟩
 obtain⟨b,hb⟩:∃b,b=bodR R R.note:=⟨_,rfl⟩
 rw[show YgD R.a R.a R.t0 R.t R.T R.note=f from hf.symm,show bodF ⟨R.s.d,R.s.c,R.s.bs,R.s.mn,R.s.md,R.s.cn,R.s.cd⟩ R.note R.kind=b from hb.symm]
 refine⟨fun _=>Yx hk',fun hc=>⟨by decide,by decide,fun _=>Yx hk',fun h7=>⟨by decide,by decide,?_⟩⟩⟩
 obtain⟨L,hL⟩:∃L,L=lenF b.1 f.1 R.t:=⟨_,rfl⟩
 obtain⟨P,hP⟩:∃P,P=pitF b.1 L.1 R.t:=⟨_,rfl⟩
 rw[show lenF ⟨b.1.kind,b.1.bottom,b.1.top,b.1.mouth,b.1.cut⟩ (f.1.1,f.1.2) R.t=L from hL.symm]at h7⊢
 rw[show pitF ⟨b.1.kind,b.1.bottom,b.1.top,b.1.mouth,b.1.cut⟩ (L.1.1,L.1.2) R.t=P from hP.symm]
 simp only[YHq,YHA,decide_eq_true_eq]at hc
 obtain⟨hf0,hb0⟩:=hc
 have bod:∀n,(bodR R n).2=0->chkB (bodR R n).1=0/\(bodR R n).1.kind=R.kind/\askS R.s n n=0/\(mouS R.s n).2.2=0:=fun n hh=>by
   obtain⟨e0,e1,e2,e3⟩:=Yyv (s:=R.s) (note:=n) (kind:=R.kind) hh
   unfold bodR
   rw[e1];exact⟨e2,rfl,e0,e3⟩
 have hb0':(bodR R R.note).2=0:=by rw[<-hb];exact hb0
 obtain⟨b1,b2,b3,b4⟩:=bod _ hb0'
 have top:=top_1 (b:=b.1) (f:=f.1) (t:=R.t) (by rw[hb];exact b1) (by rw[<-hL];exact h7)
 rw[<-hL,<-hP]at top
 refine⟨fun u v=>by rw[u,decide_eq_false v];rfl,fun u v=>by rw[u,decide_eq_false v];rfl,fun u v=>by rw[u,decide_eq_true v];rfl,fun u v=>by rw[u,v];rfl,fun u v=>by rw[u,decide_eq_true v];rfl,fun hx=>?_,fun _=>⟨fun _=>Yx hk',fun h12=>⟨(R,false,z),⟨rfl,hnm,hbs⟩,by decide,by decide,(R,false,z),⟨rfl,hnm,hbs⟩,by decide,by decide,fun _=>Yx hk',fun hs=>⟨by decide,by decide,R.s.bs,⟨self,hbs⟩,by decide,by decide,by decide,R.s.bs,⟨self,hbs⟩,by decide,by decide,by decide,?_⟩⟩⟩⟩
 . exfalso
   obtain⟨t1,t2⟩:=top
   simp only[YHB,YG2,YHn,decide_eq_true_eq,decide_eq_false_iff_not]at hx
   rcases hx with⟨u,v⟩ | ⟨u,v⟩
   . omega
   . obtain⟨t3,t4⟩:=t2 u
     rcases v with⟨v,w⟩ | ⟨v,w⟩
     . omega
     . have:=t4 v;omega
 . have h12:¬139<IntKind.i64.wrap (R.note+12):=h12
   rw[YGZ (R.note+12) (by omega)]at h12 hs⊢
   simp only[YHq,YHA]at hs
   obtain⟨s1,s2⟩:=hs
   have d12:(frqR R (R.note+12)).2=0/\(bodR R (R.note+12)).2=0:=by
     have s2:(spkF (frqR R (R.note+12)) (bodR R (R.note+12)) R.t).2=true:=s2
     unfold spkF at s2
     split at s2
     . cases s2
     . rename_i hh
       simp only[not_or,Decidable.not_not]at hh
       exact hh
   obtain⟨c1,c2,c3,c4⟩:=bod _ d12.2
   have hf0':(frqR R R.note).2=0:=by rw[<-hf];exact hf0
   obtain⟨q1,q2,q3,q4,q5⟩:=Yxb hf0'
   have q6:=(Yxb d12.1).2.2.2.2
   have hd:dblB (frqR R R.note).1 (frqR R (R.note+12)).1=true:=by
     rw[show frqR R R.note=_ from q5,show frqR R (R.note+12)=_ from q6]
     exact YyW q1 q2 q3 (by omega)
   obtain⟨m1,m2,m3⟩:=top_2 (t:=R.t) b1 c1 (by rw[b2,c2]) hd s1 s2
   obtain⟨w1,w2⟩:=Yww b3 (by omega)
   have mo:∀n,askS R.s n n=0->mouS R.s n=(widS R.s n,(cutS R.s n).1,(cutS R.s n).2):=fun n hh=>by
     rw[mouS,if_neg (by rw[hh];decide)]
   have e1:sclF ((spkR R (R.note+12)).1.1,(spkR R (R.note+12)).1.2) 2 1=(((spkR R (R.note+12)).1.1*2,(spkR R (R.note+12)).1.2*2),0):=m1
   have e2:mouS ⟨R.s.d,R.s.c,R.s.bs,R.s.mn,R.s.md,R.s.cn,R.s.cd⟩ R.note=(widS R.s R.note,(cutS R.s R.note).1,0):=by
     have:=mo _ b3
     rw[this]at b4
     rw[show(cutS R.s R.note).2=0 from b4]at this
     exact this
   have e3:mouS ⟨R.s.d,R.s.c,R.s.bs,R.s.mn,R.s.md,R.s.cn,R.s.cd⟩ (R.note+12)=(widS R.s (R.note+12),(cutS R.s (R.note+12)).1,0):=by
     have:=mo _ c3
     rw[this]at c4
     rw[show(cutS R.s (R.note+12)).2=0 from c4]at this
     exact this
   rw[e1,e2,e3]
   dsimp only
   have hm:metF ((spkR R R.note).1.1,(spkR R R.note).1.2) ((spkR R (R.note+12)).1.1*2,(spkR R (R.note+12)).1.2*2)=true:=by
     simp only[metF,YG2,decide_eq_true_eq]
     exact⟨m2,m3⟩
   rw[hm,decide_eq_true w1,decide_eq_true w2]
   exact Yx hk'
end Go.Proofs.YtfjodiojchknmaaGreatDoor
namespace Go.Vx
open Go Go.RowKit Go.ChangeShapes Go.WideShapes Go.ChangeAt Go.WideMaps Go.WideElems
def primesL:List Int:=[2,3,5,7,11,13]
def Yd8:DataW Unit:= .agg [.lit (.int .i64 2),.lit (.int .i64 3),.lit (.int .i64 5),.lit (.int .i64 7),.lit (.int .i64 11),.lit (.int .i64 13)]
theorem YlJ{P:Program}{W:World}{g:Nat}{T el:TypeId}(hg:P.globalNamed "quintadena/ratios.primes" =some g)(hT:(P.globals[g]?).map (·.type)=some T)
   (hu:P.underlying T=some (.array 6 el)) (he:P.underlying el=some (.int .i64)) (hc:P.cellsOf el=1) (hp:laidMetH P [("quintadena/ratios.primes",Yd8)] W):
   Cells W g 0 (gloV primesL):=by
 rw[MakeChecks.laidMetH_plain _ _ _ (by kernel_rfl)]at hp
 obtain⟨ps,⟨g1,t1,cs1,f1,p1,q1,hg1,ht1,hv1,hd1,h1⟩,h2⟩:=hp
 obtain rfl:=Option.some.inj (hg.symm.trans hg1)
 obtain rfl:=Option.some.inj (hT.symm.trans ht1)
 obtain⟨xs,m1,rfl,hx1,hlen,hn3,hel⟩:=DataW.trod_array hu hd1
 have hcell:∀k,k<6->cs1[k]? =some (.int .i64 (primesL.getD k 0)):=by
   intro k hk
   have h3:=hel k hk
   obtain⟨x,hx⟩:∃x,xs[k]? =some x:=⟨xs[k]'(by omega),by simp⟩
   rw[hx,hc,YH8]at h3
   obtain⟨v,e1,e2,_⟩:=DataW.trod_int he h3
   have e3:(cs1.toList.drop k)[0]? =some (.int .i64 v):=by
     have:((cs1.toList.drop k).take 1)[0]? =some (.int .i64 v):=by rw[e1];rfl
     simpa using this
   have e4:cs1[k]? =some (.int .i64 v):=by simpa using e3
   rw[e4]
   simp only[Prod.mk.injEq]at hx1
   have e5:(DataW.lit (.int .i64 (primesL.getD k 0)):DataW Unit)=x.1:=by
     have e6:(xs.map (·.1))[k]? =some x.1:=by simp [hx]
     have e7:=hx1.1
     simp only[Yd8,DataW.agg.injEq]at e7
     rw[<-e7]at e6
     match k,hk,e6 with
     |0,_,e6|1,_,e6|2,_,e6|3,_,e6|4,_,e6|5,_,e6=>exact Option.some.inj e6
   rw[e2]at e5
   simp only[DataW.lit.injEq,Lit.int.injEq]at e5
   rw[e5.2]
 unfold World.var? at hv1
 rw[hg]at hv1
 simp only[Option.bind_some]at hv1
 split at hv1
 . rename_i cs T' fz ho
   cases hv1
   refine⟨cs1,T',fz,ho,fun j v hj=>?_⟩
   have hj6:j<6:=by
     have:=(List.getElem?_eq_some_iff.1 hj).1
     simpa [gloV,primesL]using this
   rw[YH0,hcell j hj6]
   match j,hj6,hj with
   |0,_,hj|1,_,hj|2,_,hj|3,_,hj|4,_,hj|5,_,hj=>exact hj
 . cases hv1
theorem YlV{g:Nat}{T el:TypeId}{C:Checked}{f:FuncId}{fn:Func}{s:ChangeSpec}{dom:List PathCond}{os:Os}{H:Type}{enc:TypeId×Value->H}{shs:List PSh}{tb:TypeId}
   (own:ownKnob C.prog.godebug=none)(started:os.Started)(noInit:C.prog.inits.idxOf? f=none)(hfn:C.prog.funcs[f]? =some fn)(hl:laidOutB C.prog=true)
   (witness:∃(w:World) (tape:Tape) (i:Input),w.os=os/\(w.forCall tape i).Shaped C.prog/\i.vars=[]/\Input.okWide C.prog (w.forCall tape i) .any w.heap.size f i/\
     ((s.pre enc C.prog fn dom false (w.forCall tape i).memory i.args/\laidMetH C.prog [("quintadena/ratios.primes",Yd8)] (w.forCall tape i).memory)/\sizedMet enc C.prog fn (OpenSpec.ofChange s) false (w.forCall tape i).memory i.args)/\({}:Assume).holds C.prog (lone (Frame.enter C.prog f i.args .normal) [] (w.forCall tape i)))
   (hsh:Yme C.prog fn.params.toList=some shs)(hread:YAl C.prog fn.params.toList=true)(hres:fn.resultTypes.toList=[tb])(htb:C.prog.underlying tb=some .bool)(hvars:s.vars=[])
   (hspec:∀ds:List (DataW H),ds.length=fn.params.toList.length->(s.fn H ds).results=[.lit (.bool true)]/\(s.fn H ds).args=ds/\(s.fn H ds).vars=[])(hc:(lawC shs).ok C.prog f)(hg:C.prog.globalNamed "quintadena/ratios.primes" =some g)(hT:(C.prog.globals[g]?).map (·.type)=some T) (hu:C.prog.underlying T=some (.array 6 el)) (he:C.prog.underlying el=some (.int .i64)) (hce:C.prog.cellsOf el=1):
   ReturnsInHanded {} C os f .any (fun w args=>(s.pre enc C.prog fn dom false w args/\laidMetH C.prog [("quintadena/ratios.primes",Yd8)] w)/\sizedMet enc C.prog fn (OpenSpec.ofChange s) false w args) (s.post enc C.prog fn false true false false):=by
 refine returnsInHanded_of_change_and (X:=fun w _=>laidMetH C.prog [("quintadena/ratios.primes",Yd8)] w) (fun _ _ _ hh h=>h.of_heap hh) own started noInit hfn witness ?_
 intro W base args ds gs before hval hW hcnd _ hL _
 obtain⟨p,q,hA,hV,hbef,hfz,hnd⟩:=id hW
 have hlen:=Yh8 hA
 rw[hvars]at hV
 obtain⟨rfl,rfl⟩:=trodVars_none hV
 obtain⟨svs,k1,k2⟩:=Yi0 (B:=W.heap.size) hsh (fun j t v ht hv=>hval j t v (by simpa using ht) (by simpa using hv)) hA
 have hcall:=hc svs args.toList (cx0 W) (fun r hs=>r= .bool true) ⟨fun b K h=>(by cases h),fun g' l h=>by
   have hcl:=YlJ hg hT hu he hce hL
   unfold glob at h
   split at h
   . rename_i hg'
     cases h
     obtain rfl:=Option.some.inj (hg.symm.trans hg')
     obtain⟨cs,T',fz,ho,_⟩:=id hcl
     exact⟨(YHu.1 ho).1,trivial,hcl⟩
   . cases h⟩ k1 ⟨k2,rfl⟩
 simp only[Array.toArray_toList]at hcall
 refine hcall.mono fun e W' h=>?_
 obtain⟨r,hs,v,bs,J,hJ,rfl,rfl,hr,_,hbI,_⟩:=h
 have hb:Below W.heap.size W W':=⟨hbI.os,hbI.tape,hbI.output,hbI.size,fun k hk=>hbI.block k hk rfl⟩
 have hv:=hr.bool_inv
 subst hv
 obtain⟨s1,s2,s3⟩:=hspec ds hlen
 refine⟨_,rfl,ds,[],before,[],p,[],hW,?_,?_,?_,hb.frame _,fun h=>by cases h⟩
 . rw[List.append_nil,s1,hres]
   have hsz:fn.resultTypes.size=1:=by rw[<-Array.length_toList,hres];rfl
   have:(Value.bool true).resultList fn.resultTypes.size=[.bool true]:=by rw[hsz];rfl
   rw[this]
   exact trodAll_mk1 (shut_bool htb true)
 . rw[List.append_nil,s2]
   exact Ygr hl hb hread hA
 . rw[List.append_nil,s3,hvars];rfl
end Go.Vx
namespace Go.Vx
open Go Go.RowKit Go.ChangeShapes Go.WideShapes Go.ChangeAt Go.WideMaps Go.WideElems
end Go.Vx
namespace Go.Proofs.YtfjodiojchknmaaGreatDoor
open Go Go.Vx Go.RowKit
set_option maxRecDepth 100000
theorem YEp:ownKnob YGY.godebug=none:=by kernel_rfl
theorem Yzf:laidOutB YGY=true:=by kernel_rfl
theorem gPr39:YGY.globalNamed "quintadena/ratios.primes" =some 0:=by kernel_rfl
theorem tPr39:(YGY.globals[0]?).map (·.type)=some 167:=by kernel_rfl
theorem uPr39:YGY.underlying 167=some (.array 6 2):=by kernel_rfl
theorem ePr39:YGY.underlying 2=some (.int .i64):=by kernel_rfl
theorem cPr39:YGY.cellsOf 2=1:=by kernel_rfl
theorem YDm(os:Os)(args:Array Value):laidMetH YGY [("quintadena/ratios.primes",Yd8)] ((World.doorLaid YGY 400 os).forCall (fun _ _=>0) ⟨#[],args,[]⟩).memory:=
 laidMetH_of_parts3 (fuel:=8) (laidMet_of_run' 8 (by kernel_rfl) (by kernel_rfl)) (by kernel_rfl) (by kernel_rfl)
theorem Yh7(os:Os)(started:os.Started)(H:Type)(enc:TypeId×Value->H):
   ReturnsInHanded {} Tryz.checked os 3 .any (fun w args=>(Rows.topPipesSpec.pre enc YGY Tryz.f3 [] false w args/\laidMetH YGY [("quintadena/ratios.primes",Yd8)] w)/\sizedMet enc YGY Tryz.f3 (OpenSpec.ofChange Rows.topPipesSpec) false w args)
     (Rows.topPipesSpec.post enc YGY Tryz.f3 false true false false):=
 YlV (C:=Tryz.checked) (tb:=4) YEp started (by kernel_rfl) Tryz.func3 Yzf
   (ChangeSpec.witness_shaped (enc:=enc) (C:=Tryz.checked) (os:=os) (X:=fun w _=>laidMetH YGY [("quintadena/ratios.primes",Yd8)] w) false (World.doorLaid YGY 400 os) #[.agg #[.int .i64 0,.int .i64 0,.int .i64 0,.string ⟨#[]⟩,.bool false,.int .i64 0,.int .i64 0,.int .i64 0,.int .i64 0,.int .i64 0,.int .i64 0,.int .i64 0,.int .i64 0,.int .i64 0,.int .i64 0,.int .i64 0,.int .i64 0,.int .i64 0,.int .i64 0,.int .i64 0,.int .i64 0,.int .i64 0,.int .i64 0,.int .i64 0,.int .i64 0,.int .i64 0,.int .i64 0,.int .i64 0,.int .i64 0,.int .i64 0,.int .i64 0,.int .i64 0,.slice none 0 0,.int .i64 0,.int .i64 0,.int .i64 0,.int .i64 0,.int .i64 0,.int .i64 0]] 8 rfl (World.shaped_of_RefB (by kernel_rfl) (by kernel_rfl)) (by kernel_rfl) (by kernel_rfl) (by kernel_rfl) (YDm os _))
   (by kernel_rfl) (by kernel_rfl) (by kernel_rfl) (by kernel_rfl) rfl (fun ds h=>match ds,h with| [_],_=>⟨rfl,rfl,rfl⟩) YvC gPr39 tPr39 uPr39 ePr39 cPr39
theorem YkP:Rows.TopPipesSaid:=
 OpenClaim.holds_of_wide 3 Tryz.f3 rfl rfl rfl rfl rfl rfl rfl ⟨rfl,rfl,rfl,rfl,rfl⟩ rfl rfl rfl rfl rfl (by kernel_rfl) Tryz.func3 (by kernel_rfl)
   (of_decide_eq_true (by kernel_rfl)) (by unfold Func.isWrapper;first| (rw[if_pos (by decide+kernel)];kernel_rfl) | (rw[if_neg (by decide+kernel)];exact⟨rfl,rfl⟩))
   (fun os started H enc _=>Yh7 os started H enc)
theorem topPipes_holds:Rows.TopPipesCardSaid:=
 Claim7.holds_tied_plain_at .later [] [.data] true (true, "0c962a7de201b333494358a9e6881a4611c9eb42a14a790af7658f72a7e712a7") false
   YkP (fun _ h=>by cases h) (by kernel_rfl) (fun _ h=>by cases h) topPipes_row_tie rfl ⟨rfl,rfl⟩ (by kernel_rfl) rfl
   (fun f fn hf hfn=>by
     obtain rfl:f=3:=Option.some.inj ((show YGY.funcNamed Rows.topPipesRow.func=some 3 by kernel_rfl).symm.trans hf) |>.symm
     obtain rfl:fn=Tryz.f3:=(Option.some.inj (Tryz.func3.symm.trans hfn)).symm
     exact⟨by kernel_rfl,fun j t ht=>by
       have hall:(Tryz.f3.params.toList.all fun u=>!YGY.wantsStandIn u)=true:=by kernel_rfl
       have hm:t∈Tryz.f3.params.toList:=Array.mem_toList_iff.2 (Array.mem_of_getElem? ht)
       exact(show YGY.wantsStandIn t=false by simpa using List.all_eq_true.1 hall t hm)⟩)
   (by kernel_rfl)
end Go.Proofs.YtfjodiojchknmaaGreatDoor
