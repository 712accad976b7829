/- Pitches, walked: freq, Freq, Micro. -/
import Derived.Test.YtegbbdjknnfbdaaGreatDoorMgX35e
import Derived.Test.YtegbbdjknnfbdaaGreatDoorMgX35d
open And renaming intro->Yzm
open Int renaming toNat_natCast->Yzh,toNat_of_nonneg->Yzt
open Go.IntWalk renaming i64_in->Yzi
open List renaming length_append->Yzv,length_cons->Yzy,length_nil->Yzw,length_take->Yzr
open Nat renaming le_refl->Yzk,lt_or_ge->Yzx,reduceAdd->Yzb,reduceEqDiff->Yzc,reduceLeDiff->Yzd
open Go.Proofs.Tryz renaming prog->Yzg
set_option linter.all false
namespace Go.Proofs.YtegbbdjknnfbdaaGreatDoor
open Go Go.Vx
set_option maxRecDepth 100000
set_option maxHeartbeats 4000000
def v30:VF:=⟨19,[.cell 6 true 2],(ZR [Zn 6] (ZR [Zm 10 0,Zm 11 1,Zd 12 36 10 11,Zm 9 12,Ze 13 0 9,Ze 14 1 9,Zm 7 13,Zm 8 14] (ZR [Zm 15 2,Zm 16 8,Zm 17 7,u1 18 (.call 33) [.tm 15,.tm 16,.tm 17],Zs 2 6 18] .ret)))⟩
theorem Yyq:Yh Yzg Tryz.f30=some v30:=by kernel_rfl
def v28:VF:=⟨31,[.cell 8 true 2,.tmp 9],(ZR [u1 4 .box [.tm 0],u1 5 .box [.tm 1],Zn 8,Zi 9 0] (ZR [Zt 13 3 4,Zt 14 27 5,Zd 15 38 13 14,Zm 12 15,Ze 16 0 12,Ze 17 1 12,Zm 10 16,Zm 11 17] (.seq (.block 0 (ZR [Zm 19 11,Zq 20 .neq 19 0,Zm 18 20] (ZC 18 (ZR [u1 21 (.build [(.int .i64 0),(.int .i64 0)] []) [],Zm 22 11,Zs 2 8 21,Zm 9 22] .ret) (ZR [Zm 24 2,Zc 25 61 24,u1 26 .not [.tm 25],Zm 23 26] (ZC 23 (ZR [u1 27 (.build [(.int .i64 0),(.int .i64 0)] []) [],Zs 2 8 27,Zi 9 2] .ret) .skip))))) (ZR [Zm 28 3,Zm 29 10,u1 30 .callv [.tm 28,.tm 29],Zs 2 8 30,Zi 9 0] .ret))))⟩
theorem Ypu:Yh Yzg Tryz.f28=some v28:=by kernel_rfl
def v38:VF:=⟨26,[.tmp 4,.tmp 5],(ZR [u1 2 .box [.tm 0],u1 3 .box [.tm 1],u1 4 .mov [.cn (.val (.pointer none))],Zi 5 0] (.seq (ZR [Zt 9 3 2,Zc 10 65 9,Zm 6 10] (ZR [Zm 11 6,Zq 12 .neq 11 0] (ZC 12 (ZR [Zm 13 6,u1 4 .mov [.cn (.val (.pointer none))],Zm 5 13] .ret) .skip))) (ZR [Zt 15 27 3,Zc 16 47 15,Zm 14 16,Ze 17 0 14,Ze 18 1 14,Zm 7 17,Zm 8 18] (.seq (ZR [Zm 19 8,Zq 20 .neq 19 0] (ZC 20 (ZR [Zm 21 8,u1 4 .mov [.cn (.val (.pointer none))],Zm 5 21] .ret) .skip)) (ZR [Zt 22 3 2,Zm 23 7,u1 24 (.build [(.int .i64 0),(.int .i64 0),(.int .i64 0),.nil] [(0,3),(3,1)]) [.tm 22,.tm 23],u1 25 .box [.tm 24],Zm 4 25,Zi 5 0] .ret)))))⟩
theorem Ymf:Yh Yzg Tryz.f38=some v38:=by kernel_rfl
def v61:VF:=⟨9,[.tmp 2],(ZR [u1 2 .mov [.cn (.bool false)]] (ZR [Zm 3 0,Zq 4 .geq 3 0,Zm 5 4,Zg 6 5 true 0,u2 7 5 true (.cmp .leq) [.tm 6,.cn (.int .i64 139)],u1 8 .and [.tm 5,.tm 7],Zm 2 8] .ret))⟩
theorem Ypv:Yh Yzg Tryz.f61=some v61:=by kernel_rfl
def v31:VF:=⟨11,[.cell 4 true 2],(ZR [Zn 4] (ZR [Zm 5 0,Zf 6 1 1,Za 7 0 2,Zf 8 1 7,u1 9 (.ari .mul) [.cn (.int .i64 1000),.tm 8],u1 10 (.call 30) [.tm 5,.tm 6,.tm 9],Zs 2 4 10] .ret))⟩
theorem Yyr:Yh Yzg Tryz.f31=some v31:=by kernel_rfl
def v10:VF:=⟨15,[.cell 6 true 2,.tmp 7],(ZR [u1 3 .box [.tm 0],u1 4 .box [.tm 1],u1 5 .box [.tm 2],Zn 6,Zi 7 0] (ZR [Zt 8 3 3,Zt 9 27 4,Zf 10 1 5,u1 11 (.mkfn (.func 31) 0) [.tm 5,.tm 3],u1 12 (.call 28) [.tm 8,.tm 9,.tm 10,.tm 11],Ze 13 0 12,Ze 14 1 12,Zs 2 6 13,Zm 7 14] .ret))⟩
theorem Yyj:Yh Yzg Tryz.f10=some v10:=by kernel_rfl
theorem Yer(T:Tm):Yu 27 (encT T)=encT T:=rfl
theorem lenT(T:Tm):lenL (encT T)=27:=rfl
def Ygb(L:Nat->Rt)(t0 t note u:Int):Int×Int:=pspF u (Yi L t0 t note).1 (Yi L t0 t note).2
def freqC:Ctr:={ alias:=false,of:=fun l=>match l with
 | [.xp _ [.int .i64 _,.int .i64 t0,.int .i64 t,.vs _ _ n sz get],.int .i64 note,.int .i64 u]=> .ex (Nat->Rt) fun L=> .pre ((n=12/\sz=7/\∀k,k<12->leXL (get k) (encR (L k)))/\(0<=note/\note<=139)/\Yax t0=true/\Yax t=true)
     (.fin (.agg [.int .i64 (Ygb L t0 t note u).1,.int .i64 (Ygb L t0 t note u).2]) [])
 |_=>noC}
theorem YcQ(L:Nat->Rt)(t0 t note:Int):3<=(Yi L t0 t note).1.length/\(Yi L t0 t note).1.length<=9:=by
 have:(trmL (YfG L note)).length<=6:=by
   unfold trmL;split
   . exact Yes _
   . simp
 simp only[Yi,Yzv,List.length_map,Yzy,Yzw]
 omega
def TJ0:Env:={ ct:=fun n=>match n with|36=>some termC|33=>some pspC|_=>none,fn:=fun _=>none,meth:=fun _ _=>none}
theorem Yp7:TJ0.ct 36=some termC:=rfl
theorem Yp6:TJ0.ct 33=some pspC:=rfl
theorem YvL:Yp Yzg TJ0:=by
 refine⟨fun f c h=>?_,fun f vf h=>?_,(fun _ _ _ h=>by cases h),by kernel_rfl,(fun _ h=>by cases h)⟩
 . simp only[TJ0]at h
   split at h
   . cases h;exact⟨Yme,Tryz.f36,Tryz.func36,by kernel_rfl,by kernel_rfl⟩
   . cases h;exact⟨YtO,Tryz.f33,Tryz.func33,by kernel_rfl,by kernel_rfl⟩
   . cases h
 . cases h
theorem YrR:freqC.ok Yzg 30:=by
 refine Yc Tryz.func30 Yyq YvL 600 freqC fun args k h=>?_
 simp only[freqC]at h
 split at h
 . rename_i tt a t0 t tv zv n sz get note u
   obtain⟨L,⟨⟨rfl,rfl,hg⟩,hn,h0,h1⟩,h⟩:=h
   refine⟨[.xp tt [.int .i64 a,.int .i64 t0,.int .i64 t,.vs tv zv 12 7 (fun k=>encR (L k))],.int .i64 note,.int .i64 u],?_,?_⟩
   . simp only[Ye6,Yh6,YqZ,YlM,and_true,true_and]
     exact⟨id,⟨rfl,rfl⟩,⟨rfl,rfl⟩,⟨rfl,rfl⟩,⟨id,rfl,rfl,rfl,hg⟩,trivial⟩
   have hl:=YcQ L t0 t note
   dsimp only[v30,Yp7,Yp6,termC,pspC,go_sem,reduceIte,Yzb]
   simp only[Yd,Yzb,Yzd,reduceCtorEq,Yzc]
   refine⟨L,⟨fun q _=>Yb _,hn,h0,h1⟩,by decide,by decide,(Yi L t0 t note).1,⟨⟨rfl,rfl,fun q _=>Yb _⟩,by omega,by omega⟩,?_⟩
   exact Yhw (show k _ []from h)
 . exact h.1.elim
theorem Yi0{a t0 t:Int}(h:chkS a t0 t=0):(100000<=a/\a<=1000000)/\Yax t0=true/\Yax t=true:=by
 unfold chkS at h
 split at h
 . cases h
 . rename_i hn
   simp only[not_or,Bool.not_eq_false]at hn
   exact⟨by omega,hn.2.2.1,hn.2.2.2⟩
def YmD(u a t0 t:Int)(T:Tm)(note:Int):(Int×Int)×Int:=
 if chkS a t0 t≠0 then((0,0),chkS a t0 t)else if Yci T≠0 then((0,0),Yci T)else if note<0\/139<note then((0,0),2)
 else(Ygb (Yz T) t0 t note u,0)
def micC:Ctr:={ alias:=false,of:=fun l=>match l with
 | [.agg [.int .i64 a,.int .i64 t0,.int .i64 t],.agg cs,.int .i64 note]=> .ex Tm fun T=> .pre (cs=encT T/\T.nm.size<=9223372036854775807) (.fin (.tup [.agg [.int .i64 (YmD (1000*a) a t0 t T note).1.1,.int .i64 (YmD (1000*a) a t0 t T note).1.2],.int .i64 (YmD (1000*a) a t0 t T note).2]) [])
 |_=>noC}
def TJ1:Env:={ ct:=fun n=>match n with|30=>some freqC|65=>some chkSC|47=>some NotC|_=>none,fn:=fun n=>match n with|28=>some v28|38=>some v38|61=>some v61|31=>some v31|_=>none,meth:=fun _ _=>none}
theorem Yha:TJ1.ct 30=some freqC:=rfl
theorem Yhf:TJ1.ct 65=some chkSC:=rfl
theorem Yhd:TJ1.ct 47=some NotC:=rfl
theorem Yg9:TJ1.ct 28=none:=rfl
theorem Yhg:TJ1.fn 28=some v28:=rfl
theorem Yhc:TJ1.ct 38=none:=rfl
theorem Yhi:TJ1.fn 38=some v38:=rfl
theorem Yhe:TJ1.ct 61=none:=rfl
theorem Yhj:TJ1.fn 61=some v61:=rfl
theorem Yhb:TJ1.ct 31=none:=rfl
theorem Yhh:TJ1.fn 31=some v31:=rfl
theorem YvM:Yp Yzg TJ1:=by
 refine⟨fun f c h=>?_,fun f vf h=>?_,(fun _ _ _ h=>by cases h),by kernel_rfl,(fun _ h=>by cases h)⟩
 . simp only[TJ1]at h
   split at h
   . cases h;exact⟨YrR,Tryz.f30,Tryz.func30,by kernel_rfl,by kernel_rfl⟩
   . cases h;exact⟨Yi1,Tryz.f65,Tryz.func65,by kernel_rfl,by kernel_rfl⟩
   . cases h;exact⟨YpG,Tryz.f47,Tryz.func47,by kernel_rfl,by kernel_rfl⟩
   . cases h
 . simp only[TJ1]at h
   split at h
   . cases h;exact⟨Tryz.f28,Tryz.func28,Ypu,Tryz.f28,Tryz.func28,by kernel_rfl,by kernel_rfl⟩
   . cases h;exact⟨Tryz.f38,Tryz.func38,Ymf,Tryz.f38,Tryz.func38,by kernel_rfl,by kernel_rfl⟩
   . cases h;exact⟨Tryz.f61,Tryz.func61,Ypv,Tryz.f61,Tryz.func61,by kernel_rfl,by kernel_rfl⟩
   . cases h;exact⟨Tryz.f31,Tryz.func31,Yyr,Tryz.f31,Tryz.func31,by kernel_rfl,by kernel_rfl⟩
   . cases h
theorem mic_c:micC.ok Yzg 10:=by
 refine Yc Tryz.func10 Yyj YvM 900 micC fun args k h=>?_
 simp only[micC]at h
 split at h
 . rename_i a t0 t cs note
   obtain⟨T,⟨rfl,hnm⟩,h⟩:=h
   refine⟨[.agg [.int .i64 a,.int .i64 t0,.int .i64 t],.agg (encT T),.int .i64 note],⟨⟨⟨rfl,rfl⟩,⟨rfl,rfl⟩,⟨rfl,rfl⟩,trivial⟩,Yf _ (YO T _),⟨rfl,rfl⟩,trivial⟩,?_⟩
   dsimp only[v10,Yer,lenT,Yha,freqC,Yhf,chkSC,Yhd,NotC,Yg9,Yhg,v28,Yhc,Yhi,v38,Yhe,Yhj,v61,Yhb,Yhh,v31,go_sem,reduceIte,Yzb]
   simp only[Yd,Yzb,Yzd,reduceCtorEq,Yzc]
   refine⟨Yaw T,Yaw T,Yaw T,fun hs=>?_,fun hs=>⟨T,⟨rfl,hnm⟩,?_⟩⟩
   . rw[YmD,if_pos hs]at h
     exact⟨by decide,by decide,fun _=>⟨by decide,by decide,Ycn (show k _ []from h)⟩,fun hh=>absurd hh hs⟩
   . rw[YmD,if_neg (fun hh=>hh hs)]at h
     by_cases hT:Yci T=0
     . rw[if_neg (fun hh=>hh hT)]at h⊢
       dsimp only[Yer,lenT,Yha,freqC,Yhf,chkSC,Yhd,NotC,Yg9,Yhg,v28,Yhc,Yhi,v38,Yhe,Yhj,v61,Yhb,Yhh,v31,go_sem,reduceIte,Yzb]
       simp only[Yd,Yzb,Yzd,reduceCtorEq,Yzc]
       refine⟨by decide,by decide,fun hh=>absurd trivial hh,?_⟩
       obtain⟨ha,hb0,hb1⟩:=Yi0 hs
       rw[Yzi (1000*a) (by omega)]
       refine⟨by decide,by decide,fun hh=>absurd trivial hh,fun hc=>?_,fun hc=>⟨Yz T,⟨fun q _=>Yb _,?_,hb0,hb1⟩,by decide,by decide,?_⟩⟩
       . have hc:note<0\/139<note:=by simp only[Bool.and_eq_false_iff,decide_eq_false_iff_not]at hc;omega
         rw[if_pos hc]at h
         exact⟨by decide,by decide,Ycn (show k _ []from h)⟩
       . simpa using hc
       . have hc:0<=note/\note<=139:=by simpa using hc
         rw[if_neg (by omega)]at h
         exact Ycn (show k _ []from h)
     . rw[if_pos hT]at h⊢
       dsimp only[Yer,lenT,Yha,freqC,Yhf,chkSC,Yhd,NotC,Yg9,Yhg,v28,Yhc,Yhi,v38,Yhe,Yhj,v61,Yhb,Yhh,v31,go_sem,reduceIte,Yzb]
       simp only[Yd,Yzb,Yzd,reduceCtorEq,Yzc]
       exact⟨by decide,by decide,fun _=>⟨by decide,by decide,fun _=>⟨by decide,by decide,Ycn (show k _ []from h)⟩,fun hh=>absurd hh hT⟩,fun hh=>absurd hh hT⟩
 . exact h.1.elim
abbrev Iv:=Int×Int
def v41:VF:=⟨12,[.tmp 2,.tmp 3],(ZR [Zi 2 0,Zi 3 0] (.seq (ZR [Zm 5 0,Zc 6 66 5,Zm 4 6] (ZR [Zm 7 4,Zq 8 .neq 7 0] (ZC 8 (ZR [Zm 9 4,Zi 2 0,Zm 3 9] .ret) .skip))) (ZR [Zm 10 0,Zc 11 67 10,Zm 2 11,Zi 3 0] .ret)))⟩
theorem Yyy:Yh Yzg Tryz.f41=some v41:=by kernel_rfl
def sgnF(l:List (Int×Int)):Int×Int:=if Yfo l≠0 then(0,Yfo l)else(Ykv l,0)
def sgnC:Ctr:={ alias:=false,of:=fun l=>match l with
 | [.vs _ _ n sz get]=> .ex (List (Int×Int)) fun l=> .pre (lsP 2 enc2 n sz get l/\n<=1000000000000) (.fin (.tup [.int .i64 (sgnF l).1,.int .i64 (sgnF l).2]) [])
 |_=>noC}
def TK0:Env:={ ct:=fun n=>match n with|66=>some chkTC|67=>some signC|_=>none,fn:=fun _=>none,meth:=fun _ _=>none}
theorem Yp8:TK0.ct 66=some chkTC:=rfl
theorem Yp9:TK0.ct 67=some signC:=rfl
theorem YvN:Yp Yzg TK0:=by
 refine⟨fun f c h=>?_,fun f vf h=>?_,(fun _ _ _ h=>by cases h),by kernel_rfl,(fun _ h=>by cases h)⟩
 . simp only[TK0]at h
   split at h
   . cases h;exact⟨YnV,Tryz.f66,Tryz.func66,by kernel_rfl,by kernel_rfl⟩
   . cases h;exact⟨Yph,Tryz.f67,Tryz.func67,by kernel_rfl,by kernel_rfl⟩
   . cases h
 . cases h
theorem Yx8:sgnC.ok Yzg 41:=by
 refine Yc Tryz.func41 Yyy YvN 600 sgnC fun args k h=>?_
 simp only[sgnC]at h
 split at h
 . rename_i tt z n sz get
   obtain⟨l,⟨⟨rfl,rfl,hg⟩,hn⟩,h⟩:=h
   refine⟨[.vs tt z l.length 2 (fun k=>enc2 (l.getD k default))],⟨⟨id,rfl,rfl,rfl,hg⟩,trivial⟩,?_⟩
   dsimp only[v41,Yp8,Yp9,chkTC,signC,enc2,go_sem,reduceIte,Yzb]
   simp only[Yd,Yzb,Yzd,reduceCtorEq,Yzc]
   refine⟨l,⟨⟨rfl,rfl,fun q _=>Yb _⟩,by omega⟩,fun hc=>?_,fun hc=>?_⟩
   . rw[sgnF,if_pos hc]at h
     exact Ydf h
   . rw[sgnF,if_neg (fun hh=>hh hc)]at h
     obtain⟨hl,hn⟩:=Ykc hc
     refine⟨l,⟨⟨rfl,rfl,fun q _=>Yb _⟩,fun x hx=>?_,by omega⟩,Ydf h⟩
     have:=hl x hx
     simp only[okT0,Bool.or_eq_false_iff,decide_eq_false_iff_not]at this
     unfold okT;omega
 . exact h.1.elim
structure Prt where
 a:Iv
 b:Iv
 e:Int
def v60:VF:=⟨41,[.cell 10 true 27],(ZR [u1 10 (.alloc [(.val (.string ⟨#[]⟩)),(.bool false),(.int .i64 0),(.int .i64 0),(.int .i64 0),(.int .i64 0),(.int .i64 0),(.int .i64 0),(.int .i64 0),(.int .i64 0),(.int .i64 0),(.int .i64 0),(.int .i64 0),(.int .i64 0),(.int .i64 0),(.int .i64 0),(.int .i64 0),(.int .i64 0),(.int .i64 0),(.int .i64 0),(.int .i64 0),(.int .i64 0),(.int .i64 0),(.int .i64 0),(.int .i64 0),(.int .i64 0),(.int .i64 0)]) []] (ZR [Zm 14 0,Zm 15 1,Zm 16 2,u1 17 (.build [(.val (.string ⟨#[]⟩)),(.bool false),(.int .i64 0),(.int .i64 0),(.int .i64 0),(.int .i64 0),(.int .i64 0),(.int .i64 0),(.int .i64 0),(.int .i64 0),(.int .i64 0),(.int .i64 0),(.int .i64 0),(.int .i64 0),(.int .i64 0),(.int .i64 0),(.int .i64 0),(.int .i64 0),(.int .i64 0),(.int .i64 0),(.int .i64 0),(.int .i64 0),(.int .i64 0),(.int .i64 0),(.int .i64 0),(.int .i64 0),(.int .i64 0)] [(0,1),(1,1),(2,1)]) [.tm 14,.tm 15,.tm 16],u1 11 (.alloc [(.val (.string ⟨#[]⟩)),(.bool false),(.int .i64 0),(.int .i64 0),(.int .i64 0),(.int .i64 0),(.int .i64 0),(.int .i64 0),(.int .i64 0),(.int .i64 0),(.int .i64 0),(.int .i64 0),(.int .i64 0),(.int .i64 0),(.int .i64 0),(.int .i64 0),(.int .i64 0),(.int .i64 0),(.int .i64 0),(.int .i64 0),(.int .i64 0),(.int .i64 0),(.int .i64 0),(.int .i64 0),(.int .i64 0),(.int .i64 0),(.int .i64 0)]) [],Zs 27 11 17] (.seq (ZR [Zi 12 0] (.block 0 (.loop (.seq (ZR [Zm 18 12,Zq 19 .lss 18 12] (ZC 19 .skip (.exit 0))) (.seq (.block 1 (.region [Zm 22 12,u1 23 (.build [(.int .i64 0),(.int .i64 0)] [(0,1),(1,1)]) [.cn (.int .i64 0),.cn (.int .i64 1)],Za 24 3 11,u1 25 (.idxArr 12 2) [.tm 24,.tm 22],Zs 2 25 23])) (.region [Zm 20 12,Zp 21 20 1,Zm 12 21])))))) (.seq (ZR [Zi 13 0] (.block 2 (.loop (.seq (ZR [Zm 26 13,Zm 27 4,Zl 28 27,Zr 29 .lss 26 28] (ZC 29 .skip (.exit 2))) (.seq (.block 3 (.region [Zm 32 4,Zm 33 13,Zx 34 1 32 33,Zf 35 1 34,Zm 36 3,u1 37 (.build [(.int .i64 0),(.int .i64 0)] [(0,1),(1,1)]) [.cn (.int .i64 1),.tm 36],Za 38 3 11,u1 39 (.idxArr 12 2) [.tm 38,.tm 35],Zs 2 39 37])) (.region [Zm 30 13,Zp 31 30 1,Zm 13 31])))))) (ZR [Zt 40 27 11,Zs 27 10 40] .ret)))))⟩
theorem YyD:Yh Yzg Tryz.f60=some v60:=by kernel_rfl
def v27:VF:=⟨40,[.cell 2 true 27,.tmp 3],(ZR [u1 2 (.alloc [(.val (.string ⟨#[]⟩)),(.bool false),(.int .i64 0),(.int .i64 0),(.int .i64 0),(.int .i64 0),(.int .i64 0),(.int .i64 0),(.int .i64 0),(.int .i64 0),(.int .i64 0),(.int .i64 0),(.int .i64 0),(.int .i64 0),(.int .i64 0),(.int .i64 0),(.int .i64 0),(.int .i64 0),(.int .i64 0),(.int .i64 0),(.int .i64 0),(.int .i64 0),(.int .i64 0),(.int .i64 0),(.int .i64 0),(.int .i64 0),(.int .i64 0)]) [],Zi 3 0] (.seq (ZR [Zm 4 0] (.block 0 (ZR [u1 6 (.eqStr false) [.tm 4,.cn (.val (.string ⟨#[101,113,117,97,108]⟩))],Zm 5 6] (ZC 5 (ZR [Zm 7 0,u1 8 (.buildSlice 1 11 [(.int .i64 0)] [(0,1),(1,1),(2,1),(3,1),(4,1),(5,1),(6,1),(7,1),(8,1),(9,1),(10,1)]) [.cn (.int .i64 0),.cn (.int .i64 1),.cn (.int .i64 2),.cn (.int .i64 3),.cn (.int .i64 4),.cn (.int .i64 5),.cn (.int .i64 6),.cn (.int .i64 7),.cn (.int .i64 8),.cn (.int .i64 9),.cn (.int .i64 10)],u1 9 (.call 60) [.tm 7,.cn (.bool false),.cn (.int .i64 11),.cn (.int .i64 12),.tm 8],Zs 27 2 9,Zi 3 0] .ret) (ZR [u1 11 (.eqStr false) [.tm 4,.cn (.val (.string ⟨#[112,121,116,104,97,103,111,114,101,97,110]⟩))],Zm 10 11] (ZC 10 (ZR [Zm 12 0,u1 13 (.call 60) [.tm 12,.cn (.bool false),.cn (.int .i64 8),.cn (.int .i64 1),.cn .nil],Zs 27 2 13,Zi 3 0] .ret) (ZR [u1 15 (.eqStr false) [.tm 4,.cn (.val (.string ⟨#[109,101,97,110,116,111,110,101]⟩))],Zm 14 15] (ZC 14 (ZR [Zm 16 0,u1 17 (.buildSlice 1 11 [(.int .i64 0)] [(0,1),(1,1),(2,1),(3,1),(4,1),(5,1),(6,1),(7,1),(8,1),(9,1),(10,1)]) [.cn (.int .i64 0),.cn (.int .i64 1),.cn (.int .i64 2),.cn (.int .i64 3),.cn (.int .i64 4),.cn (.int .i64 5),.cn (.int .i64 6),.cn (.int .i64 7),.cn (.int .i64 9),.cn (.int .i64 10),.cn (.int .i64 11)],u1 18 (.call 60) [.tm 16,.cn (.bool true),.cn (.int .i64 8),.cn (.int .i64 4),.tm 17],Zs 27 2 18,Zi 3 0] .ret) (ZR [u1 20 (.eqStr false) [.tm 4,.cn (.val (.string ⟨#[119,101,114,99,107,109,101,105,115,116,101,114]⟩))],Zm 19 20] (ZC 19 (ZR [Zm 21 0,u1 22 (.buildSlice 1 4 [(.int .i64 0)] [(0,1),(1,1),(2,1),(3,1)]) [.cn (.int .i64 0),.cn (.int .i64 1),.cn (.int .i64 2),.cn (.int .i64 5)],u1 23 (.call 60) [.tm 21,.cn (.bool false),.cn (.int .i64 11),.cn (.int .i64 4),.tm 22],Zs 27 2 23,Zi 3 0] .ret) (ZR [u1 25 (.eqStr false) [.tm 4,.cn (.val (.string ⟨#[107,105,114,110,98,101,114,103,101,114]⟩))],Zm 24 25] (ZC 24 (ZR [Zm 26 0,u1 27 (.buildSlice 1 4 [(.int .i64 0)] [(0,1),(1,1),(2,1),(3,1)]) [.cn (.int .i64 0),.cn (.int .i64 1),.cn (.int .i64 2),.cn (.int .i64 3)],u1 28 (.call 60) [.tm 26,.cn (.bool true),.cn (.int .i64 6),.cn (.int .i64 4),.tm 27],Zs 27 2 28,Zi 3 0] .ret) (ZR [u1 30 (.eqStr false) [.tm 4,.cn (.val (.string ⟨#[118,97,108,108,111,116,116,105]⟩))],Zm 29 30] (ZC 29 (ZR [Zm 31 0,u1 32 (.buildSlice 1 6 [(.int .i64 0)] [(0,1),(1,1),(2,1),(3,1),(4,1),(5,1)]) [.cn (.int .i64 0),.cn (.int .i64 1),.cn (.int .i64 2),.cn (.int .i64 3),.cn (.int .i64 4),.cn (.int .i64 11)],u1 33 (.call 60) [.tm 31,.cn (.bool false),.cn (.int .i64 6),.cn (.int .i64 6),.tm 32],Zs 27 2 33,Zi 3 0] .ret) (ZR [u1 35 (.eqStr false) [.tm 4,.cn (.val (.string ⟨#[121,111,117,110,103]⟩))],Zm 34 35] (ZC 34 (ZR [Zm 36 0,u1 37 (.buildSlice 1 6 [(.int .i64 0)] [(0,1),(1,1),(2,1),(3,1),(4,1),(5,1)]) [.cn (.int .i64 0),.cn (.int .i64 1),.cn (.int .i64 2),.cn (.int .i64 3),.cn (.int .i64 4),.cn (.int .i64 5)],u1 38 (.call 60) [.tm 36,.cn (.bool false),.cn (.int .i64 11),.cn (.int .i64 6),.tm 37],Zs 27 2 38,Zi 3 0] .ret) .skip)))))))))))))))) (ZR [u1 39 (.build [(.val (.string ⟨#[]⟩)),(.bool false),(.int .i64 0),(.int .i64 0),(.int .i64 0),(.int .i64 0),(.int .i64 0),(.int .i64 0),(.int .i64 0),(.int .i64 0),(.int .i64 0),(.int .i64 0),(.int .i64 0),(.int .i64 0),(.int .i64 0),(.int .i64 0),(.int .i64 0),(.int .i64 0),(.int .i64 0),(.int .i64 0),(.int .i64 0),(.int .i64 0),(.int .i64 0),(.int .i64 0),(.int .i64 0),(.int .i64 0),(.int .i64 0)] []) [],Zs 27 2 39,Zi 3 4] .ret)))⟩
theorem Yyo:Yh Yzg Tryz.f27=some v27:=by kernel_rfl
def v25:VF:=⟨11,[.cell 2 true 27],(ZR [u1 2 (.alloc [(.val (.string ⟨#[]⟩)),(.bool false),(.int .i64 0),(.int .i64 0),(.int .i64 0),(.int .i64 0),(.int .i64 0),(.int .i64 0),(.int .i64 0),(.int .i64 0),(.int .i64 0),(.int .i64 0),(.int .i64 0),(.int .i64 0),(.int .i64 0),(.int .i64 0),(.int .i64 0),(.int .i64 0),(.int .i64 0),(.int .i64 0),(.int .i64 0),(.int .i64 0),(.int .i64 0),(.int .i64 0),(.int .i64 0),(.int .i64 0),(.int .i64 0)]) []] (ZR [Zm 6 0,Zc 7 27 6,Zm 5 7,Ze 8 0 5,Ze 9 1 5,u1 3 (.alloc [(.val (.string ⟨#[]⟩)),(.bool false),(.int .i64 0),(.int .i64 0),(.int .i64 0),(.int .i64 0),(.int .i64 0),(.int .i64 0),(.int .i64 0),(.int .i64 0),(.int .i64 0),(.int .i64 0),(.int .i64 0),(.int .i64 0),(.int .i64 0),(.int .i64 0),(.int .i64 0),(.int .i64 0),(.int .i64 0),(.int .i64 0),(.int .i64 0),(.int .i64 0),(.int .i64 0),(.int .i64 0),(.int .i64 0),(.int .i64 0),(.int .i64 0)]) [],Zs 27 3 8,Zm 4 9] (ZR [Zt 10 27 3,Zs 27 2 10] .ret)))⟩
def v8:VF:=⟨11,[.cell 2 true 27],(ZR [u1 2 (.alloc [(.val (.string ⟨#[]⟩)),(.bool false),(.int .i64 0),(.int .i64 0),(.int .i64 0),(.int .i64 0),(.int .i64 0),(.int .i64 0),(.int .i64 0),(.int .i64 0),(.int .i64 0),(.int .i64 0),(.int .i64 0),(.int .i64 0),(.int .i64 0),(.int .i64 0),(.int .i64 0),(.int .i64 0),(.int .i64 0),(.int .i64 0),(.int .i64 0),(.int .i64 0),(.int .i64 0),(.int .i64 0),(.int .i64 0),(.int .i64 0),(.int .i64 0)]) []] (ZR [Zm 6 0,Zc 7 27 6,Zm 5 7,Ze 8 0 5,Ze 9 1 5,u1 3 (.alloc [(.val (.string ⟨#[]⟩)),(.bool false),(.int .i64 0),(.int .i64 0),(.int .i64 0),(.int .i64 0),(.int .i64 0),(.int .i64 0),(.int .i64 0),(.int .i64 0),(.int .i64 0),(.int .i64 0),(.int .i64 0),(.int .i64 0),(.int .i64 0),(.int .i64 0),(.int .i64 0),(.int .i64 0),(.int .i64 0),(.int .i64 0),(.int .i64 0),(.int .i64 0),(.int .i64 0),(.int .i64 0),(.int .i64 0),(.int .i64 0),(.int .i64 0)]) [],Zs 27 3 8,Zm 4 9] (ZR [Zt 10 27 3,Zs 27 2 10] .ret)))⟩
theorem v8_is:Yh Yzg Tryz.f8=some v8:=by kernel_rfl
def v7:VF:=⟨5,[.cell 2 true 3],(ZR [u1 2 (.alloc [(.int .i64 0),(.int .i64 0),(.int .i64 0)]) []] (ZR [Zm 3 0,u1 4 (.build [(.int .i64 0),(.int .i64 0),(.int .i64 0)] [(0,1),(1,1),(2,1)]) [.cn (.int .i64 440000),.cn (.int .i64 15000),.tm 3],Zs 3 2 4] .ret))⟩
theorem v7_is:Yh Yzg Tryz.f7=some v7:=by kernel_rfl
def setP(p:Nat->Int×Int)(i:Nat)(x:Int×Int):Nat->Int×Int:=fun k=>if k=i then x else p k
theorem YlE(nm:ByteArray)(syn:Bool)(w:Int)(p:Nat->Int×Int){i:Nat}(h:i<12)(a b:Int):
   YC (encT ⟨nm,syn,w,p⟩) (3+idxN (i:Int) 2) [.int .i64 a,.int .i64 b]=encT ⟨nm,syn,w,setP p i (a,b)⟩:=by
 rcases YgT h with rfl|rfl|rfl|rfl|rfl|rfl|rfl|rfl|rfl|rfl|rfl|rfl <;> rfl
theorem Ywy(i:Nat):idxN (i:Int) 2=i*2:=by simp [idxN]
def fstP:Nat->Nat->Int×Int
 |0=>fun _=>(0,0)
 |i+1=>setP (fstP i) i (0,1)
def madP(den:Int)(l:List Int):Nat->Int×Int:=l.foldl (fun p x=>setP p x.toNat (1,den)) (fstP 12)
def madC:Ctr:={ alias:=false,of:=fun l=>match l with
 | [.val (.string nm),.bool syn,.int .i64 w,.int .i64 den,.vs _ _ n sz get]=> .ex (List Int) fun l=> .pre (lsP 1 enc1 n sz get l/\l.length<=100/\∀x,x∈l->0<=x/\x<=11) (.fin (.agg (encT ⟨nm,syn,w,madP den l⟩)) [])
 |_=>noC}
theorem Yv4{k:SV->List HO->Prop}{al:Bool}{hp:List HO}{T:Tm}(h:k (.agg (encT T)) []):YH al k (.agg (encT T)) hp:=
 YD h (YQ (.agg (encT T)) (YO T _)) (fun _=>by simp [Yl,Ym,encT,encP])
def TM0:Env:={ ct:=fun _=>none,fn:=fun _=>none,meth:=fun _ _=>none}
theorem YrD:Yp Yzg TM0:=by
 refine⟨fun f c h=>?_,fun f vf h=>?_,(fun _ _ _ h=>by cases h),by kernel_rfl,(fun _ h=>by cases h)⟩
 . cases h
 . cases h
theorem mad_c:madC.ok Yzg 60:=by
 refine Yc Tryz.func60 YyD YrD 600 madC fun args k h=>?_
 simp only[madC]at h
 split at h
 . rename_i nm syn w den tt z n sz get
   obtain⟨l,⟨⟨rfl,rfl,hg⟩,hn,hl⟩,h⟩:=h
   refine⟨[.val (.string nm),.bool syn,.int .i64 w,.int .i64 den,.vs tt z l.length 1 (fun k=>enc1 (l.getD k default))],⟨⟨rfl,trivial⟩,rfl,⟨rfl,rfl⟩,⟨rfl,rfl⟩,⟨id,rfl,rfl,rfl,hg⟩,trivial⟩,?_⟩
   dsimp only[v60,enc1,go_sem,reduceIte,Yzb]
   simp only[Yd,Yzb,Yzd,reduceCtorEq,Yzc]
   refine⟨rfl,rfl,?_⟩
   refine Loop.keep [3,0,5,0] Nat (fun i=>[(12,.int .i64 i)]) (fun i=>[(1,.box (encT ⟨nm,syn,w,fstP i⟩))]) [] (fun i=>i<=12) (fun i=>12-i) ?_ ?_
   . refine⟨0,by omega,?_⟩
     dsimp only[encT,encP,fstP,go_sem,reduceIte,Yzb]
     simp only[Ya]
     repeat' apply Yzm
     all_goals first|exact trivial|decide|rfl|omega|exact(Yzt (by omega)).symm|exact Yf _ (YO _ _) |simp
   . rintro i hi
     dsimp only[Yzh,go_sem,reduceIte,Yzb]
     simp only[Yd,Yzb,Yzd,reduceCtorEq,Yzc]
     refine⟨fun hlt=>?_,fun hge=>?_⟩
     . have hi12:i<12:=by omega
       rw[YlE _ _ _ _ hi12,Yzi ((i:Int)+1) (by omega)]
       refine⟨⟨by omega,by omega⟩,by rw[Ywy,lenT];omega,i+1,by omega,by omega,?_⟩
       simp only[Ya]
       refine⟨⟨by decide,by decide,by simp⟩,Yf _ (YO _ _)⟩
     . obtain rfl:i=12:=by omega
       refine Loop.keep [3,0,5,0] Nat (fun i=>[(13,.int .i64 i)]) (fun i=>[(1,.box (encT ⟨nm,syn,w,madP den (l.take i)⟩))]) [] (fun i=>i<=l.length) (fun i=>l.length-i) ?_ ?_
       . refine⟨0,by omega,?_⟩
         dsimp only[go_sem,reduceIte,Yzb]
         simp only[Ya]
         refine⟨⟨by decide,by decide,rfl⟩,Yf _ (YO _ _)⟩
       . rintro i hi
         dsimp only[Yzh,go_sem,reduceIte,Yzb]
         simp only[Yd,Yzb,Yzd,reduceCtorEq,Yzc]
         refine⟨fun hlt=>?_,fun hge=>?_⟩
         . have hil:i<l.length:=by omega
           have hx:=hl _ (YP hil)
           obtain⟨m,hm⟩:∃m:Nat,l.getD i default=(m:Int):=⟨(l.getD i default).toNat,by omega⟩
           have hm12:m<12:=by omega
           rw[hm,YlE _ _ _ _ hm12,YaQ hil (by omega)]
           have hS:madP den (l.take (i+1))=setP (madP den (l.take i)) m (1,den):=by
             rw[madP,YM hil,hm,Yzh];rfl
           refine⟨⟨by omega,by omega⟩,⟨by omega,by omega⟩,by rw[Ywy,lenT];omega,i+1,by omega,by omega,?_⟩
           rw[hS]
           simp only[Ya]
           refine⟨⟨by decide,by decide⟩,Yf _ (YO _ _)⟩
         . obtain rfl:i=l.length:=by omega
           rw[List.take_length]
           exact⟨Yzk 27,⟨rfl,Yaw _⟩,Yzk 27,Yv4 (T:=⟨nm,syn,w,madP den l⟩) h⟩
 . exact h.1.elim
theorem Ymc{a b:ByteArray}:(a.toList==b.toList)=decide (a.data.toList=b.data.toList):=by
 rw[ByteArray.toList_eq,ByteArray.toList_eq]
 by_cases h:a.data.toList=b.data.toList
 . rw[decide_eq_true h,beq_iff_eq];exact h
 . rw[decide_eq_false h,beq_eq_false_iff_ne];exact h
def EQ:Tm:=⟨⟨#[101,113,117,97,108]⟩,false,11,madP 12 [0,1,2,3,4,5,6,7,8,9,10]⟩
def MT:Tm:=⟨⟨#[109,101,97,110,116,111,110,101]⟩,true,8,madP 4 [0,1,2,3,4,5,6,7,9,10,11]⟩
def nmdC:Ctr:={ alias:=false,of:=fun l=>match l with
 | [.val (.string b)]=> .ex Bool fun m=> .pre (b=if m then MT.nm else EQ.nm) (.fin (.agg (encT (if m then MT else EQ))) [])
 |_=>noC}
def stdC:Ctr:={ alias:=false,of:=fun l=>match l with
 | [.val (.string b)]=> .ex Bool fun m=> .pre (b=if m then MT.nm else EQ.nm) (.fin (.tup [.agg (encT (if m then MT else EQ)),.int .i64 0]) [])
 |_=>noC}
theorem YrG{k:SV->List HO->Prop}{al:Bool}{hp:List HO}{T:Tm}{e:Int}(h:k (.tup [.agg (encT T),.int .i64 e]) []):YH al k (.tup [.agg (encT T),.int .i64 e]) hp:=
 YD h (YQ (.tup [.agg (encT T),.int .i64 e]) ⟨YO T _,trivial,trivial⟩) (fun _=>by simp [Yl,Ym,encT,encP])
theorem elev{k:Nat}(h:k<11):k=0\/k=1\/k=2\/k=3\/k=4\/k=5\/k=6\/k=7\/k=8\/k=9\/k=10:=by omega
def TM1:Env:={ ct:=fun n=>match n with|60=>some madC|_=>none,fn:=fun _=>none,meth:=fun _ _=>none}
theorem Yqa:TM1.ct 60=some madC:=rfl
theorem YvO:Yp Yzg TM1:=by
 refine⟨fun f c h=>?_,fun f vf h=>?_,(fun _ _ _ h=>by cases h),by kernel_rfl,(fun _ h=>by cases h)⟩
 . simp only[TM1]at h
   split at h
   . cases h;exact⟨mad_c,Tryz.f60,Tryz.func60,by kernel_rfl,by kernel_rfl⟩
   . cases h
 . cases h
theorem std_c:stdC.ok Yzg 27:=by
 refine Yc Tryz.func27 Yyo YvO 600 stdC fun args k h=>?_
 simp only[stdC]at h
 split at h
 . rename_i b
   obtain⟨m,hb,h⟩:=h
   have h:k (.tup [.agg (encT (if m then MT else EQ)),.int .i64 0]) []:=h
   refine⟨[.val (.string b)],⟨⟨rfl,trivial⟩,trivial⟩,?_⟩
   subst hb
   dsimp only[v27,Yqa,madC,go_sem,reduceIte,Yzb]
   simp only[Yd,Yzb,Yzd,reduceCtorEq,Yzc]
   cases m
   . refine⟨fun _=>⟨by decide,[0,1,2,3,4,5,6,7,8,9,10],⟨⟨rfl,rfl,fun j hj=>?_⟩,by decide,by decide⟩,⟨rfl,Yaw _⟩,Yzk 27,YrG (T:=EQ) h⟩,fun hf=>?_⟩
     . rcases elev hj with rfl|rfl|rfl|rfl|rfl|rfl|rfl|rfl|rfl|rfl|rfl <;> exact Yb _
     . exact absurd hf (by rw[Ymc];decide)
   . refine⟨fun hf=>?_,fun _=>⟨fun hf=>?_,fun _=>⟨fun _=>⟨by decide,[0,1,2,3,4,5,6,7,9,10,11],⟨⟨rfl,rfl,fun j hj=>?_⟩,by decide,by decide⟩,⟨rfl,Yaw _⟩,Yzk 27,YrG (T:=MT) h⟩,fun hf=>?_⟩⟩⟩
     . exact absurd hf (by rw[Ymc];decide)
     . exact absurd hf (by rw[Ymc];decide)
     . rcases elev hj with rfl|rfl|rfl|rfl|rfl|rfl|rfl|rfl|rfl|rfl|rfl <;> exact Yb _
     . exact absurd hf (by rw[Ymc];decide)
 . exact h.1.elim
theorem Yss{k:SV->List HO->Prop}{al:Bool}{hp:List HO}{x y z:Int}(h:k (.agg [.int .i64 x,.int .i64 y,.int .i64 z]) []):YH al k (.agg [.int .i64 x,.int .i64 y,.int .i64 z]) hp:=
 YD h (YQ (.agg [.int .i64 x,.int .i64 y,.int .i64 z]) ⟨trivial,trivial,trivial,trivial⟩) (fun _=>by simp [Yl,Ym])
def usu6C:Ctr:={ alias:=false,of:=fun l=>match l with
 | [.int .i64 t]=> .fin (.agg [.int .i64 440000,.int .i64 15000,.int .i64 t]) []
 |_=>noC}
theorem Ysc:usu6C.ok Yzg 7:=by
 refine Yc Tryz.func7 v7_is YrD 600 usu6C fun args k h=>?_
 simp only[usu6C]at h
 split at h
 . rename_i t
   refine⟨[.int .i64 t],by simp [leL,le],?_⟩
   dsimp only[v7,go_sem,reduceIte,Yzb]
   simp only[Yd,Yzb,Yzd,reduceCtorEq,Yzc]
   exact Yss h
 . exact h.1.elim
def TM2:Env:={ ct:=fun n=>match n with|27=>some stdC|_=>none,fn:=fun _=>none,meth:=fun _ _=>none}
theorem Yqb:TM2.ct 27=some stdC:=rfl
theorem YvP:Yp Yzg TM2:=by
 refine⟨fun f c h=>?_,fun f vf h=>?_,(fun _ _ _ h=>by cases h),by kernel_rfl,(fun _ h=>by cases h)⟩
 . simp only[TM2]at h
   split at h
   . cases h;exact⟨std_c,Tryz.f27,Tryz.func27,by kernel_rfl,by kernel_rfl⟩
   . cases h
 . cases h
theorem Yr2:nmdC.ok Yzg 8:=by
 refine Yc Tryz.func8 v8_is YvP 600 nmdC fun args k h=>?_
 simp only[nmdC]at h
 split at h
 . rename_i b
   obtain⟨m,hb,h⟩:=h
   have h:k (.agg (encT (if m then MT else EQ))) []:=h
   refine⟨[.val (.string b)],⟨⟨rfl,trivial⟩,trivial⟩,?_⟩
   dsimp only[v25,v8,Yqb,stdC,go_sem,reduceIte,Yzb]
   simp only[Yd,Yzb,Yzd,reduceCtorEq,Yzc]
   exact⟨m,hb,by decide,by decide,⟨rfl,Yaw _⟩,Yzk 27,⟨rfl,Yaw _⟩,Yzk 27,Yv4 h⟩
 . exact h.1.elim
def v9:VF:=⟨15,[.cell 6 true 2,.tmp 7],(ZR [u1 3 .box [.tm 0],u1 4 .box [.tm 1],u1 5 .box [.tm 2],Zn 6,Zi 7 0] (ZR [Zt 8 3 3,Zt 9 27 4,Zf 10 1 5,u1 11 (.mkfn (.func 29) 0) [.tm 5,.tm 3],u1 12 (.call 28) [.tm 8,.tm 9,.tm 10,.tm 11],Ze 13 0 12,Ze 14 1 12,Zs 2 6 13,Zm 7 14] .ret))⟩
theorem v9_is:Yh Yzg Tryz.f9=some v9:=by kernel_rfl
def v29:VF:=⟨10,[.cell 4 true 2],(ZR [Zn 4] (ZR [Zm 5 0,Zf 6 1 1,Za 7 0 2,Zf 8 1 7,u1 9 (.call 30) [.tm 5,.tm 6,.tm 8],Zs 2 4 9] .ret))⟩
theorem Yyp:Yh Yzg Tryz.f29=some v29:=by kernel_rfl
def v37:VF:=⟨27,[.tmp 2],(ZR [u1 2 .mov [.cn .nil]] (ZR [Zm 6 0,Zl 7 6,Zp 8 7 4,u1 9 (.make 2 16 [(.int .i64 0),(.int .i64 0)]) [.cn (.int .i64 0),.tm 8],Zm 3 9] (.seq (ZR [Zm 10 0,Zl 11 10,Zi 12 0] (.block 0 (.loop (ZR [Zr 13 .lss 12 11] (.seq (ZC 13 .skip (.exit 0)) (.seq (.block 1 (ZR [Zx 14 2 10 12,Zt 15 2 14,Zn 5,Zs 2 5 15] (.region [Zm 16 3,Za 17 0 5,Zf 18 1 17,Za 19 1 5,Zf 20 1 19,u1 21 .neg [.tm 20],u1 22 (.build [(.int .i64 0),(.int .i64 0)] [(0,1),(1,1)]) [.tm 18,.tm 21],u1 23 (.buildSlice 2 1 [(.int .i64 0),(.int .i64 0)] [(0,2)]) [.tm 22],u1 24 (.append 2 16 [(.int .i64 0),(.int .i64 0)]) [.tm 16,.tm 23],Zm 3 24]))) (.region [Zp 25 12 1,Zm 12 25]))))))) (ZR [Zm 26 3,Zm 2 26] .ret))))⟩
theorem Yyv:Yh Yzg Tryz.f37=some v37:=by kernel_rfl
def v12:VF:=⟨15,[.cell 6 true 2,.tmp 7],(ZR [u1 3 .box [.tm 0],u1 4 .box [.tm 1],u1 5 .box [.tm 2],Zn 6,Zi 7 0] (ZR [Zt 8 3 3,Zt 9 27 4,Zf 10 1 5,u1 11 (.mkfn (.func 35) 0) [.tm 3,.tm 5],u1 12 (.call 28) [.tm 8,.tm 9,.tm 10,.tm 11],Ze 13 0 12,Ze 14 1 12,Zs 2 6 13,Zm 7 14] .ret))⟩
theorem Yyl:Yh Yzg Tryz.f12=some v12:=by kernel_rfl
def v35:VF:=⟨39,[.cell 4 true 2],(ZR [Zn 4] (ZR [Zm 7 0,Za 8 1 1,Zf 9 1 8,u1 10 .nilCheck [.tm 7],Za 11 0 10,Za 12 2 11,Zs 1 12 9] (ZR [Zm 14 0,Zf 15 1 2,Zd 16 36 14 15,Zm 13 16,Ze 17 0 13,Ze 18 1 13,Zm 5 17,Zm 6 18] (.seq (.draw [] [Zu 19 6,Zu 20 5,Zy 22 0 1,Zv 23 1 22,Zu 24 6,w1 25 .neg [.tm 24],w1 26 (.build [(.int .i64 0),(.int .i64 0)] [(0,1),(1,1)]) [.tm 23,.tm 25],Zy 27 1 1,Zv 28 1 27,Zu 29 6,w1 30 .quo [.tm 29,.cn (.int .i64 2)],Zu 32 6,w1 33 .neg [.tm 32],w1 34 .quo [.tm 33,.cn (.int .i64 2)],w1 21 (.call 37) [.tm 20],Zz 31 34 28 30,w1 35 (.call 34) [.cn (.int .i64 0),.tm 34],w1 36 (.buildSlice 2 3 [(.int .i64 0),(.int .i64 0)] [(0,2),(2,2),(4,2)]) [.tm 26,.tm 31,.tm 35],⟨u1 37 (.append 2 16 [(.int .i64 0),(.int .i64 0)]) [.tm 21,.tm 36],[.tm 6,.tm 19]⟩,w1 38 (.call 33) [.cn (.int .i64 331300000000),.tm 19,.tm 37],ZS 2 4 38]) .ret))))⟩
theorem Yyt:Yh Yzg Tryz.f35=some v35:=by kernel_rfl
def v44:VF:=⟨26,[.tmp 2,.tmp 3],(ZR [u1 1 .box [.tm 0],Zi 2 0,Zi 3 0] (.seq (ZR [Zt 8 3 1,Zc 9 65 8,Zm 4 9] (ZR [Zm 10 4,Zq 11 .neq 10 0] (ZC 11 (ZR [Zm 12 4,Zi 2 0,Zm 3 12] .ret) .skip))) (.seq (.draw [] [Zy 14 2 1,Zv 15 1 14,Zy 17 1 1,Zv 18 1 17,w1 16 (.call 34) [.tm 15,.cn (.int .i64 1)],w1 19 (.call 34) [.tm 18,.cn (.int .i64 (-1))],w1 20 (.buildSlice 2 2 [(.int .i64 0),(.int .i64 0)] [(0,2),(2,2)]) [.tm 16,.tm 19],w1 21 (.call 43) [.tm 20,.cn (.int .i64 1),.cn (.int .i64 600000)],Zu 13 21,ZE 22 0 13,ZE 23 1 13,ZE 24 2 13,Zu 5 22,Zu 6 23,Zu 7 24]) (ZR [Zm 25 5,Zm 2 25,Zi 3 0] .ret))))⟩
theorem YyB:Yh Yzg Tryz.f44=some v44:=by kernel_rfl
def ngT(x:Int×Int):Int×Int:=(x.1,IntKind.i64.wrap (0-x.2))
def invC:Ctr:={ alias:=false,of:=fun l=>match l with
 | [.vs _ _ n sz get]=> .ex (List (Int×Int)) fun l=> .pre (lsP 2 enc2 n sz get l/\n<=1000000) (.fin (.own 0 0 l.length 2) [.own false 2 l.length (fun k=>enc2 ((l.map ngT).getD k default))])
 |_=>noC}
def TW0:Env:={ ct:=fun _=>none,fn:=fun _=>none,meth:=fun _ _=>none}
theorem YvQ:Yp Yzg TW0:=by
 refine⟨fun f c h=>?_,fun f vf h=>?_,(fun _ _ _ h=>by cases h),by kernel_rfl,(fun _ h=>by cases h)⟩
 . cases h
 . cases h
theorem YwD:invC.ok Yzg 37:=by
 refine Yex Tryz.func37 Yyv YvQ 300 invC fun args k h=>?_
 simp only[invC]at h
 split at h
 . rename_i tt z n sz get
   obtain⟨l,⟨⟨rfl,rfl,hg⟩,hn⟩,h⟩:=h
   refine⟨[.vs tt z l.length 2 (fun k=>enc2 (l.getD k default))],⟨⟨id,rfl,rfl,rfl,hg⟩,trivial⟩,?_⟩
   dsimp only[v37,enc2,go_sem,reduceIte,Yzb]
   simp only[Yd,Yzb,Yzd,reduceCtorEq,Yzc]
   have hw:IntKind.i64.wrap ((l.length:Int)+4)=((l.length+4:Nat):Int):=by rw[Yzi ((l.length:Int)+4) (by omega)];rfl
   rw[hw]
   refine⟨⟨by decide,by decide,by omega,by unfold YR;omega⟩,?_⟩
   refine Loop.keep [10,0] Nat (fun i=>[(3,.own 0 0 i 2),(12,.int .i64 i)]) (fun i=>[(0,.own false 2 i (fun k=>enc2 ((l.map ngT).getD k default)))]) [] (fun i=>i<=l.length) (fun i=>l.length-i) ?_ ?_
   . refine⟨0,Nat.zero_le _,?_⟩
     dsimp only[go_sem,reduceIte,Yzb]
     simp only[Ya]
     exact⟨⟨⟨rfl,by decide⟩,rfl⟩,rfl,fun q hq=>absurd hq (Nat.not_lt_zero _)⟩
   . rintro i hi
     replace hi:i<=l.length:=hi
     dsimp only[enc2,Yzh,go_sem,reduceIte,Yzb]
     simp only[Yd,Yzb,Yzd,reduceCtorEq,Yzc]
     refine⟨fun hlt=>⟨⟨by omega,by omega⟩,by decide,⟨by unfold YR;omega,fun q hq=>one2 hq⟩,i+1,by omega,by omega,?_⟩,fun hge=>?_⟩
     . have hil:i<l.length:=by omega
       rw[YaQ hil (by omega)]
       simp only[Ya]
       refine⟨by decide,rfl,fun q hq=>?_⟩
       by_cases hc:q<i
       . rw[if_pos hc];exact Yf _ ⟨trivial,trivial,trivial⟩
       . obtain rfl:q=i:=by omega
         rw[if_neg hc,Nat.sub_self,Ykl hil];exact Yf _ ⟨trivial,trivial,trivial⟩
     . obtain rfl:i=l.length:=by omega
       exact⟨h,trivial,by simp [Ybf,Ym,Yl]⟩
 . exact h.1.elim
def frq6C:Ctr:={ alias:=false,of:=fun l=>match l with
 | [.agg [.int .i64 a,.int .i64 t0,.int .i64 t],.agg cs,.int .i64 note]=> .ex Tm fun T=> .pre (cs=encT T/\T.nm.size<=9223372036854775807/\chkS a t0 t=0/\Yci T=0/\0<=note/\note<=139) (.fin (.tup [.agg [.int .i64 (Ygb (Yz T) t0 t note a).1,.int .i64 (Ygb (Yz T) t0 t note a).2],.int .i64 0]) [])
 |_=>noC}
def TW1:Env:={ ct:=fun n=>match n with|30=>some freqC|65=>some chkSC|47=>some NotC|_=>none,fn:=fun n=>match n with|28=>some v28|38=>some v38|61=>some v61|29=>some v29|_=>none,meth:=fun _ _=>none}
theorem YkQ:TW1.ct 30=some freqC:=rfl
theorem YkU:TW1.ct 65=some chkSC:=rfl
theorem YkS:TW1.ct 47=some NotC:=rfl
theorem YkO:TW1.ct 28=none:=rfl
theorem YkV:TW1.fn 28=some v28:=rfl
theorem YkR:TW1.ct 38=none:=rfl
theorem YkX:TW1.fn 38=some v38:=rfl
theorem YkT:TW1.ct 61=none:=rfl
theorem YkY:TW1.fn 61=some v61:=rfl
theorem YkP:TW1.ct 29=none:=rfl
theorem YkW:TW1.fn 29=some v29:=rfl
theorem YvR:Yp Yzg TW1:=by
 refine⟨fun f c h=>?_,fun f vf h=>?_,(fun _ _ _ h=>by cases h),by kernel_rfl,(fun _ h=>by cases h)⟩
 . simp only[TW1]at h
   split at h
   . cases h;exact⟨YrR,Tryz.f30,Tryz.func30,by kernel_rfl,by kernel_rfl⟩
   . cases h;exact⟨Yi1,Tryz.f65,Tryz.func65,by kernel_rfl,by kernel_rfl⟩
   . cases h;exact⟨YpG,Tryz.f47,Tryz.func47,by kernel_rfl,by kernel_rfl⟩
   . cases h
 . simp only[TW1]at h
   split at h
   . cases h;exact⟨Tryz.f28,Tryz.func28,Ypu,Tryz.f28,Tryz.func28,by kernel_rfl,by kernel_rfl⟩
   . cases h;exact⟨Tryz.f38,Tryz.func38,Ymf,Tryz.f38,Tryz.func38,by kernel_rfl,by kernel_rfl⟩
   . cases h;exact⟨Tryz.f61,Tryz.func61,Ypv,Tryz.f61,Tryz.func61,by kernel_rfl,by kernel_rfl⟩
   . cases h;exact⟨Tryz.f29,Tryz.func29,Yyp,Tryz.f29,Tryz.func29,by kernel_rfl,by kernel_rfl⟩
   . cases h
theorem YrS:frq6C.ok Yzg 9:=by
 refine Yc Tryz.func9 v9_is YvR 900 frq6C fun args k h=>?_
 simp only[frq6C]at h
 split at h
 . rename_i a t0 t cs note
   obtain⟨T,⟨rfl,hnm,hS,hT,hn0,hn1⟩,h⟩:=h
   refine⟨[.agg [.int .i64 a,.int .i64 t0,.int .i64 t],.agg (encT T),.int .i64 note],⟨⟨⟨rfl,rfl⟩,⟨rfl,rfl⟩,⟨rfl,rfl⟩,trivial⟩,Yf _ (YO T _),⟨rfl,rfl⟩,trivial⟩,?_⟩
   dsimp only[v9,Yer,lenT,YkQ,freqC,YkU,chkSC,YkS,NotC,YkO,YkV,v28,YkR,YkX,v38,YkT,YkY,v61,YkP,YkW,v29,go_sem,reduceIte,Yzb]
   simp only[Yd,Yzb,Yzd,reduceCtorEq,Yzc]
   refine⟨Yaw T,Yaw T,Yaw T,fun hs=>absurd hS hs,fun hs=>⟨T,⟨rfl,hnm⟩,?_⟩⟩
   rw[if_neg (fun hh=>hh hT)]
   dsimp only[Yer,lenT,YkQ,freqC,YkU,chkSC,YkS,NotC,YkO,YkV,v28,YkR,YkX,v38,YkT,YkY,v61,YkP,YkW,v29,go_sem,reduceIte,Yzb]
   simp only[Yd,Yzb,Yzd,reduceCtorEq,Yzc]
   obtain⟨ha,hb0,hb1⟩:=Yi0 hS
   refine⟨by decide,by decide,fun hh=>absurd trivial hh,by decide,by decide,fun hh=>absurd trivial hh,fun hc=>?_,fun hc=>⟨Yz T,⟨fun q _=>Yb _,⟨hn0,hn1⟩,hb0,hb1⟩,by decide,by decide,?_⟩⟩
   . simp only[Bool.and_eq_false_iff,decide_eq_false_iff_not]at hc;omega
   . exact Ycn (show k _ []from h)
 . exact h.1.elim
def drfF(t0 t:Int):Int:=(flrF [(273150+t,1),(273150+t0, -1)] 1 600000).1
def drfC:Ctr:={ alias:=false,of:=fun l=>match l with
 | [.agg [.int .i64 a,.int .i64 t0,.int .i64 t]]=> .pre (chkS a t0 t=0) (.fin (.tup [.int .i64 (drfF t0 t),.int .i64 0]) [])
 |_=>noC}
def TW2:Env:={ ct:=fun n=>match n with|65=>some chkSC|34=>some warmC|43=>some flrC|_=>none,fn:=fun _=>none,meth:=fun _ _=>none}
theorem Yqe:TW2.ct 65=some chkSC:=rfl
theorem Yqc:TW2.ct 34=some warmC:=rfl
theorem Yqd:TW2.ct 43=some flrC:=rfl
theorem YvS:Yp Yzg TW2:=by
 refine⟨fun f c h=>?_,fun f vf h=>?_,(fun _ _ _ h=>by cases h),by kernel_rfl,(fun _ h=>by cases h)⟩
 . simp only[TW2]at h
   split at h
   . cases h;exact⟨Yi1,Tryz.f65,Tryz.func65,by kernel_rfl,by kernel_rfl⟩
   . cases h;exact⟨Ypy,Tryz.f34,Tryz.func34,by kernel_rfl,by kernel_rfl⟩
   . cases h;exact⟨Ys3,Tryz.f43,Tryz.func43,by kernel_rfl,by kernel_rfl⟩
   . cases h
 . cases h
theorem drf_c:drfC.ok Yzg 44:=by
 refine Yc Tryz.func44 YyB YvS 600 drfC fun args k h=>?_
 simp only[drfC]at h
 split at h
 . rename_i a t0 t
   obtain⟨hS,h⟩:=h
   have h:k (.tup [.int .i64 (drfF t0 t),.int .i64 0]) []:=h
   refine⟨[.agg [.int .i64 a,.int .i64 t0,.int .i64 t]],by simp [leL,le],?_⟩
   dsimp only[v44,Yqe,chkSC,Yqc,warmC,Yqd,flrC,go_sem,reduceIte,Yzb]
   simp only[Yd,Yzb,Yzd,reduceCtorEq,Yzc]
   obtain⟨ha,hb0,hb1⟩:=Yi0 hS
   refine⟨fun hh=>absurd hS hh,fun _=>⟨hb1,hb0,by decide,[(273150+t,1),(273150+t0, -1)],⟨rfl,rfl,fun q hq=>?_⟩,by decide,by decide,by decide,Ydf h⟩⟩
   rcases(show q=0\/q=1 by omega)with rfl|rfl <;> exact Yb _
 . exact h.1.elim
def wavL(L:Nat->Rt)(a t0 note:Int):List (Int×Int):=
 (Yi L t0 t0 note).1.map ngT++[(a,IntKind.i64.wrap (0-(Yi L t0 t0 note).2)),(273150+t0,IntKind.i64.wrap ((Yi L t0 t0 note).2.tdiv 2)),(273150+0,IntKind.i64.wrap ((IntKind.i64.wrap (0-(Yi L t0 t0 note).2)).tdiv 2))]
def wavF(L:Nat->Rt)(a t0 note:Int):Int×Int:=pspF 331300000000 (wavL L a t0 note) (Yi L t0 t0 note).2
def wavC:Ctr:={ alias:=false,of:=fun l=>match l with
 | [.agg [.int .i64 a,.int .i64 t0,.int .i64 t],.agg cs,.int .i64 note]=> .ex Tm fun T=> .pre (cs=encT T/\T.nm.size<=9223372036854775807/\chkS a t0 t=0/\Yci T=0/\0<=note/\note<=139) (.fin (.tup [.agg [.int .i64 (wavF (Yz T) a t0 note).1,.int .i64 (wavF (Yz T) a t0 note).2],.int .i64 0]) [])
 |_=>noC}
def TW3:Env:={ ct:=fun n=>match n with|36=>some termC|37=>some invC|34=>some warmC|33=>some pspC|65=>some chkSC|47=>some NotC|_=>none,fn:=fun n=>match n with|28=>some v28|38=>some v38|61=>some v61|35=>some v35|_=>none,meth:=fun _ _=>none}
theorem Yk3:TW3.ct 36=some termC:=rfl
theorem Yk4:TW3.ct 37=some invC:=rfl
theorem Yk1:TW3.ct 34=some warmC:=rfl
theorem Yk0:TW3.ct 33=some pspC:=rfl
theorem Yk8:TW3.ct 65=some chkSC:=rfl
theorem Yk6:TW3.ct 47=some NotC:=rfl
theorem YkZ:TW3.ct 28=none:=rfl
theorem Yk9:TW3.fn 28=some v28:=rfl
theorem Yk5:TW3.ct 38=none:=rfl
theorem Ylb:TW3.fn 38=some v38:=rfl
theorem Yk7:TW3.ct 61=none:=rfl
theorem Ylc:TW3.fn 61=some v61:=rfl
theorem Yk2:TW3.ct 35=none:=rfl
theorem Yla:TW3.fn 35=some v35:=rfl
theorem YvT:Yp Yzg TW3:=by
 refine⟨fun f c h=>?_,fun f vf h=>?_,(fun _ _ _ h=>by cases h),by kernel_rfl,(fun _ h=>by cases h)⟩
 . simp only[TW3]at h
   split at h
   . cases h;exact⟨Yme,Tryz.f36,Tryz.func36,by kernel_rfl,by kernel_rfl⟩
   . cases h;exact⟨YwD,Tryz.f37,Tryz.func37,by kernel_rfl,by kernel_rfl⟩
   . cases h;exact⟨Ypy,Tryz.f34,Tryz.func34,by kernel_rfl,by kernel_rfl⟩
   . cases h;exact⟨YtO,Tryz.f33,Tryz.func33,by kernel_rfl,by kernel_rfl⟩
   . cases h;exact⟨Yi1,Tryz.f65,Tryz.func65,by kernel_rfl,by kernel_rfl⟩
   . cases h;exact⟨YpG,Tryz.f47,Tryz.func47,by kernel_rfl,by kernel_rfl⟩
   . cases h
 . simp only[TW3]at h
   split at h
   . cases h;exact⟨Tryz.f28,Tryz.func28,Ypu,Tryz.f28,Tryz.func28,by kernel_rfl,by kernel_rfl⟩
   . cases h;exact⟨Tryz.f38,Tryz.func38,Ymf,Tryz.f38,Tryz.func38,by kernel_rfl,by kernel_rfl⟩
   . cases h;exact⟨Tryz.f61,Tryz.func61,Ypv,Tryz.f61,Tryz.func61,by kernel_rfl,by kernel_rfl⟩
   . cases h;exact⟨Tryz.f35,Tryz.func35,Yyt,Tryz.f35,Tryz.func35,by kernel_rfl,by kernel_rfl⟩
   . cases h
theorem wav_c:wavC.ok Yzg 12:=by
 refine Yc Tryz.func12 Yyl YvT 900 wavC fun args k h=>?_
 simp only[wavC]at h
 split at h
 . rename_i a t0 t cs note
   obtain⟨T,⟨rfl,hnm,hS,hT,hn0,hn1⟩,h⟩:=h
   refine⟨[.agg [.int .i64 a,.int .i64 t0,.int .i64 t],.agg (encT T),.int .i64 note],⟨⟨⟨rfl,rfl⟩,⟨rfl,rfl⟩,⟨rfl,rfl⟩,trivial⟩,Yf _ (YO T _),⟨rfl,rfl⟩,trivial⟩,?_⟩
   dsimp only[v12,Yer,lenT,Yk3,termC,Yk4,invC,Yk1,warmC,Yk0,pspC,Yk8,chkSC,Yk6,NotC,YkZ,Yk9,v28,Yk5,Ylb,v38,Yk7,Ylc,v61,Yk2,Yla,v35,go_sem,reduceIte,Yzb]
   simp only[Yd,Yzb,Yzd,reduceCtorEq,Yzc]
   refine⟨Yaw T,Yaw T,Yaw T,fun hs=>absurd hS hs,fun hs=>⟨T,⟨rfl,hnm⟩,?_⟩⟩
   rw[if_neg (fun hh=>hh hT)]
   dsimp only[Yer,lenT,Yk3,termC,Yk4,invC,Yk1,warmC,Yk0,pspC,Yk8,chkSC,Yk6,NotC,YkZ,Yk9,v28,Yk5,Ylb,v38,Yk7,Ylc,v61,Yk2,Yla,v35,go_sem,reduceIte,Yzb]
   simp only[Yd,Yzb,Yzd,reduceCtorEq,Yzc]
   obtain⟨ha,hb0,hb1⟩:=Yi0 hS
   have hl:=YcQ (Yz T) t0 t0 note
   refine⟨by decide,by decide,fun hh=>absurd trivial hh,by decide,by decide,fun hh=>absurd trivial hh,fun hc=>?_,fun hc=>⟨Yz T,⟨fun q _=>Yb _,⟨hn0,hn1⟩,hb0⟩,by decide,by decide,by decide,by decide,(Yi (Yz T) t0 t0 note).1,⟨⟨rfl,rfl,fun q _=>Yb _⟩,by omega⟩,?_⟩⟩
   . simp only[Bool.and_eq_false_iff,decide_eq_false_iff_not]at hc;omega
   refine⟨hb0,by decide,by decide,⟨by unfold YR;omega,fun q hq=>Ypp hq⟩,wavL (Yz T) a t0 note,⟨⟨rfl,by simp [wavL],fun q hq=>?_⟩,by omega⟩,?_⟩
   . have em:((Yi (Yz T) t0 t0 note).1.map ngT).length=(Yi (Yz T) t0 t0 note).1.length:=by simp
     by_cases hc:q<(Yi (Yz T) t0 t0 note).1.length
     . simp only[if_pos hc]
       rw[wavL,YF (by omega)]
       exact Yb _
     . simp only[if_neg hc]
       rw[wavL,YG (by omega),em]
       rcases(show q-(Yi (Yz T) t0 t0 note).1.length=0\/q-(Yi (Yz T) t0 t0 note).1.length=1\/q-(Yi (Yz T) t0 t0 note).1.length=2 by omega)with e|e|e
       . rw[e];exact Yb _
       . rw[e];exact Yb _
       . rw[e];exact Yb _
   exact⟨by decide,by decide,Ycn (show k _ []from h)⟩
 . exact h.1.elim
def v42:VF:=⟨47,[.tmp 8],(ZR [u1 8 .mov [.cn .nil]] (ZR [u1 9 (.alloc [.nil]) []] (ZR [u1 15 (.mkfn (.func 68) 0) [.tm 9],Zm 10 15] (.seq (ZR [Zm 16 0,Zl 17 16,Zi 18 0] (.block 0 (.loop (ZR [Zr 19 .lss 18 17] (.seq (ZC 19 .skip (.exit 0)) (.seq (.block 1 (ZR [Zx 20 2 16 18,Zt 21 2 20,Zn 12,Zs 2 12 21] (.region [Zm 22 10,Za 23 0 12,Zf 24 1 23,Zm 25 1,Za 26 1 12,Zf 27 1 26,Zo 28 .mul 25 27,u1 29 .callv [.tm 22,.tm 24,.tm 28]]))) (.region [Zp 30 18 1,Zm 18 30]))))))) (.seq (ZR [Zm 31 2,Zl 32 31,Zi 33 0] (.block 2 (.loop (ZR [Zr 34 .lss 33 32] (.seq (ZC 34 .skip (.exit 2)) (.seq (.block 3 (ZR [Zx 35 2 31 33,Zt 36 2 35,Zn 14,Zs 2 14 36] (.region [Zm 37 10,Za 38 0 14,Zf 39 1 38,Zm 40 3,Za 41 1 14,Zf 42 1 41,Zo 43 .mul 40 42,u1 44 .callv [.tm 37,.tm 39,.tm 43]]))) (.region [Zp 45 33 1,Zm 33 45]))))))) (ZR [Zf 46 1 9,Zm 8 46] .ret))))))⟩
theorem Yyz:Yh Yzg Tryz.f42=some v42:=by kernel_rfl
def v68:VF:=⟨34,[],(.seq (ZR [Zf 6 1 2,Zl 7 6,Zi 8 0] (.block 0 (.loop (ZR [Zr 9 .lss 8 7] (.seq (ZC 9 .skip (.exit 0)) (.seq (.block 1 (ZR [Zm 10 8,Zm 5 10] (ZR [Zf 11 1 2,Zm 12 5,Zx 13 2 11 12,Za 14 0 13,Zf 15 1 14,Zm 16 0,Zr 17 .eql 15 16] (ZC 17 (ZR [Zf 18 1 2,Zm 19 5,Zx 20 2 18 19,Za 21 1 20,Zf 22 1 21,Zm 23 1,Zo 24 .add 22 23,Zx 25 2 18 19,Za 26 1 25,Zs 1 26 24] .ret) .skip)))) (.region [Zp 27 8 1,Zm 8 27]))))))) (.region [Zf 28 1 2,Zm 29 0,Zm 30 1,u1 31 (.build [(.int .i64 0),(.int .i64 0)] [(0,1),(1,1)]) [.tm 29,.tm 30],u1 32 (.buildSlice 2 1 [(.int .i64 0),(.int .i64 0)] [(0,2)]) [.tm 31],u1 33 (.append 2 16 [(.int .i64 0),(.int .i64 0)]) [.tm 28,.tm 32],Zs 1 2 33]))⟩
theorem YyK:Yh Yzg Tryz.f68=some v68:=by kernel_rfl
def addJ(n num:Int):List (Int×Int)->List (Int×Int)
 | []=>[(n,num)]
 |y::l=>if y.1=n then(y.1,IntKind.i64.wrap (y.2+num))::l else y::addJ n num l
def jnL(x:Int)(a:List (Int×Int))(o:List (Int×Int)):List (Int×Int):=a.foldl (fun o t=>addJ t.1 (IntKind.i64.wrap (x*t.2)) o) o
def pjnF(a:List (Int×Int))(x:Int)(b:List (Int×Int))(y:Int):List (Int×Int):=jnL y b (jnL x a [])
def pjnC:Ctr:={ alias:=false,of:=fun l=>match l with
 | [.vs _ _ n sz get,.int .i64 x,.vs _ _ n' sz' get',.int .i64 y]=> .ex (List (Int×Int)) fun a=> .ex (List (Int×Int)) fun b=> .pre (lsP 2 enc2 n sz get a/\lsP 2 enc2 n' sz' get' b/\n<=1000/\n'<=1000)
     (.all Bool fun z=> .fin (.vs true z (pjnF a x b y).length 2 (fun k=>enc2 ((pjnF a x b y).getD k default))) [])
 | [.vs _ _ n sz get,.int .i64 x,.nil,.int .i64 y]=> .ex (List (Int×Int)) fun a=> .pre (lsP 2 enc2 n sz get a/\n<=1000)
     (.all Bool fun z=> .fin (.vs true z (pjnF a x [] y).length 2 (fun k=>enc2 ((pjnF a x [] y).getD k default))) [])
 |_=>noC}
theorem Yle(n num:Int):∀l:List (Int×Int),(addJ n num l).length<=l.length+1
 | []=>Yzk _
 |y::l=>by
   rw[addJ];split
   . simp
   . have:=Yle n num l;simp only[Yzy];omega
theorem Yfi{n num:Int}:∀{l:List (Int×Int)},(∀j,j<l.length->(l.getD j default).1≠n)->addJ n num l=l++[(n,num)]
 | [],_=>rfl
 |y::l,h=>by
   rw[addJ,if_neg (show¬y.1=n from h 0 (Nat.zero_lt_succ _)),Yfi fun j hj=>h (j+1) (Nat.succ_lt_succ hj)];rfl
theorem Yfh{n num:Int}:∀{l:List (Int×Int)}{i:Nat},i<l.length->(∀j,j<i->(l.getD j default).1≠n)->(l.getD i default).1=n->
   (addJ n num l).length=l.length/\∀k,(addJ n num l).getD k default=if k=i then((l.getD i default).1,IntKind.i64.wrap ((l.getD i default).2+num))else l.getD k default
 |y::l,0,_,_,he=>by
   replace he:y.1=n:=he
   rw[addJ,if_pos he]
   refine⟨rfl,fun k=>?_⟩
   cases k with
   |zero=>rfl
   |succ k=>rfl
 |y::l,i+1,hi,hn,he=>by
   rw[addJ,if_neg (show¬y.1=n from hn 0 (Nat.zero_lt_succ _))]
   obtain⟨h1,h2⟩:=Yfh (l:=l) (i:=i) (n:=n) (num:=num) (Nat.lt_of_succ_lt_succ hi) (fun j hj=>hn (j+1) (Nat.succ_lt_succ hj)) he
   refine⟨by simp [h1],fun k=>?_⟩
   cases k with
   |zero=>rfl
   |succ k=>
     show(addJ n num l).getD k default=if k+1=i+1 then _ else l.getD k default
     rw[h2 k]
     by_cases hc:k=i
     . rw[if_pos hc,if_pos (by omega)];rfl
     . rw[if_neg hc,if_neg (by omega)]
theorem Ybh(x:Int):∀(a o:List (Int×Int)),(jnL x a o).length<=o.length+a.length
 | [],o=>by simp [jnL]
 |t::a,o=>by
   have h1:=Ybh x a (addJ t.1 (IntKind.i64.wrap (x*t.2)) o)
   have h2:=Yle t.1 (IntKind.i64.wrap (x*t.2)) o
   show(jnL x a (addJ t.1 (IntKind.i64.wrap (x*t.2)) o)).length<=_
   simp only[Yzy];omega
theorem Ye5(x:Int){a:List (Int×Int)}{i:Nat}(h:i<a.length)(o:List (Int×Int)):jnL x (a.take (i+1)) o=addJ (a.getD i default).1 (IntKind.i64.wrap (x*(a.getD i default).2)) (jnL x (a.take i) o):=by
 unfold jnL;rw[YM h]
def TX0:Env:={ ct:=fun _=>none,fn:=fun n=>match n with|68=>some v68|_=>none,meth:=fun _ _=>none}
theorem YcS:TX0.ct 68=none:=rfl
theorem YcT:TX0.fn 68=some v68:=rfl
theorem YvU:Yp Yzg TX0:=by
 refine⟨fun f c h=>?_,fun f vf h=>?_,(fun _ _ _ h=>by cases h),by kernel_rfl,(fun _ h=>by cases h)⟩
 . cases h
 . simp only[TX0]at h
   split at h
   . cases h;exact⟨Tryz.f68,Tryz.func68,YyK,Tryz.f68,Tryz.func68,by kernel_rfl,by kernel_rfl⟩
   . cases h
theorem Yxh:pjnC.ok Yzg 42:=by
 refine Yc Tryz.func42 Yyz YvU 600 pjnC fun args k h=>?_
 simp only[pjnC]at h
 split at h
 . rename_i tt z n sz get x tt' z' n' sz' get' y
   obtain⟨a,b,⟨⟨rfl,rfl,hg⟩,⟨rfl,rfl,hg'⟩,hn,hn'⟩,h⟩:=h
   refine⟨[.vs tt z a.length 2 (fun k=>enc2 (a.getD k default)),.int .i64 x,.vs tt' z' b.length 2 (fun k=>enc2 (b.getD k default)),.int .i64 y],⟨⟨id,rfl,rfl,rfl,hg⟩,⟨rfl,rfl⟩,⟨id,rfl,rfl,rfl,hg'⟩,⟨rfl,rfl⟩,trivial⟩,?_⟩
   have h:∀z,k (.vs true z (pjnF a x b y).length 2 (fun k=>enc2 ((pjnF a x b y).getD k default))) []:=h
   dsimp only[v42,YcS,YcT,v68,enc2,go_sem,reduceIte,Yzb]
   simp only[Yd,Yzb,Yzd,reduceCtorEq,Yzc]
   refine Loop.keep [0,0,0,0,5,0,5,0] (Nat×Bool) (fun s=>[(18,.int .i64 s.1)]) (fun s=>[(0,.box [.own 1 0 (jnL x (a.take s.1) []).length 2]),(1,.own s.2 2 (jnL x (a.take s.1) []).length (fun k=>enc2 ((jnL x (a.take s.1) []).getD k default)))]) [.gone] (fun s=>s.1<=a.length/\(s.2=true->(jnL x (a.take s.1) []).length=0)) (fun s=>a.length-s.1) ?_ ?_
   . refine⟨(0,true),⟨Nat.zero_le _,fun _=>rfl⟩,?_⟩
     dsimp only[enc2,go_sem,reduceIte,Yzb]
     simp only[Ya]
     exact⟨⟨by decide,by decide,rfl⟩,⟨by decide,by decide,rfl⟩,rfl⟩
   rintro⟨i,z⟩ ⟨hi,hz⟩
   replace hi:i<=a.length:=hi
   replace hz:z=true->(jnL x (a.take i) []).length=0:=hz
   obtain⟨o,ho⟩:∃o,o=jnL x (a.take i) []:=⟨_,rfl⟩
   have hol:o.length<=2000:=by
     have h1:=Ybh x (a.take i) []
     rw[Yzr]at h1
     skip
     rw[ho];try simp only[Yzw]at h1
     omega
   rw[<-ho]at hz
   dsimp only[YcS,YcT,v68,enc2,Yzh,go_sem,reduceIte,Yzb]
   simp only[Yd,Yzb,Yzd,reduceCtorEq,Yzc]
   rw[<-ho]
   refine⟨fun hlt=>⟨⟨by omega,by omega⟩,?_⟩,fun hge=>?_⟩
   . have hil:i<a.length:=by omega
     obtain⟨⟨n,v⟩,hnv⟩:∃t,t=a.getD i default:=⟨_,rfl⟩
     obtain⟨num,hnum⟩:∃t,t=IntKind.i64.wrap (x*v):=⟨_,rfl⟩
     have hsu:jnL x (a.take (i+1)) []=addJ n num o:=by rw[Ye5 x hil,<-ho,<-hnv,hnum]
     rw[<-hnv]
     simp only
     rw[<-hnum]
     refine Loop.keep [0,0,0,3,0] Nat (fun r=>[(8,.int .i64 r)]) (fun _=>[]) [] (fun r=>r<=o.length/\∀j,j<r->(o.getD j default).1≠n) (fun r=>o.length-r) ?_ ?_
     . refine⟨0,⟨Nat.zero_le _,fun j hj=>absurd hj (Nat.not_lt_zero _)⟩,?_⟩
       dsimp only[go_sem,reduceIte,Yzb]
       simp only[Ya]
       exact⟨⟨by decide,by decide,rfl⟩,by decide,by decide⟩
     rintro r ⟨hr,hno⟩
     replace hr:r<=o.length:=hr
     replace hno:∀j,j<r->(o.getD j default).1≠n:=hno
     dsimp only[enc2,Yzh,go_sem,reduceIte,Yzb]
     simp only[Yd,Yzb,Yzd,reduceCtorEq,Yzc]
     refine⟨fun hlt2=>?_,fun hge2=>?_⟩
     . have hrr:0<=(r:Int)/\(r:Int)<(o.length:Int):=by omega
       have hrn:r<o.length:=by omega
       refine⟨hrr,hrn,fun heq=>⟨hrr,hrn,hrr,hrn,(i+1,z),⟨?_,fun hh=>?_⟩,?_,?_⟩,fun hne=>⟨r+1,⟨hrn,fun j hj=>?_⟩,by omega,?_⟩⟩
       . show i+1<=a.length;omega
       . have:=hz hh;omega
       . show a.length-(i+1)<a.length-i;omega
       . obtain⟨h1,h2⟩:=Yfh (num:=num) hrn hno heq
         simp only
         rw[hsu,h1,YaQ hil (by omega)]
         simp only[Ya]
         refine⟨by decide,by decide,fun q hq=>?_⟩
         rw[h2 q]
         by_cases hc:q=r
         . rw[if_pos hc,if_pos hc];exact Yf _ ⟨trivial,trivial,trivial⟩
         . rw[if_neg hc,if_neg hc];exact Yf _ ⟨trivial,trivial,trivial⟩
       . rcases Yzx j r with h1|h1
         . exact hno j h1
         . obtain rfl:j=r:=by omega
           exact hne
       . rw[YaQ hrn (by omega)]
         simp only[Ya]
         exact⟨by decide,by decide,by decide⟩
     obtain rfl:r=o.length:=by omega
     have hsu2:addJ n num o=o++[(n,num)]:=Yfi hno
     refine⟨by decide,⟨by unfold YR;omega,fun q hq=>one2 hq⟩,(i+1,false),⟨?_,fun hh=>?_⟩,?_,?_⟩
     . show i+1<=a.length;omega
     . exact absurd (show false=true from hh) (by decide)
     . show a.length-(i+1)<a.length-i;omega
     . simp only
       rw[hsu,hsu2,YaQ hil (by omega)]
       simp only[Yzv,Yzy,Yzw]
       simp only[Ya]
       refine⟨by decide,by decide,by simp,fun q hq=>?_⟩
       by_cases hc:q<o.length
       . rw[if_pos hc,YF hc];exact Yf _ ⟨trivial,trivial,trivial⟩
       . rw[if_neg hc,YG (by omega),show q-o.length=0 by omega];exact Yf _ ⟨trivial,trivial,trivial⟩
   obtain rfl:i=a.length:=by omega
   rw[List.take_length]at ho
   clear hge
   obtain⟨O1,hO1⟩:∃O1,O1=o:=⟨_,rfl⟩
   obtain⟨z1,hz1⟩:∃z1,z1=z:=⟨_,rfl⟩
   rw[<-hO1,<-hz1]at hz⊢
   have hO2:O1=jnL x a []:=by rw[hO1,ho]
   have hOl:O1.length<=1000:=by
     have h1:=Ybh x a []
     rw[<-hO2]at h1
     simp only[Yzw]at h1;omega
   refine Loop.keep [3,5,0,20,0] (Nat×Bool) (fun s=>[(33,.int .i64 s.1)]) (fun s=>[(0,.box [.own 1 0 (jnL y (b.take s.1) O1).length 2]),(1,.own s.2 2 (jnL y (b.take s.1) O1).length (fun k=>enc2 ((jnL y (b.take s.1) O1).getD k default)))]) [] (fun s=>s.1<=b.length/\(s.2=true->(jnL y (b.take s.1) O1).length=0)) (fun s=>b.length-s.1) ?_ ?_
   . refine⟨(0,z1),⟨Nat.zero_le _,hz⟩,?_⟩
     dsimp only[enc2,go_sem,reduceIte,Yzb]
     simp only[Ya]
     exact⟨⟨by decide,by decide,rfl⟩,⟨rfl,by decide⟩,rfl,fun q _=>⟨rfl,rfl⟩⟩
   rintro⟨i,z⟩ ⟨hi,hz⟩
   replace hi:i<=b.length:=hi
   replace hz:z=true->(jnL y (b.take i) O1).length=0:=hz
   obtain⟨o,ho⟩:∃o,o=jnL y (b.take i) O1:=⟨_,rfl⟩
   have hol:o.length<=2000:=by
     have h1:=Ybh y (b.take i) O1
     rw[Yzr]at h1
     skip
     rw[ho];try simp only[Yzw]at h1
     omega
   rw[<-ho]at hz
   dsimp only[YcS,YcT,v68,enc2,Yzh,go_sem,reduceIte,Yzb]
   simp only[Yd,Yzb,Yzd,reduceCtorEq,Yzc]
   rw[<-ho]
   refine⟨fun hlt=>⟨⟨by omega,by omega⟩,?_⟩,fun hge=>?_⟩
   . have hil:i<b.length:=by omega
     obtain⟨⟨n,v⟩,hnv⟩:∃t,t=b.getD i default:=⟨_,rfl⟩
     obtain⟨num,hnum⟩:∃t,t=IntKind.i64.wrap (y*v):=⟨_,rfl⟩
     have hsu:jnL y (b.take (i+1)) O1=addJ n num o:=by rw[Ye5 y hil,<-ho,<-hnv,hnum]
     rw[<-hnv]
     simp only
     rw[<-hnum]
     refine Loop.keep [0,0,0,3,0] Nat (fun r=>[(8,.int .i64 r)]) (fun _=>[]) [] (fun r=>r<=o.length/\∀j,j<r->(o.getD j default).1≠n) (fun r=>o.length-r) ?_ ?_
     . refine⟨0,⟨Nat.zero_le _,fun j hj=>absurd hj (Nat.not_lt_zero _)⟩,?_⟩
       dsimp only[go_sem,reduceIte,Yzb]
       simp only[Ya]
       exact⟨⟨by decide,by decide,rfl⟩,by decide,by decide⟩
     rintro r ⟨hr,hno⟩
     replace hr:r<=o.length:=hr
     replace hno:∀j,j<r->(o.getD j default).1≠n:=hno
     dsimp only[enc2,Yzh,go_sem,reduceIte,Yzb]
     simp only[Yd,Yzb,Yzd,reduceCtorEq,Yzc]
     refine⟨fun hlt2=>?_,fun hge2=>?_⟩
     . have hrr:0<=(r:Int)/\(r:Int)<(o.length:Int):=by omega
       have hrn:r<o.length:=by omega
       refine⟨hrr,hrn,fun heq=>⟨hrr,hrn,hrr,hrn,(i+1,z),⟨?_,fun hh=>?_⟩,?_,?_⟩,fun hne=>⟨r+1,⟨hrn,fun j hj=>?_⟩,by omega,?_⟩⟩
       . show i+1<=b.length;omega
       . have:=hz hh;omega
       . show b.length-(i+1)<b.length-i;omega
       . obtain⟨h1,h2⟩:=Yfh (num:=num) hrn hno heq
         simp only
         rw[hsu,h1,YaQ hil (by omega)]
         simp only[Ya]
         refine⟨by decide,by decide,fun q hq=>?_⟩
         rw[h2 q]
         by_cases hc:q=r
         . rw[if_pos hc,if_pos hc];exact Yf _ ⟨trivial,trivial,trivial⟩
         . rw[if_neg hc,if_neg hc];exact Yf _ ⟨trivial,trivial,trivial⟩
       . rcases Yzx j r with h1|h1
         . exact hno j h1
         . obtain rfl:j=r:=by omega
           exact hne
       . rw[YaQ hrn (by omega)]
         simp only[Ya]
         exact⟨by decide,by decide,by decide⟩
     obtain rfl:r=o.length:=by omega
     have hsu2:addJ n num o=o++[(n,num)]:=Yfi hno
     refine⟨by decide,⟨by unfold YR;omega,fun q hq=>one2 hq⟩,(i+1,false),⟨?_,fun hh=>?_⟩,?_,?_⟩
     . show i+1<=b.length;omega
     . exact absurd (show false=true from hh) (by decide)
     . show b.length-(i+1)<b.length-i;omega
     . simp only
       rw[hsu,hsu2,YaQ hil (by omega)]
       simp only[Yzv,Yzy,Yzw]
       simp only[Ya]
       refine⟨by decide,by decide,by simp,fun q hq=>?_⟩
       by_cases hc:q<o.length
       . rw[if_pos hc,YF hc];exact Yf _ ⟨trivial,trivial,trivial⟩
       . rw[if_neg hc,YG (by omega),show q-o.length=0 by omega];exact Yf _ ⟨trivial,trivial,trivial⟩
   obtain rfl:i=b.length:=by omega
   rw[List.take_length]at ho
   have hf:pjnF a x b y=o:=by rw[ho,hO2];rfl
   have h:=h z
   rw[hf]at h
   refine YD h ?_ (fun _=>by simp [Yl,Ym,enc2])
   dsimp only[expo,go_sem,reduceIte,Yzb]
   simp only[Ya]
   exact fun q hq=>Yb _
 . rename_i tt z n sz get x y
   obtain⟨a,⟨⟨rfl,rfl,hg⟩,hn⟩,h⟩:=h
   obtain⟨b,hb⟩:∃b:List (Int×Int),b=[]:=⟨_,rfl⟩
   have hn':b.length<=1000:=by rw[hb];decide
   refine⟨[.vs tt z a.length 2 (fun k=>enc2 (a.getD k default)),.int .i64 x,.vs true true b.length 2 (fun k=>enc2 (b.getD k default)),.int .i64 y],⟨⟨id,rfl,rfl,rfl,hg⟩,⟨rfl,rfl⟩,by rw[hb];exact⟨rfl,rfl⟩,⟨rfl,rfl⟩,trivial⟩,?_⟩
   have h:∀z,k (.vs true z (pjnF a x b y).length 2 (fun k=>enc2 ((pjnF a x b y).getD k default))) []:=by rw[hb];exact h
   dsimp only[v42,YcS,YcT,v68,enc2,go_sem,reduceIte,Yzb]
   simp only[Yd,Yzb,Yzd,reduceCtorEq,Yzc]
   refine Loop.keep [0,0,0,0,5,0,5,0] (Nat×Bool) (fun s=>[(18,.int .i64 s.1)]) (fun s=>[(0,.box [.own 1 0 (jnL x (a.take s.1) []).length 2]),(1,.own s.2 2 (jnL x (a.take s.1) []).length (fun k=>enc2 ((jnL x (a.take s.1) []).getD k default)))]) [.gone] (fun s=>s.1<=a.length/\(s.2=true->(jnL x (a.take s.1) []).length=0)) (fun s=>a.length-s.1) ?_ ?_
   . refine⟨(0,true),⟨Nat.zero_le _,fun _=>rfl⟩,?_⟩
     dsimp only[enc2,go_sem,reduceIte,Yzb]
     simp only[Ya]
     exact⟨⟨by decide,by decide,rfl⟩,⟨by decide,by decide,rfl⟩,rfl⟩
   rintro⟨i,z⟩ ⟨hi,hz⟩
   replace hi:i<=a.length:=hi
   replace hz:z=true->(jnL x (a.take i) []).length=0:=hz
   obtain⟨o,ho⟩:∃o,o=jnL x (a.take i) []:=⟨_,rfl⟩
   have hol:o.length<=2000:=by
     have h1:=Ybh x (a.take i) []
     rw[Yzr]at h1
     skip
     rw[ho];try simp only[Yzw]at h1
     omega
   rw[<-ho]at hz
   dsimp only[YcS,YcT,v68,enc2,Yzh,go_sem,reduceIte,Yzb]
   simp only[Yd,Yzb,Yzd,reduceCtorEq,Yzc]
   rw[<-ho]
   refine⟨fun hlt=>⟨⟨by omega,by omega⟩,?_⟩,fun hge=>?_⟩
   . have hil:i<a.length:=by omega
     obtain⟨⟨n,v⟩,hnv⟩:∃t,t=a.getD i default:=⟨_,rfl⟩
     obtain⟨num,hnum⟩:∃t,t=IntKind.i64.wrap (x*v):=⟨_,rfl⟩
     have hsu:jnL x (a.take (i+1)) []=addJ n num o:=by rw[Ye5 x hil,<-ho,<-hnv,hnum]
     rw[<-hnv]
     simp only
     rw[<-hnum]
     refine Loop.keep [0,0,0,3,0] Nat (fun r=>[(8,.int .i64 r)]) (fun _=>[]) [] (fun r=>r<=o.length/\∀j,j<r->(o.getD j default).1≠n) (fun r=>o.length-r) ?_ ?_
     . refine⟨0,⟨Nat.zero_le _,fun j hj=>absurd hj (Nat.not_lt_zero _)⟩,?_⟩
       dsimp only[go_sem,reduceIte,Yzb]
       simp only[Ya]
       exact⟨⟨by decide,by decide,rfl⟩,by decide,by decide⟩
     rintro r ⟨hr,hno⟩
     replace hr:r<=o.length:=hr
     replace hno:∀j,j<r->(o.getD j default).1≠n:=hno
     dsimp only[enc2,Yzh,go_sem,reduceIte,Yzb]
     simp only[Yd,Yzb,Yzd,reduceCtorEq,Yzc]
     refine⟨fun hlt2=>?_,fun hge2=>?_⟩
     . have hrr:0<=(r:Int)/\(r:Int)<(o.length:Int):=by omega
       have hrn:r<o.length:=by omega
       refine⟨hrr,hrn,fun heq=>⟨hrr,hrn,hrr,hrn,(i+1,z),⟨?_,fun hh=>?_⟩,?_,?_⟩,fun hne=>⟨r+1,⟨hrn,fun j hj=>?_⟩,by omega,?_⟩⟩
       . show i+1<=a.length;omega
       . have:=hz hh;omega
       . show a.length-(i+1)<a.length-i;omega
       . obtain⟨h1,h2⟩:=Yfh (num:=num) hrn hno heq
         simp only
         rw[hsu,h1,YaQ hil (by omega)]
         simp only[Ya]
         refine⟨by decide,by decide,fun q hq=>?_⟩
         rw[h2 q]
         by_cases hc:q=r
         . rw[if_pos hc,if_pos hc];exact Yf _ ⟨trivial,trivial,trivial⟩
         . rw[if_neg hc,if_neg hc];exact Yf _ ⟨trivial,trivial,trivial⟩
       . rcases Yzx j r with h1|h1
         . exact hno j h1
         . obtain rfl:j=r:=by omega
           exact hne
       . rw[YaQ hrn (by omega)]
         simp only[Ya]
         exact⟨by decide,by decide,by decide⟩
     obtain rfl:r=o.length:=by omega
     have hsu2:addJ n num o=o++[(n,num)]:=Yfi hno
     refine⟨by decide,⟨by unfold YR;omega,fun q hq=>one2 hq⟩,(i+1,false),⟨?_,fun hh=>?_⟩,?_,?_⟩
     . show i+1<=a.length;omega
     . exact absurd (show false=true from hh) (by decide)
     . show a.length-(i+1)<a.length-i;omega
     . simp only
       rw[hsu,hsu2,YaQ hil (by omega)]
       simp only[Yzv,Yzy,Yzw]
       simp only[Ya]
       refine⟨by decide,by decide,by simp,fun q hq=>?_⟩
       by_cases hc:q<o.length
       . rw[if_pos hc,YF hc];exact Yf _ ⟨trivial,trivial,trivial⟩
       . rw[if_neg hc,YG (by omega),show q-o.length=0 by omega];exact Yf _ ⟨trivial,trivial,trivial⟩
   obtain rfl:i=a.length:=by omega
   rw[List.take_length]at ho
   clear hge
   obtain⟨O1,hO1⟩:∃O1,O1=o:=⟨_,rfl⟩
   obtain⟨z1,hz1⟩:∃z1,z1=z:=⟨_,rfl⟩
   rw[<-hO1,<-hz1]at hz⊢
   have hO2:O1=jnL x a []:=by rw[hO1,ho]
   have hOl:O1.length<=1000:=by
     have h1:=Ybh x a []
     rw[<-hO2]at h1
     simp only[Yzw]at h1;omega
   refine Loop.keep [3,5,0,20,0] (Nat×Bool) (fun s=>[(33,.int .i64 s.1)]) (fun s=>[(0,.box [.own 1 0 (jnL y (b.take s.1) O1).length 2]),(1,.own s.2 2 (jnL y (b.take s.1) O1).length (fun k=>enc2 ((jnL y (b.take s.1) O1).getD k default)))]) [] (fun s=>s.1<=b.length/\(s.2=true->(jnL y (b.take s.1) O1).length=0)) (fun s=>b.length-s.1) ?_ ?_
   . refine⟨(0,z1),⟨Nat.zero_le _,hz⟩,?_⟩
     dsimp only[enc2,go_sem,reduceIte,Yzb]
     simp only[Ya]
     exact⟨⟨by decide,by decide,rfl⟩,⟨rfl,by decide⟩,rfl,fun q _=>⟨rfl,rfl⟩⟩
   rintro⟨i,z⟩ ⟨hi,hz⟩
   replace hi:i<=b.length:=hi
   replace hz:z=true->(jnL y (b.take i) O1).length=0:=hz
   obtain⟨o,ho⟩:∃o,o=jnL y (b.take i) O1:=⟨_,rfl⟩
   have hol:o.length<=2000:=by
     have h1:=Ybh y (b.take i) O1
     rw[Yzr]at h1
     skip
     rw[ho];try simp only[Yzw]at h1
     omega
   rw[<-ho]at hz
   dsimp only[YcS,YcT,v68,enc2,Yzh,go_sem,reduceIte,Yzb]
   simp only[Yd,Yzb,Yzd,reduceCtorEq,Yzc]
   rw[<-ho]
   refine⟨fun hlt=>⟨⟨by omega,by omega⟩,?_⟩,fun hge=>?_⟩
   . have hil:i<b.length:=by omega
     obtain⟨⟨n,v⟩,hnv⟩:∃t,t=b.getD i default:=⟨_,rfl⟩
     obtain⟨num,hnum⟩:∃t,t=IntKind.i64.wrap (y*v):=⟨_,rfl⟩
     have hsu:jnL y (b.take (i+1)) O1=addJ n num o:=by rw[Ye5 y hil,<-ho,<-hnv,hnum]
     rw[<-hnv]
     simp only
     rw[<-hnum]
     refine Loop.keep [0,0,0,3,0] Nat (fun r=>[(8,.int .i64 r)]) (fun _=>[]) [] (fun r=>r<=o.length/\∀j,j<r->(o.getD j default).1≠n) (fun r=>o.length-r) ?_ ?_
     . refine⟨0,⟨Nat.zero_le _,fun j hj=>absurd hj (Nat.not_lt_zero _)⟩,?_⟩
       dsimp only[go_sem,reduceIte,Yzb]
       simp only[Ya]
       exact⟨⟨by decide,by decide,rfl⟩,by decide,by decide⟩
     rintro r ⟨hr,hno⟩
     replace hr:r<=o.length:=hr
     replace hno:∀j,j<r->(o.getD j default).1≠n:=hno
     dsimp only[enc2,Yzh,go_sem,reduceIte,Yzb]
     simp only[Yd,Yzb,Yzd,reduceCtorEq,Yzc]
     refine⟨fun hlt2=>?_,fun hge2=>?_⟩
     . have hrr:0<=(r:Int)/\(r:Int)<(o.length:Int):=by omega
       have hrn:r<o.length:=by omega
       refine⟨hrr,hrn,fun heq=>⟨hrr,hrn,hrr,hrn,(i+1,z),⟨?_,fun hh=>?_⟩,?_,?_⟩,fun hne=>⟨r+1,⟨hrn,fun j hj=>?_⟩,by omega,?_⟩⟩
       . show i+1<=b.length;omega
       . have:=hz hh;omega
       . show b.length-(i+1)<b.length-i;omega
       . obtain⟨h1,h2⟩:=Yfh (num:=num) hrn hno heq
         simp only
         rw[hsu,h1,YaQ hil (by omega)]
         simp only[Ya]
         refine⟨by decide,by decide,fun q hq=>?_⟩
         rw[h2 q]
         by_cases hc:q=r
         . rw[if_pos hc,if_pos hc];exact Yf _ ⟨trivial,trivial,trivial⟩
         . rw[if_neg hc,if_neg hc];exact Yf _ ⟨trivial,trivial,trivial⟩
       . rcases Yzx j r with h1|h1
         . exact hno j h1
         . obtain rfl:j=r:=by omega
           exact hne
       . rw[YaQ hrn (by omega)]
         simp only[Ya]
         exact⟨by decide,by decide,by decide⟩
     obtain rfl:r=o.length:=by omega
     have hsu2:addJ n num o=o++[(n,num)]:=Yfi hno
     refine⟨by decide,⟨by unfold YR;omega,fun q hq=>one2 hq⟩,(i+1,false),⟨?_,fun hh=>?_⟩,?_,?_⟩
     . show i+1<=b.length;omega
     . exact absurd (show false=true from hh) (by decide)
     . show b.length-(i+1)<b.length-i;omega
     . simp only
       rw[hsu,hsu2,YaQ hil (by omega)]
       simp only[Yzv,Yzy,Yzw]
       simp only[Ya]
       refine⟨by decide,by decide,by simp,fun q hq=>?_⟩
       by_cases hc:q<o.length
       . rw[if_pos hc,YF hc];exact Yf _ ⟨trivial,trivial,trivial⟩
       . rw[if_neg hc,YG (by omega),show q-o.length=0 by omega];exact Yf _ ⟨trivial,trivial,trivial⟩
   obtain rfl:i=b.length:=by omega
   rw[List.take_length]at ho
   have hf:pjnF a x b y=o:=by rw[ho,hO2];rfl
   have h:=h z
   rw[hf]at h
   refine YD h ?_ (fun _=>by simp [Yl,Ym,enc2])
   dsimp only[expo,go_sem,reduceIte,Yzb]
   simp only[Ya]
   exact fun q hq=>Yb _
 . exact h.1.elim
def v39:VF:=⟨43,[.tmp 6,.tmp 7],(ZR [u1 6 .mov [.cn .nil],Zi 7 0] (ZR [Zm 11 0,Zm 12 2,Zd 13 36 11 12,Zm 10 13,Ze 14 0 10,Ze 15 1 10,Zm 6 14,Zm 7 15] (.seq (.drawT [] (.ops [Zu 16 6] (.ops [Zu 18 1] (.ops [Zu 19 7] (.ops [w1 20 (.build [(.int .i64 0),(.int .i64 0)] [(0,1),(1,1)]) [.tm 18,.tm 19]] (.ops [Zu 21 0] (.ops [w1 22 .nilCheck [.tm 21]] (.ops [Zy 23 0 22] (.ops [Zy 24 0 23] (.ops [Zv 25 1 24] (.ops [Zu 26 7] (.ops [w1 27 .neg [.tm 26]] (.ops [w1 28 (.build [(.int .i64 0),(.int .i64 0)] [(0,1),(1,1)]) [.tm 25,.tm 27]] (.br (.ops [w1 17 (.call 37) [.tm 16]] (.ops [w1 29 (.buildSlice 2 2 [(.int .i64 0),(.int .i64 0)] [(0,2),(2,2)]) [.tm 20,.tm 28]] (.ops [w1 30 (.append 2 16 [(.int .i64 0),(.int .i64 0)]) [.tm 17,.tm 29]] (.ops [Zu 6 30] .leaf)))) (.ops [w1 29 (.buildSlice 2 2 [(.int .i64 0),(.int .i64 0)] [(0,2),(2,2)]) [.tm 20,.tm 28]] (.ops [w1 17 (.call 37) [.tm 16]] (.ops [w1 30 (.append 2 16 [(.int .i64 0),(.int .i64 0)]) [.tm 17,.tm 29]] (.ops [Zu 6 30] .leaf)))))))))))))))))) (.seq (ZR [Zm 32 6,u1 33 (.call 42) [.tm 32,.cn (.int .i64 1),.cn .nil,.cn (.int .i64 0)],Zc 34 41 33,Zm 31 34,Ze 35 0 31,Ze 36 1 31,Zm 8 35,Zm 9 36] (ZR [Zm 37 8,Zq 38 .lss 37 0] (ZC 38 (.region [Zm 39 6,Zc 40 37 39,Zm 6 40]) .skip))) (ZR [Zm 41 6,Zm 42 7,Zm 6 41,Zm 7 42] .ret)))))⟩
theorem Yyw:Yh Yzg Tryz.f39=some v39:=by kernel_rfl
def Y2(L:Nat->Rt)(a t0 t f note:Int):List (Int×Int):=(Yi L t0 t note).1.map ngT++[(f,(Yi L t0 t note).2),(a,IntKind.i64.wrap (0-(Yi L t0 t note).2))]
def farL(L:Nat->Rt)(a t0 t f note:Int):List (Int×Int):=if(sgnF (pjnF (Y2 L a t0 t f note) 1 [] 0)).1<0 then(Y2 L a t0 t f note).map ngT else Y2 L a t0 t f note
theorem YhU(L:Nat->Rt)(a t0 t f note:Int):(farL L a t0 t f note).length<=11/\(Y2 L a t0 t f note).length<=11:=by
 have h1:=YcQ L t0 t note
 have h2:(Y2 L a t0 t f note).length<=11:=by unfold Y2;simp only[Yzv,List.length_map,Yzy,Yzw];omega
 refine⟨?_,h2⟩
 unfold farL;split
 . rw[List.length_map];exact h2
 . exact h2
def farC:Ctr:={ alias:=false,of:=fun l=>match l with
 | [.xp _ [.int .i64 a,.int .i64 t0,.int .i64 t,.vs _ _ n sz get],.int .i64 f,.int .i64 note]=> .ex (Nat->Rt) fun L=> .pre ((n=12/\sz=7/\∀k,k<12->leXL (get k) (encR (L k)))/\(0<=note/\note<=139)/\Yax t0=true/\Yax t=true)
     (.fin (.tup [.vs true false (farL L a t0 t f note).length 2 (fun k=>enc2 ((farL L a t0 t f note).getD k default)),.int .i64 (Yi L t0 t note).2]) [])
 |_=>noC}
theorem two2{a b c d:Int}{k:Nat}(hk:k<2):lenL (Yu 2 (Yq (k*2) [SV.int .i64 a,SV.int .i64 b,SV.int .i64 c,SV.int .i64 d]))=2/\ones (Yu 2 (Yq (k*2) [SV.int .i64 a,SV.int .i64 b,SV.int .i64 c,SV.int .i64 d])):=by
 rcases(show k=0\/k=1 by omega)with rfl|rfl <;> exact⟨rfl,trivial,trivial,trivial⟩
def TY0:Env:={ ct:=fun n=>match n with|36=>some termC|37=>some invC|42=>some pjnC|41=>some sgnC|_=>none,fn:=fun _=>none,meth:=fun _ _=>none}
theorem Yqf:TY0.ct 36=some termC:=rfl
theorem Yqg:TY0.ct 37=some invC:=rfl
theorem Yqi:TY0.ct 42=some pjnC:=rfl
theorem Yqh:TY0.ct 41=some sgnC:=rfl
theorem YvV:Yp Yzg TY0:=by
 refine⟨fun f c h=>?_,fun f vf h=>?_,(fun _ _ _ h=>by cases h),by kernel_rfl,(fun _ h=>by cases h)⟩
 . simp only[TY0]at h
   split at h
   . cases h;exact⟨Yme,Tryz.f36,Tryz.func36,by kernel_rfl,by kernel_rfl⟩
   . cases h;exact⟨YwD,Tryz.f37,Tryz.func37,by kernel_rfl,by kernel_rfl⟩
   . cases h;exact⟨Yxh,Tryz.f42,Tryz.func42,by kernel_rfl,by kernel_rfl⟩
   . cases h;exact⟨Yx8,Tryz.f41,Tryz.func41,by kernel_rfl,by kernel_rfl⟩
   . cases h
 . cases h
theorem far_c:farC.ok Yzg 39:=by
 refine Yc Tryz.func39 Yyw YvV 600 farC fun args k h=>?_
 simp only[farC]at h
 split at h
 . rename_i tt a t0 t tv zv n sz get f note
   obtain⟨L,⟨⟨rfl,rfl,hg⟩,hn,h0,h1⟩,h⟩:=h
   refine⟨[.xp tt [.int .i64 a,.int .i64 t0,.int .i64 t,.vs tv zv 12 7 (fun k=>encR (L k))],.int .i64 f,.int .i64 note],?_,?_⟩
   . simp only[Ye6,Yh6,YqZ,YlM,and_true,true_and]
     exact⟨id,⟨rfl,rfl⟩,⟨rfl,rfl⟩,⟨rfl,rfl⟩,⟨id,rfl,rfl,rfl,hg⟩,trivial⟩
   have h:k (.tup [.vs true false (farL L a t0 t f note).length 2 (fun k=>enc2 ((farL L a t0 t f note).getD k default)),.int .i64 (Yi L t0 t note).2]) []:=h
   have hl:=YcQ L t0 t note
   dsimp only[v39,Yqf,termC,Yqg,invC,Yqi,pjnC,Yqh,sgnC,go_sem,reduceIte,Yzb]
   simp only[Yd,Yzb,Yzd,reduceCtorEq,Yzc]
   have hL0:(Y2 L a t0 t f note).length=(Yi L t0 t note).1.length+2:=by simp [Y2]
   have hpl:(pjnF (Y2 L a t0 t f note) 1 [] 0).length<=11:=by
     have e1:=Ybh 0 [] (jnL 1 (Y2 L a t0 t f note) [])
     have e2:=Ybh 1 (Y2 L a t0 t f note) []
     have e3:(pjnF (Y2 L a t0 t f note) 1 [] 0).length=(jnL 0 [] (jnL 1 (Y2 L a t0 t f note) [])).length:=rfl
     simp only[Yzw]at e1 e2
     omega
   refine⟨L,⟨fun q _=>Yb _,hn,h0,h1⟩,by decide,by decide,?_,?_⟩
   . refine⟨(Yi L t0 t note).1,⟨⟨rfl,rfl,fun q _=>Yb _⟩,by omega⟩,by decide,⟨by unfold YR;omega,fun q hq=>two2 hq⟩,Y2 L a t0 t f note,⟨⟨rfl,hL0.symm,fun q hq=>?_⟩,by omega⟩,pjnF (Y2 L a t0 t f note) 1 [] 0,⟨⟨rfl,rfl,fun q _=>Yb _⟩,by omega⟩,?_⟩
     . have em:((Yi L t0 t note).1.map ngT).length=(Yi L t0 t note).1.length:=by simp
       by_cases hc:q<(Yi L t0 t note).1.length
       . simp only[if_pos hc]
         rw[Y2,YF (by omega)]
         exact Yb _
       . simp only[if_neg hc]
         rw[Y2,YG (by omega),em]
         rcases(show q-(Yi L t0 t note).1.length=0\/q-(Yi L t0 t note).1.length=1 by omega)with e|e
         . rw[e];exact Yb _
         . rw[e];exact Yb _
     refine⟨by decide,by decide,fun hc=>⟨Y2 L a t0 t f note,⟨⟨rfl,hL0.symm,fun q hq=>?_⟩,by omega⟩,?_⟩,fun hc=>?_⟩
     . have em:((Yi L t0 t note).1.map ngT).length=(Yi L t0 t note).1.length:=by simp
       by_cases hc:q<(Yi L t0 t note).1.length
       . simp only[if_pos hc]
         rw[Y2,YF (by omega)]
         exact Yb _
       . simp only[if_neg hc]
         rw[Y2,YG (by omega),em]
         rcases(show q-(Yi L t0 t note).1.length=0\/q-(Yi L t0 t note).1.length=1 by omega)with e|e
         . rw[e];exact Yb _
         . rw[e];exact Yb _
     . have e:farL L a t0 t f note=(Y2 L a t0 t f note).map ngT:=if_pos hc
       rw[e,List.length_map]at h
       refine YD h ?_ (fun _=>by simp [Yl,Ym,enc2])
       dsimp only[expo,go_sem,reduceIte,Yzb]
       simp only[Ya]
       exact fun q _=>Yb _
     . have e:farL L a t0 t f note=Y2 L a t0 t f note:=if_neg hc
       rw[e]at h
       refine YD h ?_ (fun _=>by simp [Yl,Ym,enc2])
       dsimp only[expo,go_sem,reduceIte,Yzb]
       simp only[Ya]
       refine⟨by simp,hL0.symm,fun q hq=>?_⟩
       . have em:((Yi L t0 t note).1.map ngT).length=(Yi L t0 t note).1.length:=by simp
         by_cases hc:q<(Yi L t0 t note).1.length
         . simp only[if_pos hc]
           rw[Y2,YF (by omega)]
           exact Yb _
         . simp only[if_neg hc]
           rw[Y2,YG (by omega),em]
           rcases(show q-(Yi L t0 t note).1.length=0\/q-(Yi L t0 t note).1.length=1 by omega)with e|e
           . rw[e];exact Yb _
           . rw[e];exact Yb _
   . refine⟨by decide,(Yi L t0 t note).1,⟨⟨rfl,rfl,fun q _=>Yb _⟩,by omega⟩,⟨by unfold YR;omega,fun q hq=>two2 hq⟩,Y2 L a t0 t f note,⟨⟨rfl,hL0.symm,fun q hq=>?_⟩,by omega⟩,pjnF (Y2 L a t0 t f note) 1 [] 0,⟨⟨rfl,rfl,fun q _=>Yb _⟩,by omega⟩,?_⟩
     . have em:((Yi L t0 t note).1.map ngT).length=(Yi L t0 t note).1.length:=by simp
       by_cases hc:q<(Yi L t0 t note).1.length
       . simp only[if_pos hc]
         rw[Y2,YF (by omega)]
         exact Yb _
       . simp only[if_neg hc]
         rw[Y2,YG (by omega),em]
         rcases(show q-(Yi L t0 t note).1.length=0\/q-(Yi L t0 t note).1.length=1 by omega)with e|e
         . rw[e];exact Yb _
         . rw[e];exact Yb _
     refine⟨by decide,by decide,fun hc=>⟨Y2 L a t0 t f note,⟨⟨rfl,hL0.symm,fun q hq=>?_⟩,by omega⟩,?_⟩,fun hc=>?_⟩
     . have em:((Yi L t0 t note).1.map ngT).length=(Yi L t0 t note).1.length:=by simp
       by_cases hc:q<(Yi L t0 t note).1.length
       . simp only[if_pos hc]
         rw[Y2,YF (by omega)]
         exact Yb _
       . simp only[if_neg hc]
         rw[Y2,YG (by omega),em]
         rcases(show q-(Yi L t0 t note).1.length=0\/q-(Yi L t0 t note).1.length=1 by omega)with e|e
         . rw[e];exact Yb _
         . rw[e];exact Yb _
     . have e:farL L a t0 t f note=(Y2 L a t0 t f note).map ngT:=if_pos hc
       rw[e,List.length_map]at h
       refine YD h ?_ (fun _=>by simp [Yl,Ym,enc2])
       dsimp only[expo,go_sem,reduceIte,Yzb]
       simp only[Ya]
       exact fun q _=>Yb _
     . have e:farL L a t0 t f note=Y2 L a t0 t f note:=if_neg hc
       rw[e]at h
       refine YD h ?_ (fun _=>by simp [Yl,Ym,enc2])
       dsimp only[expo,go_sem,reduceIte,Yzb]
       simp only[Ya]
       refine⟨by simp,hL0.symm,fun q hq=>?_⟩
       . have em:((Yi L t0 t note).1.map ngT).length=(Yi L t0 t note).1.length:=by simp
         by_cases hc:q<(Yi L t0 t note).1.length
         . simp only[if_pos hc]
           rw[Y2,YF (by omega)]
           exact Yb _
         . simp only[if_neg hc]
           rw[Y2,YG (by omega),em]
           rcases(show q-(Yi L t0 t note).1.length=0\/q-(Yi L t0 t note).1.length=1 by omega)with e|e
           . rw[e];exact Yb _
           . rw[e];exact Yb _
 . exact h.1.elim
def v13:VF:=⟨69,[.cell 6 false 1,.tmp 7,.tmp 8],(ZR [u1 3 .box [.tm 0],u1 4 .box [.tm 1],u1 5 .box [.tm 2],u1 6 (.alloc [(.int .i64 0)]) [],Zi 7 0,Zi 8 0] (ZR [Zt 16 3 3,Zt 17 27 4,Zd 18 38 16 17,Zm 15 18,Ze 19 0 15,Ze 20 1 15,u1 9 (.alloc [(.val (.pointer none))]) [],Zs 1 9 19,Zm 8 20] (.seq (ZR [Zm 21 8,Zq 22 .neq 21 0] (ZC 22 (ZR [Zm 23 8,u0 (.store 1) [.tm 6,.cn (.int .i64 0)],Zi 7 0,Zm 8 23] .ret) .skip)) (.seq (ZR [Zf 24 1 5,Zq 25 .lss 24 1,Zm 26 25,Zh 27 26 false 1 5,u2 28 26 false (.cmp .gtr) [.tm 27,.cn (.int .i64 1000000000)],u1 29 .or [.tm 26,.tm 28]] (ZC 29 (ZR [u0 (.store 1) [.tm 6,.cn (.int .i64 0)],Zi 7 0,Zi 8 2] .ret) .skip)) (ZR [Zf 31 1 9,Zf 32 1 5,u1 33 (.call 39) [.tm 31,.tm 32,.cn (.int .i64 0)],Zm 30 33,Ze 34 0 30,Ze 35 1 30,u1 10 (.alloc [.nil]) [],u1 11 (.alloc [(.int .i64 0)]) [],Zs 1 10 34,Zs 1 11 35] (ZR [u1 36 (.mkfn (.func 40) 0) [.tm 9,.tm 5,.tm 11,.tm 10,.tm 6],Zm 12 36] (.seq (ZR [Zi 13 1] (.block 0 (.loop (.seq (ZR [Zm 37 13,Zq 38 .leq 37 139] (ZC 38 .skip (.exit 0))) (.seq (.block 1 (.region [Zm 41 12,Zm 42 13,u1 43 .callv [.tm 41,.tm 42]])) (.region [Zm 39 13,Zp 40 39 1,Zm 13 40])))))) (ZR [Zf 45 1 9,Zf 46 1 6,Zd 47 36 45 46,Zm 44 47,Ze 48 0 44,Ze 49 1 44,Zm 14 48,Zs 1 11 49] (.seq (.draw [] [Zu 51 14,Zv 52 1 5,Zv 53 1 11,w1 54 (.build [(.int .i64 0),(.int .i64 0)] [(0,1),(1,1)]) [.tm 52,.tm 53],Zy 55 0 3,Zv 56 1 55,Zv 57 1 11,w1 58 .neg [.tm 57],w1 59 (.build [(.int .i64 0),(.int .i64 0)] [(0,1),(1,1)]) [.tm 56,.tm 58],Zv 62 1 11,w1 60 (.buildSlice 2 2 [(.int .i64 0),(.int .i64 0)] [(0,2),(2,2)]) [.tm 54,.tm 59],w1 61 (.call 42) [.tm 51,.cn (.int .i64 (-1)),.tm 60,.cn (.int .i64 1)],w1 63 (.call 43) [.tm 61,.tm 62,.cn (.int .i64 1200000)],Zu 50 63,ZE 64 0 50,ZE 65 1 50,ZE 66 2 50,Zu 7 64]) (ZR [Zf 67 1 6,Zm 68 7,Zs 1 6 67,Zm 7 68,Zi 8 0] .ret))))))))))⟩
theorem Yym:Yh Yzg Tryz.f13=some v13:=by kernel_rfl
def v40:VF:=⟨33,[],(ZR [Zf 12 1 1,Zf 13 1 2,Zm 14 0,u1 15 (.call 39) [.tm 12,.tm 13,.tm 14],Zm 11 15,Ze 16 0 11,Ze 17 1 11,Zm 7 16,Zm 8 17] (ZR [Zm 19 7,Zf 20 1 3,Zf 21 1 4,Zm 22 8,u1 23 .neg [.tm 22],u1 24 (.call 42) [.tm 19,.tm 20,.tm 21,.tm 23],Zc 25 41 24,Zm 18 25,Ze 26 0 18,Ze 27 1 18,Zm 9 26,Zm 10 27] (ZR [Zm 28 9,Zq 29 .lss 28 0] (ZC 29 (.region [Zm 30 0,Zm 31 7,Zm 32 8,Zs 1 5 30,Zs 1 4 31,Zs 1 3 32]) .skip))))⟩
theorem Yyx:Yh Yzg Tryz.f40=some v40:=by kernel_rfl
structure Nrs where
 note:Int
 l:List (Int×Int)
 d:Int
def nrL(L:Nat->Rt)(a t0 t f:Int):Nat->Nrs
 |0=>⟨0,farL L a t0 t f 0,(Yi L t0 t 0).2⟩
 |m+1=>if(sgnF (pjnF (farL L a t0 t f ((m+1:Nat):Int)) (nrL L a t0 t f m).d (nrL L a t0 t f m).l (IntKind.i64.wrap (0-(Yi L t0 t ((m+1:Nat):Int)).2)))).1<0 then⟨((m+1:Nat):Int),farL L a t0 t f ((m+1:Nat):Int),(Yi L t0 t ((m+1:Nat):Int)).2⟩else nrL L a t0 t f m
theorem Yr4(L:Nat->Rt)(a t0 t f:Int):∀m,(nrL L a t0 t f m).l.length<=11/\0<=(nrL L a t0 t f m).note/\(nrL L a t0 t f m).note<=m
 |0=>⟨(YhU L a t0 t f 0).1,Int.le_refl _,Int.le_refl _⟩
 |m+1=>by
   have ih:=Yr4 L a t0 t f m
   rw[nrL]
   split
   . exact⟨(YhU L a t0 t f _).1,by simp only;omega,by simp only;omega⟩
   . exact⟨ih.1,ih.2.1,by omega⟩
theorem YoX(a:List (Int×Int))(x:Int)(b:List (Int×Int))(y:Int):(pjnF a x b y).length<=a.length+b.length:=by
 have e1:=Ybh y b (jnL x a [])
 have e2:=Ybh x a []
 have e3:(pjnF a x b y).length=(jnL y b (jnL x a [])).length:=rfl
 simp only[Yzw]at e2
 omega
def offL(L:Nat->Rt)(a t0 t f n:Int):Int:=
 (flrF (pjnF (Yi L t0 t n).1 (-1) [(f,(Yi L t0 t n).2),(a,IntKind.i64.wrap (0-(Yi L t0 t n).2))] 1) (Yi L t0 t n).2 1200000).1
def Ydy(L:Nat->Rt)(a t0 t f:Int):Int×Int:=((nrL L a t0 t f 139).note,offL L a t0 t f (nrL L a t0 t f 139).note)
def nearC:Ctr:={ alias:=false,of:=fun l=>match l with
 | [.agg [.int .i64 a,.int .i64 t0,.int .i64 t],.agg cs,.int .i64 f]=> .ex Tm fun T=> .pre (cs=encT T/\T.nm.size<=9223372036854775807/\chkS a t0 t=0/\Yci T=0/\1<=f/\f<=1000000000) (.fin (.tup [.int .i64 (Ydy (Yz T) a t0 t f).1,.int .i64 (Ydy (Yz T) a t0 t f).2,.int .i64 0]) [])
 |_=>noC}
def TZ0:Env:={ ct:=fun n=>match n with|36=>some termC|39=>some farC|42=>some pjnC|41=>some sgnC|43=>some flrC|65=>some chkSC|47=>some NotC|_=>none,fn:=fun n=>match n with|38=>some v38|40=>some v40|_=>none,meth:=fun _ _=>none}
theorem Yhk:TZ0.ct 36=some termC:=rfl
theorem Yhm:TZ0.ct 39=some farC:=rfl
theorem Yhp:TZ0.ct 42=some pjnC:=rfl
theorem Yho:TZ0.ct 41=some sgnC:=rfl
theorem Yhq:TZ0.ct 43=some flrC:=rfl
theorem Yhs:TZ0.ct 65=some chkSC:=rfl
theorem Yhr:TZ0.ct 47=some NotC:=rfl
theorem Yhl:TZ0.ct 38=none:=rfl
theorem Yht:TZ0.fn 38=some v38:=rfl
theorem Yhn:TZ0.ct 40=none:=rfl
theorem Yhu:TZ0.fn 40=some v40:=rfl
theorem YvW:Yp Yzg TZ0:=by
 refine⟨fun f c h=>?_,fun f vf h=>?_,(fun _ _ _ h=>by cases h),by kernel_rfl,(fun _ h=>by cases h)⟩
 . simp only[TZ0]at h
   split at h
   . cases h;exact⟨Yme,Tryz.f36,Tryz.func36,by kernel_rfl,by kernel_rfl⟩
   . cases h;exact⟨far_c,Tryz.f39,Tryz.func39,by kernel_rfl,by kernel_rfl⟩
   . cases h;exact⟨Yxh,Tryz.f42,Tryz.func42,by kernel_rfl,by kernel_rfl⟩
   . cases h;exact⟨Yx8,Tryz.f41,Tryz.func41,by kernel_rfl,by kernel_rfl⟩
   . cases h;exact⟨Ys3,Tryz.f43,Tryz.func43,by kernel_rfl,by kernel_rfl⟩
   . cases h;exact⟨Yi1,Tryz.f65,Tryz.func65,by kernel_rfl,by kernel_rfl⟩
   . cases h;exact⟨YpG,Tryz.f47,Tryz.func47,by kernel_rfl,by kernel_rfl⟩
   . cases h
 . simp only[TZ0]at h
   split at h
   . cases h;exact⟨Tryz.f38,Tryz.func38,Ymf,Tryz.f38,Tryz.func38,by kernel_rfl,by kernel_rfl⟩
   . cases h;exact⟨Tryz.f40,Tryz.func40,Yyx,Tryz.f40,Tryz.func40,by kernel_rfl,by kernel_rfl⟩
   . cases h
theorem Yw2:nearC.ok Yzg 13:=by
 refine Yc Tryz.func13 Yym YvW 900 nearC fun args k h=>?_
 simp only[nearC]at h
 split at h
 . rename_i a t0 t cs f
   obtain⟨T,⟨rfl,hnm,hS,hT,hf0,hf1⟩,h⟩:=h
   refine⟨[.agg [.int .i64 a,.int .i64 t0,.int .i64 t],.agg (encT T),.int .i64 f],⟨⟨⟨rfl,rfl⟩,⟨rfl,rfl⟩,⟨rfl,rfl⟩,trivial⟩,Yf _ (YO T _),⟨rfl,rfl⟩,trivial⟩,?_⟩
   dsimp only[v13,Yer,lenT,Yhk,termC,Yhm,farC,Yhp,pjnC,Yho,sgnC,Yhq,flrC,Yhs,chkSC,Yhr,NotC,Yhl,Yht,v38,Yhn,Yhu,v40,go_sem,reduceIte,Yzb]
   simp only[Yd,Yzb,Yzd,reduceCtorEq,Yzc]
   refine⟨Yaw T,Yaw T,fun hs=>absurd hS hs,fun hs=>⟨T,⟨rfl,hnm⟩,?_⟩⟩
   rw[if_neg (fun hh=>hh hT)]
   dsimp only[Yer,lenT,Yhk,termC,Yhm,farC,Yhp,pjnC,Yho,sgnC,Yhq,flrC,Yhs,chkSC,Yhr,NotC,Yhl,Yht,v38,Yhn,Yhu,v40,go_sem,reduceIte,Yzb]
   simp only[Yd,Yzb,Yzd,reduceCtorEq,Yzc]
   obtain⟨ha,hb0,hb1⟩:=Yi0 hS
   obtain⟨L,hL⟩:∃L,L=Yz T:=⟨_,rfl⟩
   have h:k (.tup [.int .i64 (Ydy (Yz T) a t0 t f).1,.int .i64 (Ydy (Yz T) a t0 t f).2,.int .i64 0]) []:=h
   rw[<-hL]at h⊢
   refine⟨by decide,by decide,fun hh=>absurd trivial hh,by decide,by decide,fun hh=>absurd trivial hh,fun hc=>?_,fun hc=>⟨L,⟨fun q _=>Yb _,by decide,hb0,hb1⟩,by decide,by decide,?_⟩⟩
   . simp only[Bool.or_eq_true,decide_eq_true_eq]at hc;omega
   refine Loop.keep [3,1,0,2,0,0,0] Nat (fun m=>[(13,.int .i64 ((m+1:Nat):Int))]) (fun m=>[(3,.box [.int .i64 (nrL L a t0 t f m).note]),(8,.box [.vs true false (nrL L a t0 t f m).l.length 2 (fun k=>enc2 ((nrL L a t0 t f m).l.getD k default))]),(9,.box [.int .i64 (nrL L a t0 t f m).d])]) [] (fun m=>m<=139) (fun m=>139-m) ?_ ?_
   . refine⟨0,Nat.zero_le _,?_⟩
     dsimp only[nrL,go_sem,reduceIte,Yzb]
     simp only[Ya]
     exact⟨⟨by decide,by decide,by decide,by decide,by decide,by decide,by decide,rfl⟩,Yf _ (YO T _),Yf _ (YO T _),by decide⟩
   rintro m hm
   replace hm:m<=139:=hm
   have hok:=Yr4 L a t0 t f m
   obtain⟨S,hSd⟩:∃S,S=nrL L a t0 t f m:=⟨_,rfl⟩
   rw[<-hSd]at hok
   dsimp only[Yer,lenT,Yhk,termC,Yhm,farC,Yhp,pjnC,Yho,sgnC,Yhq,flrC,Yhs,chkSC,Yhr,NotC,Yhl,Yht,v38,Yhn,Yhu,v40,Yzh,go_sem,reduceIte,Yzb]
   simp only[Yd,Yzb,Yzd,reduceCtorEq,Yzc]
   rw[<-hSd]
   refine⟨fun hlt=>?_,fun hge=>?_⟩
   . obtain⟨N,hN⟩:∃N:Int,N=((m+1:Nat):Int):=⟨_,rfl⟩
     have hN1:0<=N/\N<=139:=by omega
     rw[<-hN]
     obtain⟨l1,hl1⟩:∃l,l=farL L a t0 t f N:=⟨_,rfl⟩
     obtain⟨d1,hd1⟩:∃d,d=(Yi L t0 t N).2:=⟨_,rfl⟩
     have hll:=(YhU L a t0 t f N).1
     rw[<-hl1]at hll
     have hpl:=YoX l1 S.d S.l (IntKind.i64.wrap (0-d1))
     have hsu:nrL L a t0 t f (m+1)=if(sgnF (pjnF l1 S.d S.l (IntKind.i64.wrap (0-d1)))).1<0 then⟨N,l1,d1⟩else S:=by rw[nrL,<-hSd,<-hN,<-hl1,<-hd1]
     refine⟨L,⟨fun q _=>Yb _,hN1,hb0,hb1⟩,by decide,by decide,?_⟩
     rw[<-hl1,<-hd1]
     refine⟨l1,S.l,⟨⟨rfl,rfl,fun q _=>Yb _⟩,⟨rfl,rfl,fun q _=>Yb _⟩,by omega,by omega⟩,pjnF l1 S.d S.l (IntKind.i64.wrap (0-d1)),⟨⟨rfl,rfl,fun q _=>Yb _⟩,by omega⟩,by decide,by decide,fun hc=>⟨m+1,by omega,by omega,?_⟩,fun hc=>⟨m+1,by omega,by omega,?_⟩⟩
     . rw[hsu,if_pos hc,Yzi (N+1) (by omega)]
       simp only[Ya]
       exact⟨⟨by decide,by decide,by decide,by decide,by decide,by decide,by decide,by omega⟩,Yf _ (YO T _),Yf _ (YO T _),by decide⟩
     . rw[hsu,if_neg hc,Yzi (N+1) (by omega)]
       simp only[Ya]
       exact⟨⟨by decide,by decide,by decide,by decide,by decide,by decide,by decide,by omega⟩,Yf _ (YO T _),Yf _ (YO T _),by decide⟩
   obtain rfl:m=139:=by omega
   have hl:=YcQ L t0 t S.note
   have hnr:Ydy L a t0 t f=(S.note,offL L a t0 t f S.note):=by rw[Ydy,<-hSd]
   rw[hnr]at h
   have hpl:=YoX (Yi L t0 t S.note).1 (-1) [(f,(Yi L t0 t S.note).2),(a,IntKind.i64.wrap (0-(Yi L t0 t S.note).2))] 1
   simp only[Yzy,Yzw]at hpl
   refine⟨L,⟨fun q _=>Yb _,⟨hok.2.1,by omega⟩,hb0,hb1⟩,by decide,by decide,by decide,(Yi L t0 t S.note).1,[(f,(Yi L t0 t S.note).2),(a,IntKind.i64.wrap (0-(Yi L t0 t S.note).2))],⟨⟨rfl,rfl,fun q _=>Yb _⟩,⟨rfl,rfl,fun q hq=>?_⟩,by omega⟩,pjnF (Yi L t0 t S.note).1 (-1) [(f,(Yi L t0 t S.note).2),(a,IntKind.i64.wrap (0-(Yi L t0 t S.note).2))] 1,⟨⟨rfl,rfl,fun q _=>Yb _⟩,by omega⟩,?_⟩
   . rcases(show q=0\/q=1 by omega)with rfl|rfl <;> exact Yb _
   exact⟨by decide,by decide,by decide,YD h ⟨⟨rfl,rfl⟩,⟨rfl,rfl⟩,⟨rfl,rfl⟩,trivial⟩ (fun _=>by simp [Yl,Ym])⟩
 . exact h.1.elim
end Go.Proofs.YtegbbdjknnfbdaaGreatDoor
