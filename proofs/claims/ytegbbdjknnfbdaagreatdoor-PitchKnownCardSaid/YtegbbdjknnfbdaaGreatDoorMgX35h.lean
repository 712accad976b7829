/- Pitches: awake, the law PitchKnown. -/
import Derived.Test.YtegbbdjknnfbdaaGreatDoorMgX35g
import Derived.Test.YtegbbdjknnfbdaaGreatDoorMgX35d
import Derived.LaidMore
import Derived.OpenShut
import Derived.Stop.Joined
import Derived.Deep.Slices
import Derived.Test.YtegbbdjknnfbdaaGreatDoorRows
import Derived.Test.YtegbbdjknnfbdaaGreatDoorCards
import Derived.Test.YtegbbdjknnfbdaaGreatDoorTie
import Derived.ProofKit
import Derived.SevenTiedAt
open Array renaming getElem?_eq_some_iff->Yzo
open Nat renaming le_refl->Yzk,reduceAdd->Yzb,reduceEqDiff->Yzc,reduceLeDiff->Yzd
open Go.Proofs.Tryz renaming prog->Yzg
set_option linter.all false
namespace Go.Proofs.YtegbbdjknnfbdaaGreatDoor
open Go Go.Vx
set_option maxRecDepth 100000
set_option maxHeartbeats 8000000
def v14:VF:=⟨48,[.tmp 0],(ZR [u1 0 .mov [.cn (.bool false)]] (ZR [u1 8 (.call 7) [.cn (.int .i64 15000)],u1 9 (.call 8) [.cn (.val (.string ⟨#[101,113,117,97,108]⟩))],u1 10 (.call 9) [.tm 8,.tm 9,.cn (.int .i64 60)],Zm 7 10,Ze 11 0 7,Ze 12 1 7,Zn 1,Zs 2 1 11,Zm 2 12] (ZR [u1 14 (.call 7) [.cn (.int .i64 20000)],u1 15 (.call 8) [.cn (.val (.string ⟨#[101,113,117,97,108]⟩))],u1 16 (.call 9) [.tm 14,.tm 15,.cn (.int .i64 69)],Zm 13 16,Ze 17 0 13,Ze 18 1 13,Zn 3,Zs 2 3 17,Zm 4 18] (ZR [u1 20 (.call 7) [.cn (.int .i64 20000)],Zc 21 44 20,Zm 19 21,Ze 22 0 19,Ze 23 1 19,Zm 5 22,Zm 6 23] (ZR [Zm 24 2,Zq 25 .eql 24 0,Zm 26 25,Zg 27 26 true 4,u2 28 26 true (.cmp .eql) [.tm 27,.cn (.int .i64 0)],u1 29 .and [.tm 26,.tm 28],Zm 30 29,Zg 31 30 true 6,u2 32 30 true (.cmp .eql) [.tm 31,.cn (.int .i64 0)],u1 33 .and [.tm 30,.tm 32],Zm 34 33,u2 35 34 true (.load true 2) [.tm 1],u2 36 34 true (.build [(.int .i64 0),(.int .i64 0)] [(0,1),(1,1)]) [.cn (.int .i64 261625),.cn (.int .i64 261626)],u2 37 34 true (.eqv false [true,true]) [.tm 35,.tm 36],u1 38 .and [.tm 34,.tm 37],Zm 39 38,u2 40 39 true (.load true 2) [.tm 3],u2 41 39 true (.build [(.int .i64 0),(.int .i64 0)] [(0,1),(1,1)]) [.cn (.int .i64 443801),.cn (.int .i64 443802)],u2 42 39 true (.eqv false [true,true]) [.tm 40,.tm 41],u1 43 .and [.tm 39,.tm 42],Zm 44 43,Zg 45 44 true 5,u2 46 44 true (.cmp .eql) [.tm 45,.cn (.int .i64 14891)],u1 47 .and [.tm 44,.tm 46],Zm 0 47] .ret)))))⟩
theorem Yyn:Yh Yzg Tryz.f14=some v14:=by kernel_rfl
def v3:VF:=⟨176,[.tmp 0],(ZR [u1 0 .mov [.cn (.bool false)]] (ZR [u1 17 (.call 7) [.cn (.int .i64 15000)],u1 18 (.call 8) [.cn (.val (.string ⟨#[101,113,117,97,108]⟩))],u1 1 (.alloc [(.int .i64 0),(.int .i64 0),(.int .i64 0)]) [],u1 2 (.alloc [(.val (.string ⟨#[]⟩)),(.bool false),(.int .i64 0),(.int .i64 0),(.int .i64 0),(.int .i64 0),(.int .i64 0),(.int .i64 0),(.int .i64 0),(.int .i64 0),(.int .i64 0),(.int .i64 0),(.int .i64 0),(.int .i64 0),(.int .i64 0),(.int .i64 0),(.int .i64 0),(.int .i64 0),(.int .i64 0),(.int .i64 0),(.int .i64 0),(.int .i64 0),(.int .i64 0),(.int .i64 0),(.int .i64 0),(.int .i64 0),(.int .i64 0)]) [],Zs 3 1 17,Zs 27 2 18] (ZR [Zt 20 3 1,Zt 21 27 2,u1 22 (.call 9) [.tm 20,.tm 21,.cn (.int .i64 69)],Zm 19 22,Ze 23 0 19,Ze 24 1 19,Zn 3,Zs 2 3 23,Zm 4 24] (ZR [Zt 26 3 1,Zt 27 27 2,u1 28 (.call 9) [.tm 26,.tm 27,.cn (.int .i64 81)],Zm 25 28,Ze 29 0 25,Ze 30 1 25,Zn 5,Zs 2 5 29,Zm 6 30] (.seq (.draw [(7,.box [(.int .i64 0),(.int .i64 0)])] [Zw 32 3 1,w1 33 (.call 8) [.cn (.val (.string ⟨#[109,101,97,110,116,111,110,101]⟩))],w1 34 (.call 9) [.tm 32,.tm 33,.cn (.int .i64 60)],Zu 31 34,ZE 35 0 31,ZE 36 1 31,ZS 2 7 35,Zu 8 36]) (ZR [Zt 38 3 1,Zt 39 27 2,u1 40 (.call 10) [.tm 38,.tm 39,.cn (.int .i64 60)],Zm 37 40,Ze 41 0 37,Ze 42 1 37,Zn 9,Zs 2 9 41,Zm 10 42] (.seq (ZR [Zm 43 4,Zq 44 .neq 43 0,Zm 45 44,Zg 46 45 false 6,u2 47 45 false (.cmp .neq) [.tm 46,.cn (.int .i64 0)],u1 48 .or [.tm 45,.tm 47],Zm 49 48,Zg 50 49 false 8,u2 51 49 false (.cmp .neq) [.tm 50,.cn (.int .i64 0)],u1 52 .or [.tm 49,.tm 51],Zm 53 52,Zg 54 53 false 10,u2 55 53 false (.cmp .neq) [.tm 54,.cn (.int .i64 0)],u1 56 .or [.tm 53,.tm 55],Zm 57 56,u2 58 57 false (.load true 2) [.tm 3],u2 59 57 false (.build [(.int .i64 0),(.int .i64 0)] [(0,1),(1,1)]) [.cn (.int .i64 440000),.cn (.int .i64 440000)],u2 60 57 false (.eqv true [true,true]) [.tm 58,.tm 59],u1 61 .or [.tm 57,.tm 60],Zm 62 61,u2 63 62 false (.load true 2) [.tm 5],u2 64 62 false (.build [(.int .i64 0),(.int .i64 0)] [(0,1),(1,1)]) [.cn (.int .i64 880000),.cn (.int .i64 880000)],u2 65 62 false (.eqv true [true,true]) [.tm 63,.tm 64],u1 66 .or [.tm 62,.tm 65],Zm 67 66,u2 68 67 false (.load true 2) [.tm 7],u2 69 67 false (.build [(.int .i64 0),(.int .i64 0)] [(0,1),(1,1)]) [.cn (.int .i64 263181),.cn (.int .i64 263182)],u2 70 67 false (.eqv true [true,true]) [.tm 68,.tm 69],u1 71 .or [.tm 67,.tm 70],Zm 72 71,u2 73 72 false (.load true 2) [.tm 9],u2 74 72 false (.build [(.int .i64 0),(.int .i64 0)] [(0,1),(1,1)]) [.cn (.int .i64 261625565),.cn (.int .i64 261625566)],u2 75 72 false (.eqv true [true,true]) [.tm 73,.tm 74],u1 76 .or [.tm 72,.tm 75]] (ZC 76 (ZR [u1 0 .mov [.cn (.bool false)]] .ret) .skip)) (ZR [u1 78 (.call 11) [.cn (.int .i64 0)],Zm 77 78,Ze 79 0 77,Ze 80 1 77,Zs 2 3 79,Zm 4 80] (ZR [u1 82 (.build [(.int .i64 0),(.int .i64 0),(.int .i64 0)] [(0,1)]) [.cn (.int .i64 331300)],Zt 83 27 2,u1 84 (.call 12) [.tm 82,.tm 83,.cn (.int .i64 69)],Zm 81 84,Ze 85 0 81,Ze 86 1 81,Zs 2 5 85,Zm 6 86] (ZR [u1 88 (.build [(.int .i64 0),(.int .i64 0),(.int .i64 0)] [(0,1)]) [.cn (.int .i64 440000)],Zt 89 27 2,u1 90 (.call 12) [.tm 88,.tm 89,.cn (.int .i64 69)],Zm 87 90,Ze 91 0 87,Ze 92 1 87,Zs 2 7 91,Zm 8 92] (.seq (ZR [Zm 93 4,Zq 94 .neq 93 0,Zm 95 94,Zg 96 95 false 6,u2 97 95 false (.cmp .neq) [.tm 96,.cn (.int .i64 0)],u1 98 .or [.tm 95,.tm 97],Zm 99 98,Zg 100 99 false 8,u2 101 99 false (.cmp .neq) [.tm 100,.cn (.int .i64 0)],u1 102 .or [.tm 99,.tm 101],Zm 103 102,u2 104 103 false (.load true 2) [.tm 3],u2 105 103 false (.build [(.int .i64 0),(.int .i64 0)] [(0,1),(1,1)]) [.cn (.int .i64 331300000),.cn (.int .i64 331300000)],u2 106 103 false (.eqv true [true,true]) [.tm 104,.tm 105],u1 107 .or [.tm 103,.tm 106],Zm 108 107,u2 109 108 false (.load true 2) [.tm 5],u2 110 108 false (.build [(.int .i64 0),(.int .i64 0)] [(0,1),(1,1)]) [.cn (.int .i64 1000000),.cn (.int .i64 1000000)],u2 111 108 false (.eqv true [true,true]) [.tm 109,.tm 110],u1 112 .or [.tm 108,.tm 111],Zm 113 112,u2 114 113 false (.load true 2) [.tm 7],u2 115 113 false (.build [(.int .i64 0),(.int .i64 0)] [(0,1),(1,1)]) [.cn (.int .i64 752954),.cn (.int .i64 752955)],u2 116 113 false (.eqv true [true,true]) [.tm 114,.tm 115],u1 117 .or [.tm 113,.tm 116]] (ZC 117 (ZR [u1 0 .mov [.cn (.bool false)]] .ret) .skip)) (ZR [Zt 119 3 1,Zt 120 27 2,u1 121 (.call 13) [.tm 119,.tm 120,.cn (.int .i64 450000)],Zm 118 121,Ze 122 0 118,Ze 123 1 118,Ze 124 2 118,Zm 11 122,Zm 12 123,Zm 4 124] (ZR [Zt 126 3 1,Zt 127 27 2,u1 128 (.call 13) [.tm 126,.tm 127,.cn (.int .i64 452893)],Zm 125 128,Ze 129 0 125,Ze 130 1 125,Ze 131 2 125,Zm 13 129,Zm 14 130,Zm 6 131] (ZR [Zt 133 3 1,Zt 134 27 2,u1 135 (.call 13) [.tm 133,.tm 134,.cn (.int .i64 1)],Zm 132 135,Ze 136 0 132,Ze 137 1 132,Ze 138 2 132,Zm 15 136,Zm 16 137,Zm 8 138] (ZR [Zm 139 4,Zq 140 .eql 139 0,Zm 141 140,Zg 142 141 true 6,u2 143 141 true (.cmp .eql) [.tm 142,.cn (.int .i64 0)],u1 144 .and [.tm 141,.tm 143],Zm 145 144,Zg 146 145 true 8,u2 147 145 true (.cmp .eql) [.tm 146,.cn (.int .i64 0)],u1 148 .and [.tm 145,.tm 147],Zm 149 148,Zg 150 149 true 11,u2 151 149 true (.cmp .eql) [.tm 150,.cn (.int .i64 69)],u1 152 .and [.tm 149,.tm 151],Zm 153 152,Zg 154 153 true 12,u2 155 153 true (.cmp .eql) [.tm 154,.cn (.int .i64 38905)],u1 156 .and [.tm 153,.tm 155],Zm 157 156,Zg 158 157 true 13,u2 159 157 true (.cmp .eql) [.tm 158,.cn (.int .i64 70)],u1 160 .and [.tm 157,.tm 159],Zm 161 160,Zg 162 161 true 14,u2 163 161 true (.cmp .eql) [.tm 162,.cn (.int .i64 (-50000))],u1 164 .and [.tm 161,.tm 163],Zm 165 164,Zg 166 165 true 15,u2 167 165 true (.cmp .eql) [.tm 166,.cn (.int .i64 0)],u1 168 .and [.tm 165,.tm 167],Zm 169 168,Zg 170 169 true 16,u2 171 169 true (.cmp .eql) [.tm 170,.cn (.int .i64 (-15596573))],u1 172 .and [.tm 169,.tm 171],Zm 173 172,u2 174 173 true (.call 14) [],u1 175 .and [.tm 173,.tm 174],Zm 0 175] .ret)))))))))))))))⟩
theorem v3_is:Yh Yzg Tryz.f3=some v3:=by kernel_rfl
theorem nmE6(m:Bool):(if m=true then MT else EQ).nm.size<=9223372036854775807:=by cases m <;> decide
theorem eqT:Yci EQ=0:=by decide+kernel
theorem mtT:Yci MT=0:=by decide+kernel
def UA0:Env:={ ct:=fun n=>match n with|7=>some usu6C|8=>some nmdC|9=>some frq6C|44=>some drfC|_=>none,fn:=fun _=>none,meth:=fun _ _=>none}
theorem Ysl:UA0.ct 7=some usu6C:=rfl
theorem Ysm:UA0.ct 8=some nmdC:=rfl
theorem Ysn:UA0.ct 9=some frq6C:=rfl
theorem Yqj:UA0.ct 44=some drfC:=rfl
theorem YvX:Yp Yzg UA0:=by
 refine⟨fun f c h=>?_,fun f vf h=>?_,(fun _ _ _ h=>by cases h),by kernel_rfl,(fun _ h=>by cases h)⟩
 . simp only[UA0]at h
   split at h
   . cases h;exact⟨Ysc,Tryz.f7,Tryz.func7,by kernel_rfl,by kernel_rfl⟩
   . cases h;exact⟨Yr2,Tryz.f8,Tryz.func8,by kernel_rfl,by kernel_rfl⟩
   . cases h;exact⟨YrS,Tryz.f9,Tryz.func9,by kernel_rfl,by kernel_rfl⟩
   . cases h;exact⟨drf_c,Tryz.f44,Tryz.func44,by kernel_rfl,by kernel_rfl⟩
   . cases h
 . cases h
theorem Yqv:trueC.ok Yzg 14:=by
 refine Yc Tryz.func14 Yyn YvX 600 trueC fun args k h=>?_
 simp only[trueC]at h
 split at h
 . refine⟨[],trivial,?_⟩
   have h:k (.bool true) []:=h
   dsimp only[v14,Yer,lenT,Ysl,Ysm,Ysn,Yqj,usu6C,nmdC,frq6C,drfC,go_sem,reduceIte,Yzb]
   simp only[Yd,Yzb,Yzd,reduceCtorEq,Yzc]
   refine⟨false,rfl,EQ,⟨rfl,nmE6 false,by decide,eqT,by decide⟩,by decide,by decide,false,rfl,EQ,⟨rfl,nmE6 false,by decide,eqT,by decide⟩,by decide,by decide,by decide,by decide,by decide,?_⟩
   rw[exf_5,exf_6,exd_1]
   exact Yaf h
 . exact h.1.elim
def UA1:Env:={ ct:=fun n=>match n with|7=>some usu6C|8=>some nmdC|9=>some frq6C|10=>some micC|11=>some speedC|12=>some wavC|13=>some nearC|14=>some trueC|_=>none,fn:=fun _=>none,meth:=fun _ _=>none}
theorem Yso:UA1.ct 7=some usu6C:=rfl
theorem Ysp:UA1.ct 8=some nmdC:=rfl
theorem Ysq:UA1.ct 9=some frq6C:=rfl
theorem Yqk:UA1.ct 10=some micC:=rfl
theorem Yql:UA1.ct 11=some speedC:=rfl
theorem Yqm:UA1.ct 12=some wavC:=rfl
theorem Yqn:UA1.ct 13=some nearC:=rfl
theorem Yqo:UA1.ct 14=some trueC:=rfl
theorem YvY:Yp Yzg UA1:=by
 refine⟨fun f c h=>?_,fun f vf h=>?_,(fun _ _ _ h=>by cases h),by kernel_rfl,(fun _ h=>by cases h)⟩
 . simp only[UA1]at h
   split at h
   . cases h;exact⟨Ysc,Tryz.f7,Tryz.func7,by kernel_rfl,by kernel_rfl⟩
   . cases h;exact⟨Yr2,Tryz.f8,Tryz.func8,by kernel_rfl,by kernel_rfl⟩
   . cases h;exact⟨YrS,Tryz.f9,Tryz.func9,by kernel_rfl,by kernel_rfl⟩
   . cases h;exact⟨mic_c,Tryz.f10,Tryz.func10,by kernel_rfl,by kernel_rfl⟩
   . cases h;exact⟨Yum,Tryz.f11,Tryz.func11,by kernel_rfl,by kernel_rfl⟩
   . cases h;exact⟨wav_c,Tryz.f12,Tryz.func12,by kernel_rfl,by kernel_rfl⟩
   . cases h;exact⟨Yw2,Tryz.f13,Tryz.func13,by kernel_rfl,by kernel_rfl⟩
   . cases h;exact⟨Yqv,Tryz.f14,Tryz.func14,by kernel_rfl,by kernel_rfl⟩
   . cases h
 . cases h
theorem Ymb:∀(z v:List SV),lenL z=lenL v->YC z 0 v=v
 | [],[],_=>rfl
 | [],_::_,h=>by simp [lenL]at h
 |_::_,[],h=>by simp [lenL]at h
 |x::z,y::v,h=>by
   show y::YC z 0 v=y::v
   rw[Ymb z v (by simpa [lenL]using h)]
theorem sh_T(n:Nat)(T:Tm):Ybo n (encT T)=encT T:=rfl
theorem if_F:(if false=true then MT else EQ)=EQ:=rfl
theorem YqT:(lawC []).ok Yzg 3:=by
 refine Yc Tryz.func3 v3_is YvY 600 (lawC []) fun args k h=>?_
 obtain⟨ha,hk⟩:=h
 cases Yjy ha
 have hk':k (.bool true) []:=hk
 refine⟨[],trivial,?_⟩
 dsimp only[v3,Yer,lenT,Yso,Ysp,Ysq,Yqk,Yql,Yqm,Yqn,Yqo,usu6C,nmdC,frq6C,micC,speedC,wavC,nearC,trueC,go_sem,reduceIte,Yzb]
 simp only[Yd,Yzb,Yzd,reduceCtorEq,Yzc]
 refine⟨false,rfl,?_⟩
 rw[if_F,sh_T,Ymb _ _ (Eq.refl 27)]
 simp only[lenT,Yer]
 refine⟨⟨trivial,Yaw EQ⟩,Yzk _,EQ,⟨rfl,nmE6 false,by decide,eqT,by decide⟩,by decide,by decide,Yzk _,EQ,⟨rfl,nmE6 false,by decide,eqT,by decide⟩,by decide,by decide,true,rfl,MT,⟨rfl,nmE6 true,by decide,mtT,by decide⟩,by decide,by decide,?_⟩
 rw[exf_1,exf_2,exf_3]
 refine⟨Yzk _,EQ,⟨rfl,nmE6 false⟩,by decide,by decide,?_⟩
 rw[exf_4,exs_1]
 refine⟨fun hc=>absurd hc (by decide),fun _=>⟨by decide,by decide,Yzk _,EQ,⟨rfl,nmE6 false,by decide,eqT,by decide⟩,by decide,by decide,Yzk _,EQ,⟨rfl,nmE6 false,by decide,eqT,by decide⟩,by decide,by decide,?_⟩⟩
 rw[exw_1,exw_2]
 refine⟨fun hc=>absurd hc (by decide),fun _=>?_⟩
 refine⟨Yzk _,EQ,⟨rfl,nmE6 false,by decide,eqT,by decide⟩,by decide,by decide,by decide,Yzk _,EQ,⟨rfl,nmE6 false,by decide,eqT,by decide⟩,by decide,by decide,by decide,Yzk _,EQ,⟨rfl,nmE6 false,by decide,eqT,by decide⟩,by decide,by decide,by decide,?_⟩
 rw[exn_1,exn_2,exn_3]
 exact Yaf hk'
end Go.Proofs.YtegbbdjknnfbdaaGreatDoor
namespace Go.Vx
open Go Go.RowKit Go.ChangeShapes Go.WideShapes Go.ChangeAt Go.WideMaps Go.WideElems
def primesL:List Int:=[2,3,5,7,11,13]
def YcH:DataW Unit:= .agg [.lit (.int .i64 2),.lit (.int .i64 3),.lit (.int .i64 5),.lit (.int .i64 7),.lit (.int .i64 11),.lit (.int .i64 13)]
theorem Yje{P:Program}{W:World}{g:Nat}{T el:TypeId}(hg:P.globalNamed "quintadena/ratios.primes" =some g)(hT:(P.globals[g]?).map (·.type)=some T)
   (hu:P.underlying T=some (.array 6 el)) (he:P.underlying el=some (.int .i64)) (hc:P.cellsOf el=1) (hp:laidMetH P [("quintadena/ratios.primes",YcH)] W):
   Cells W g 0 (gloV primesL):=by
 rw[MakeChecks.laidMetH_plain _ _ _ (by kernel_rfl)]at hp
 obtain⟨ps,⟨g1,t1,cs1,f1,p1,q1,hg1,ht1,hv1,hd1,h1⟩,h2⟩:=hp
 obtain rfl:=Option.some.inj (hg.symm.trans hg1)
 obtain rfl:=Option.some.inj (hT.symm.trans ht1)
 obtain⟨xs,m1,rfl,hx1,hlen,hn3,hel⟩:=DataW.trod_array hu hd1
 have hcell:∀k,k<6->cs1[k]? =some (.int .i64 (primesL.getD k 0)):=by
   intro k hk
   have h3:=hel k hk
   obtain⟨x,hx⟩:∃x,xs[k]? =some x:=⟨xs[k]'(by omega),by simp⟩
   rw[hx,hc,Nat.mul_one]at h3
   obtain⟨v,e1,e2,_⟩:=DataW.trod_int he h3
   have e3:(cs1.toList.drop k)[0]? =some (.int .i64 v):=by
     have:((cs1.toList.drop k).take 1)[0]? =some (.int .i64 v):=by rw[e1];rfl
     simpa using this
   have e4:cs1[k]? =some (.int .i64 v):=by simpa using e3
   rw[e4]
   simp only[Prod.mk.injEq]at hx1
   have e5:(DataW.lit (.int .i64 (primesL.getD k 0)):DataW Unit)=x.1:=by
     have e6:(xs.map (·.1))[k]? =some x.1:=by simp [hx]
     have e7:=hx1.1
     simp only[YcH,DataW.agg.injEq]at e7
     rw[<-e7]at e6
     match k,hk,e6 with
     |0,_,e6|1,_,e6|2,_,e6|3,_,e6|4,_,e6|5,_,e6=>exact Option.some.inj e6
   rw[e2]at e5
   simp only[DataW.lit.injEq,Lit.int.injEq]at e5
   rw[e5.2]
 unfold World.var? at hv1
 rw[hg]at hv1
 simp only[Option.bind_some]at hv1
 split at hv1
 . rename_i cs T' fz ho
   cases hv1
   refine⟨cs1,T',fz,ho,fun j v hj=>?_⟩
   have hj6:j<6:=by
     have:=(List.getElem?_eq_some_iff.1 hj).1
     simpa [gloV,primesL]using this
   rw[Nat.zero_add,hcell j hj6]
   match j,hj6,hj with
   |0,_,hj|1,_,hj|2,_,hj|3,_,hj|4,_,hj|5,_,hj=>exact hj
 . cases hv1
theorem Yjo{g:Nat}{T el:TypeId}{C:Checked}{f:FuncId}{fn:Func}{s:ChangeSpec}{dom:List PathCond}{os:Os}{H:Type}{enc:TypeId×Value->H}{shs:List PSh}{tb:TypeId}
   (own:ownKnob C.prog.godebug=none)(started:os.Started)(noInit:C.prog.inits.idxOf? f=none)(hfn:C.prog.funcs[f]? =some fn)(hl:laidOutB C.prog=true)
   (witness:∃(w:World) (tape:Tape) (i:Input),w.os=os/\(w.forCall tape i).Shaped C.prog/\i.vars=[]/\Input.okWide C.prog (w.forCall tape i) .any w.heap.size f i/\
     ((s.pre enc C.prog fn dom false (w.forCall tape i).memory i.args/\laidMetH C.prog [("quintadena/ratios.primes",YcH)] (w.forCall tape i).memory)/\sizedMet enc C.prog fn (OpenSpec.ofChange s) false (w.forCall tape i).memory i.args)/\({}:Assume).holds C.prog (lone (Frame.enter C.prog f i.args .normal) [] (w.forCall tape i)))
   (hsh:YjB C.prog fn.params.toList=some shs)(hread:Yub C.prog fn.params.toList=true)(hres:fn.resultTypes.toList=[tb])(htb:C.prog.underlying tb=some .bool)(hvars:s.vars=[])
   (hspec:∀ds:List (DataW H),ds.length=fn.params.toList.length->(s.fn H ds).results=[.lit (.bool true)]/\(s.fn H ds).args=ds/\(s.fn H ds).vars=[])(hc:(lawC shs).ok C.prog f)(hg:C.prog.globalNamed "quintadena/ratios.primes" =some g)(hT:(C.prog.globals[g]?).map (·.type)=some T) (hu:C.prog.underlying T=some (.array 6 el)) (he:C.prog.underlying el=some (.int .i64)) (hce:C.prog.cellsOf el=1):
   ReturnsInHanded {} C os f .any (fun w args=>(s.pre enc C.prog fn dom false w args/\laidMetH C.prog [("quintadena/ratios.primes",YcH)] w)/\sizedMet enc C.prog fn (OpenSpec.ofChange s) false w args) (s.post enc C.prog fn false true false false):=by
 refine returnsInHanded_of_change_and (X:=fun w _=>laidMetH C.prog [("quintadena/ratios.primes",YcH)] w) (fun _ _ _ hh h=>h.of_heap hh) own started noInit hfn witness ?_
 intro W base args ds gs before hval hW hcnd _ hL _
 obtain⟨p,q,hA,hV,hbef,hfz,hnd⟩:=id hW
 have hlen:=Yf0 hA
 rw[hvars]at hV
 obtain⟨rfl,rfl⟩:=trodVars_none hV
 obtain⟨svs,k1,k2⟩:=YgJ (B:=W.heap.size) hsh (fun j t v ht hv=>hval j t v (by simpa using ht) (by simpa using hv)) hA
 have hcall:=hc svs args.toList (cx0 W) (fun r hs=>r= .bool true) ⟨fun b K h=>(by cases h),fun g' l h=>by
   have hcl:=Yje hg hT hu he hce hL
   unfold glob at h
   split at h
   . rename_i hg'
     cases h
     obtain rfl:=Option.some.inj (hg.symm.trans hg')
     obtain⟨cs,T',fz,ho,_⟩:=id hcl
     exact⟨(Yzo.1 ho).1,trivial,hcl⟩
   . cases h⟩ k1 ⟨k2,rfl⟩
 simp only[Array.toArray_toList]at hcall
 refine hcall.mono fun e W' h=>?_
 obtain⟨r,hs,v,bs,J,hJ,rfl,rfl,hr,_,hbI,_⟩:=h
 have hb:Below W.heap.size W W':=⟨hbI.os,hbI.tape,hbI.output,hbI.size,fun k hk=>hbI.block k hk rfl⟩
 have hv:=hr.bool_inv
 subst hv
 obtain⟨s1,s2,s3⟩:=hspec ds hlen
 refine⟨_,rfl,ds,[],before,[],p,[],hW,?_,?_,?_,hb.frame _,fun h=>by cases h⟩
 . rw[List.append_nil,s1,hres]
   have hsz:fn.resultTypes.size=1:=by rw[<-Array.length_toList,hres];rfl
   have:(Value.bool true).resultList fn.resultTypes.size=[.bool true]:=by rw[hsz];rfl
   rw[this]
   exact trodAll_mk1 (shut_bool htb true)
 . rw[List.append_nil,s2]
   exact YeF hl hb hread hA
 . rw[List.append_nil,s3,hvars];rfl
end Go.Vx
namespace Go.Vx
open Go Go.RowKit Go.ChangeShapes Go.WideShapes Go.ChangeAt Go.WideMaps Go.WideElems
end Go.Vx
namespace Go.Proofs.YtegbbdjknnfbdaaGreatDoor
open Go Go.Vx Go.RowKit
set_option maxRecDepth 100000
theorem Yxa:ownKnob Yzg.godebug=none:=by kernel_rfl
theorem Ytm:laidOutB Yzg=true:=by kernel_rfl
theorem gPr35:Yzg.globalNamed "quintadena/ratios.primes" =some 0:=by kernel_rfl
theorem tPr35:(Yzg.globals[0]?).map (·.type)=some 141:=by kernel_rfl
theorem uPr35:Yzg.underlying 141=some (.array 6 2):=by kernel_rfl
theorem ePr35:Yzg.underlying 2=some (.int .i64):=by kernel_rfl
theorem cPr35:Yzg.cellsOf 2=1:=by kernel_rfl
theorem Ywq(os:Os)(args:Array Value):laidMetH Yzg [("quintadena/ratios.primes",YcH)] ((World.doorLaid Yzg 400 os).forCall (fun _ _=>0) ⟨#[],args,[]⟩).memory:=
 laidMetH_of_parts3 (fuel:=8) (laidMet_of_run' 8 (by kernel_rfl) (by kernel_rfl)) (by kernel_rfl) (by kernel_rfl)
theorem Yen(os:Os)(started:os.Started)(H:Type)(enc:TypeId×Value->H):
   ReturnsInHanded {} Tryz.checked os 3 .any (fun w args=>(Rows.pitchKnownSpec.pre enc Yzg Tryz.f3 [] false w args/\laidMetH Yzg [("quintadena/ratios.primes",YcH)] w)/\sizedMet enc Yzg Tryz.f3 (OpenSpec.ofChange Rows.pitchKnownSpec) false w args)
     (Rows.pitchKnownSpec.post enc Yzg Tryz.f3 false true false false):=
 Yjo (C:=Tryz.checked) (tb:=4) Yxa started (by kernel_rfl) Tryz.func3 Ytm
   (ChangeSpec.witness_shaped (enc:=enc) (C:=Tryz.checked) (os:=os) (X:=fun w _=>laidMetH Yzg [("quintadena/ratios.primes",YcH)] w) false (World.doorLaid Yzg 400 os) #[] 8 rfl (World.shaped_of_RefB (by kernel_rfl) (by kernel_rfl)) (by kernel_rfl) (by kernel_rfl) (by kernel_rfl) (Ywq os _))
   (by kernel_rfl) (by kernel_rfl) (by kernel_rfl) (by kernel_rfl) rfl (fun ds h=>match ds,h with| [],_=>⟨rfl,rfl,rfl⟩) YqT gPr35 tPr35 uPr35 ePr35 cPr35
theorem YfJ:Rows.PitchKnownSaid:=
 OpenClaim.holds_of_wide 3 Tryz.f3 rfl rfl rfl rfl rfl rfl rfl ⟨rfl,rfl,rfl,rfl,rfl⟩ rfl rfl rfl rfl rfl (by kernel_rfl) Tryz.func3 (by kernel_rfl)
   (of_decide_eq_true (by kernel_rfl)) (by unfold Func.isWrapper;first| (rw[if_pos (by decide+kernel)];kernel_rfl) | (rw[if_neg (by decide+kernel)];exact⟨rfl,rfl⟩))
   (fun os started H enc _=>Yen os started H enc)
theorem pitchKnown_holds:Rows.PitchKnownCardSaid:=
 Claim7.holds_tied_plain_at .later [] [.data] true (true, "7cd8daa1329d5df0a656e2989b91a715f6d44c744bfadef0be0ab367e121e183") false
   YfJ (fun _ h=>by cases h) (by kernel_rfl) (fun _ h=>by cases h) pitchKnown_row_tie rfl ⟨rfl,rfl⟩ (by kernel_rfl) rfl
   (fun f fn hf hfn=>by
     obtain rfl:f=3:=Option.some.inj ((show Yzg.funcNamed Rows.pitchKnownRow.func=some 3 by kernel_rfl).symm.trans hf) |>.symm
     obtain rfl:fn=Tryz.f3:=(Option.some.inj (Tryz.func3.symm.trans hfn)).symm
     exact⟨by kernel_rfl,fun j t ht=>by
       have hall:(Tryz.f3.params.toList.all fun u=>!Yzg.wantsStandIn u)=true:=by kernel_rfl
       have hm:t∈Tryz.f3.params.toList:=Array.mem_toList_iff.2 (Array.mem_of_getElem? ht)
       exact(show Yzg.wantsStandIn t=false by simpa using List.all_eq_true.1 hall t hm)⟩)
   (by kernel_rfl)
end Go.Proofs.YtegbbdjknnfbdaaGreatDoor
