/- Signs of the program, walked: guess. -/
import Derived.Test.YtnfkhknfpaamoaaGreatDoorMgX25d
import Derived.Test.YtnfkhknfpaamoaaGreatDoorProg
open And renaming intro->YC3
open Bool renaming and_eq_true->YC0,or_eq_false_iff->YDb,or_eq_true->YDm
open Int renaming toNat_natCast->YCY,toNat_of_nonneg->YDf
open Go.IntWalk renaming i64_in->YCW,u64_in->YDl
open List renaming getD_eq_getElem?_getD->YC1,getElem?_append_left->YDi,getElem?_take->YDn,length_append->YDo,length_cons->YDt,length_take->YDj,mem_append->YDu,mem_cons->YDc,mem_cons_of_mem->YC9,mem_cons_self->YC8,mem_map->YDv,range->YDk
open Nat renaming gcd->YDw,le_refl->YC2,le_trans->YDp,lt_or_ge->YC4,mod_lt->YDs,mul_comm->YDq,mul_le_mul_right->YDh,pow_add->YDx,reduceAdd->YCS,reduceEqDiff->YCT,reduceLeDiff->YCU,zero_le->YDy
open Go.Proofs.Tryz renaming prog->YCX
set_option linter.all false
namespace Go.Proofs.YtnfkhknfpaamoaaGreatDoor
open Go Go.Vx
set_option maxRecDepth 100000
set_option maxHeartbeats 4000000
def v102:VF:=⟨72,[.tmp 2,.tmp 3],(ZR [Zi 2 0,u1 3 .mov [.cn (.bool false)]] (ZR [u1 4 (.allocArr 2 2 [(.int .u64 0),(.int .u64 0),(.int .u64 0),(.int .u64 0)]) [],u1 5 (.allocArr 2 2 [(.int .u64 0),(.int .u64 0),(.int .u64 0),(.int .u64 0)]) []] (.seq (ZR [Zm 10 0,Zl 11 10,Zi 12 0] (.block 0 (.loop (ZR [Zr 13 .lss 12 11] (.seq (ZC 13 .skip (.exit 0)) (.seq (.block 1 (ZR [Zx 14 2 10 12,Zt 15 2 14,Zn 7,Zs 2 7 15] (ZR [Za 17 0 7,Zf 18 1 17,Zc 19 122 18,Zm 16 19,Ze 20 0 16,Ze 21 1 16,Zm 8 20,Zm 9 21] (ZR [Za 22 1 7,Zf 23 1 22,Zq 24 .geq 23 0] (ZC 24 (.draw [] [w1 25 (.idxArr 2 2) [.tm 4,.cn (.int .i64 0)],Zw 26 2 25,Zu 27 8,Zy 28 1 7,Zv 29 1 28,w1 30 (.conv .u64) [.tm 29],w1 32 (.idxArr 2 2) [.tm 4,.cn (.int .i64 1)],Zw 33 2 32,Zu 34 9,Zy 35 1 7,Zv 36 1 35,w1 37 (.conv .u64) [.tm 36],w1 31 (.call 123) [.tm 26,.tm 27,.tm 30],w1 39 (.idxArr 2 2) [.tm 4,.cn (.int .i64 0)],w1 38 (.call 123) [.tm 33,.tm 34,.tm 37],ZS 2 39 31,w1 40 (.idxArr 2 2) [.tm 4,.cn (.int .i64 1)],ZS 2 40 38]) (.draw [] [w1 41 (.idxArr 2 2) [.tm 5,.cn (.int .i64 0)],Zw 42 2 41,Zu 43 8,Zy 44 1 7,Zv 45 1 44,w1 46 .neg [.tm 45],w1 47 (.conv .u64) [.tm 46],w1 49 (.idxArr 2 2) [.tm 5,.cn (.int .i64 1)],Zw 50 2 49,Zu 51 9,Zy 52 1 7,Zv 53 1 52,w1 54 .neg [.tm 53],w1 55 (.conv .u64) [.tm 54],w1 48 (.call 123) [.tm 42,.tm 43,.tm 47],w1 57 (.idxArr 2 2) [.tm 5,.cn (.int .i64 0)],w1 56 (.call 123) [.tm 50,.tm 51,.tm 55],ZS 2 57 48,w1 58 (.idxArr 2 2) [.tm 5,.cn (.int .i64 1)],ZS 2 58 56])))))) (.region [Zp 59 12 1,Zm 12 59]))))))) (.seq (.block 2 (ZR [u1 61 (.idxArr 2 2) [.tm 4,.cn (.int .i64 0)],Zt 62 2 61,u1 63 (.idxArr 2 2) [.tm 5,.cn (.int .i64 1)],Zt 64 2 63,Zd 65 124 62 64,Zm 60 65] (ZC 60 (ZR [Zi 2 1,u1 3 .mov [.cn (.bool true)]] .ret) (ZR [u1 67 (.idxArr 2 2) [.tm 5,.cn (.int .i64 0)],Zt 68 2 67,u1 69 (.idxArr 2 2) [.tm 4,.cn (.int .i64 1)],Zt 70 2 69,Zd 71 124 68 70,Zm 66 71] (ZC 66 (ZR [Zi 2 (-1),u1 3 .mov [.cn (.bool true)]] .ret) .skip))))) (ZR [Zi 2 0,u1 3 .mov [.cn (.bool false)]] .ret)))))⟩
theorem Yw9:Yg YCX Tryz.f102=some v102:=by kernel_rfl
structure Gss where
 u0:Int×Int
 u1:Int×Int
 d0:Int×Int
 d1:Int×Int
def Gss.ok(s:Gss):Prop:=okL s.u0/\okL s.u1/\okL s.d0/\okL s.d1
def gssS(s:Gss)(x:Int×Int):Gss:=
 if 0<=x.2 then { s with u0:=YgZ s.u0 (YbI x.1).1 x.2,u1:=YgZ s.u1 (YbI x.1).2 x.2}
 else { s with d0:=YgZ s.d0 (YbI x.1).1 (-x.2),d1:=YgZ s.d1 (YbI x.1).2 (-x.2)}
def gss0:Gss:=⟨(0,0),(0,0),(0,0),(0,0)⟩
def Ykg(l:List (Int×Int)):Int×Bool:=
 let s:=l.foldl gssS gss0
 if YkH s.u0 s.d1=true then(1,true)else if YkH s.d0 s.u1=true then(-1,true)else(0,false)
theorem YfN(a:Int×Int)(x y:Int)(h:okL a):okL (YgZ a x y):=by
 unfold YgZ
 exact⟨Yaf _,Int.emod_nonneg _ (by decide),by show _%_<=_;omega⟩
theorem YvA(s:Gss)(x:Int×Int)(h:s.ok):(gssS s x).ok:=by
 obtain⟨h1,h2,h3,h4⟩:=h
 unfold gssS
 split
 . exact⟨YfN _ _ _ h1,YfN _ _ _ h2,h3,h4⟩
 . exact⟨h1,h2,YfN _ _ _ h3,YfN _ _ _ h4⟩
theorem Yb4:∀(f:Nat)(S a b:Int),(0<=S/\S<=18446744073709551615)->(0<=(Ybz f S a b).1/\(Ybz f S a b).1<=18446744073709551615)/\0<=(Ybz f S a b).2/\(Ybz f S a b).2<=18446744073709551615
 |0,S,a,b,h=>⟨h,Yaf _⟩
 |f+1,S,a,b,h=>by
   rw[Ybz]
   split
   . split
     . split
       . exact⟨Yaf _,Yaf _⟩
       . exact Yb4 f _ _ _ (YdH _ _)
     . split
       . exact⟨Yaf _,Yaf _⟩
       . exact Yb4 f _ _ _ (YdH _ _)
   . split
     . split
       . exact⟨Yaf _,Yaf _⟩
       . exact Yb4 f _ _ _ (YdH _ _)
     . split
       . exact⟨Yaf _,Yaf _⟩
       . exact Yb4 f _ _ _ (YdH _ _)
theorem YnS(n:Int)(hn:n<=4611686018427387904):(0<=(YbI n).1/\(YbI n).1<=18446744073709551615)/\0<=(YbI n).2/\(YbI n).2<=18446744073709551615:=by
 unfold YbI
 split
 . exact⟨Yaf _,Yaf _⟩
 . have hb1:Yx n.toNat<=63:=bitsN_le.2 (by have:(2:Nat)^63=9223372036854775808:=rfl;omega)
   exact Yb4 _ _ _ _ ⟨by omega,by omega⟩
def guessC:Ctr:={ alias:=false,of:=fun l=>match l with
 | [.vs _ _ n sz get]=> .ex (List (Int×Int)) fun l=> .pre (lsP 2 enc2 n sz get l/\(∀x,x∈l->okT x)/\n<=100) (.fin (.tup [.int .i64 (Ykg l).1,.bool (Ykg l).2]) [])
 |_=>noC}
def RA7:Env:={ ct:=fun n=>match n with|122=>some quickC|123=>some lpC|124=>some loC|_=>none,fn:=fun _=>none,meth:=fun _ _=>none}
theorem Yot:RA7.ct 122=some quickC:=rfl
theorem You:RA7.ct 123=some lpC:=rfl
theorem Yov:RA7.ct 124=some loC:=rfl
theorem Yyf:Yo YCX RA7:=by
 refine⟨fun f c h=>?_,fun f vf h=>?_,(fun _ _ _ h=>by cases h),by kernel_rfl,(fun _ h=>by cases h)⟩
 . simp only[RA7]at h
   split at h
   . cases h;exact⟨Ywk,Tryz.f122,Tryz.func122,by kernel_rfl,by kernel_rfl⟩
   . cases h;exact⟨lp_c,Tryz.f123,Tryz.func123,by kernel_rfl,by kernel_rfl⟩
   . cases h;exact⟨lo_c,Tryz.f124,Tryz.func124,by kernel_rfl,by kernel_rfl⟩
   . cases h
 . cases h
theorem Ylm{k:SV->List HO->Prop}{al:Bool}{hp:List HO}{κ:IntKind}{x:Int}{b:Bool}(h:k (.tup [.int κ x,.bool b]) []):YB al k (.tup [.int κ x,.bool b]) hp:=
 YE (show k _ []from h) (YA (.tup [.int κ x,.bool b]) ⟨trivial,trivial,trivial⟩) (fun _=>by simp [Ym,Yp])
theorem YvB:guessC.ok YCX 102:=by
 refine Yb Tryz.func102 Yw9 Yyf 500 guessC fun args k h=>?_
 simp only[guessC]at h
 split at h
 . rename_i tt z n sz get
   obtain⟨l,⟨⟨rfl,rfl,hg⟩,hl,hn⟩,h⟩:=h
   refine⟨[.vs tt z l.length 2 (fun k=>enc2 (l.getD k default))],⟨⟨id,rfl,rfl,rfl,hg⟩,trivial⟩,?_⟩
   dsimp only[v102,enc2,go_sem,reduceIte]
   simp only[Yd,YCS,YCU,reduceCtorEq,YCT]
   refine Loop.keep [0,3,0,4,0] (Nat×Gss) (fun s=>[(12,.int .i64 s.1)]) (fun s=>[(0,.own false 2 2 (YaO 2 [.int .u64 s.2.u0.1,.int .u64 s.2.u0.2,.int .u64 s.2.u1.1,.int .u64 s.2.u1.2])),(1,.own false 2 2 (YaO 2 [.int .u64 s.2.d0.1,.int .u64 s.2.d0.2,.int .u64 s.2.d1.1,.int .u64 s.2.d1.2]))]) [] (fun s=>s.1<=l.length/\s.2=(l.take s.1).foldl gssS gss0/\s.2.ok) (fun s=>l.length-s.1) ?_ ?_
   . refine⟨(0,gss0),⟨by simp only;omega,rfl,by simp [Gss.ok,gss0,okL]⟩,?_⟩
     dsimp only[gss0,go_sem,reduceIte]
     simp only[Ya]
     exact⟨by decide,by decide,rfl⟩
   . rintro⟨i,G⟩ ⟨hi,hG,hok⟩
     dsimp only at hi hG hok
     dsimp only[Yot,You,Yov,quickC,lpC,loC,enc2,YCY,Int.reduceToNat,Nat.reduceMul,Int.toNat_zero,Int.toNat_one,go_sem,reduceIte]
     simp only[Yd,YCS,YCU,reduceCtorEq,YCT]
     refine⟨fun hlt=>?_,fun hge=>?_⟩
     . have hx:=hl _ (YK (by omega:i<l.length))
       generalize hxe:l.getD i default=x at hx⊢
       obtain⟨q0,q1,q2,q3⟩:=hx
       have hstep:(l.take (i+1)).foldl gssS gss0=gssS G x:=by
         rw[YH (by omega),<-hG,hxe]
       obtain⟨g1,g2⟩:=YnS x.1 (by omega)
       have hok':=YvA G x hok
       obtain⟨o1,o2,o3,o4⟩:=hok
       refine⟨⟨by omega,by omega⟩,⟨by omega,by omega⟩,by decide,by decide,fun hc=>?_,fun hc=>?_⟩
       . have ew:IntKind.u64.wrap x.2=x.2:=YDl _ (by omega)
         rw[ew]
         refine⟨by decide,by decide,by decide,by decide,⟨o1,g1,by omega,by omega⟩,by decide,⟨o2,g2,by omega,by omega⟩,by decide,by decide,by decide,(i+1,gssS G x),⟨by simp only;omega,hstep.symm,hok'⟩,by simp only;omega,?_⟩
         rw[YCW ((i:Int)+1) (by omega)]
         simp only[gssS,if_pos hc]
         simp only[Ya]
         refine⟨⟨by decide,by decide,by simp⟩,fun j hj=>?_⟩
         match j,hj with
         |0,_=>exact⟨⟨rfl,rfl⟩,⟨rfl,rfl⟩,trivial⟩
         |1,_=>exact⟨⟨rfl,rfl⟩,⟨rfl,rfl⟩,trivial⟩
       . have en:IntKind.i64.wrap (0-x.2)= -x.2:=by rw[YCW _ (by omega)];omega
         rw[en]
         have ew:IntKind.u64.wrap (-x.2)= -x.2:=YDl _ (by omega)
         rw[ew]
         refine⟨by decide,by decide,by decide,by decide,⟨o3,g1,by omega,by omega⟩,by decide,⟨o4,g2,by omega,by omega⟩,by decide,by decide,by decide,(i+1,gssS G x),⟨by simp only;omega,hstep.symm,hok'⟩,by simp only;omega,?_⟩
         rw[YCW ((i:Int)+1) (by omega)]
         simp only[gssS,if_neg hc]
         simp only[Ya]
         refine⟨⟨by decide,by decide,by simp⟩,fun j hj=>?_⟩
         match j,hj with
         |0,_=>exact⟨⟨rfl,rfl⟩,⟨rfl,rfl⟩,trivial⟩
         |1,_=>exact⟨⟨rfl,rfl⟩,⟨rfl,rfl⟩,trivial⟩
     . obtain rfl:i=l.length:=by omega
       rw[List.take_length]at hG
       rw[Ykg,<-hG]at h
       refine⟨by decide,by decide,by decide,by decide,fun hc=>?_,fun hc=>⟨by decide,by decide,by decide,by decide,fun hd=>?_,fun hd=>?_⟩⟩
       . rw[show YkH G.u0 G.d1=true from hc]at h
         exact Ylm h
       . rw[show YkH G.u0 G.d1=false from hc,show YkH G.d0 G.u1=true from hd]at h
         exact Ylm h
       . rw[show YkH G.u0 G.d1=false from hc,show YkH G.d0 G.u1=false from hd]at h
         exact Ylm h
 . exact h.1.elim
def encB(x:Nat):List SV:=[.int .i64 x]
def hitF(out:List Nat)(n:Nat):Nat:=Yb1 (fun i=>decide (1<YDw (out.getD i 0) n)) out.length 0
def YdI:Nat->List Nat->List Nat->List Nat
 |0,_,out=>out
 |f+1,wait,out=>
   if wait.length=0 then out
   else if wait.getD (wait.length-1) 0=1 then YdI f (wait.take (wait.length-1)) out
   else if hitF out (wait.getD (wait.length-1) 0)<out.length then
     YdI f (wait.take (wait.length-1)++[YDw (out.getD (hitF out (wait.getD (wait.length-1) 0)) 0) (wait.getD (wait.length-1) 0),out.getD (hitF out (wait.getD (wait.length-1) 0)) 0/YDw (out.getD (hitF out (wait.getD (wait.length-1) 0)) 0) (wait.getD (wait.length-1) 0),wait.getD (wait.length-1) 0/YDw (out.getD (hitF out (wait.getD (wait.length-1) 0)) 0) (wait.getD (wait.length-1) 0)])
       (out.take (hitF out (wait.getD (wait.length-1) 0))++out.drop (hitF out (wait.getD (wait.length-1) 0)+1))
   else YdI f (wait.take (wait.length-1)) (out++[wait.getD (wait.length-1) 0])
def Ycy(out:List Nat)(x:Int×Int):List Nat:=YdI 3000 [x.1.toNat] out
def Ylq(l:List (Int×Int)):List Nat:=l.foldl Ycy []
def YC:List Nat->Nat
 | []=>1
 |x::l=>x*YC l
theorem Yap:∀(a b:List Nat),YC (a++b)=YC a*YC b
 | [],b=>by simp [YC]
 |x::a,b=>by rw[List.cons_append,YC,YC,Yap a b,Nat.mul_assoc]
theorem Ygw:∀{l:List Nat},(∀x,x∈l->1<=x)->1<=YC l
 | [],_=>by decide
 |x::l,h=>by
   have h1:=Ygw (l:=l) fun y hy=>h y (YC9 _ hy)
   have h2:=h x (YC8 ..)
   rw[YC]
   exact Nat.mul_pos h2 h1
theorem Ye0{w:List Nat}(h:w.length≠0):w=w.take (w.length-1)++[w.getD (w.length-1) 0]:=by
 have:=Yfj (l:=w) (i:=w.length-1) (by omega)
 rw[show w.length-1+1=w.length by omega,List.take_length]at this
 exact this
theorem Ytm{w:List Nat}{i:Nat}(h:i<w.length):w=w.take i++w.getD i 0::w.drop (i+1):=by
 have h1:=List.take_append_drop i w
 have h2:w.drop i=w.getD i 0::w.drop (i+1):=by
   rw[List.drop_eq_getElem_cons h,YC1,List.getElem?_eq_getElem h];rfl
 rw[h2]at h1
 exact h1.symm
structure DrOk (B f:Nat) (wait out:List Nat):Prop where
 wp:∀x,x∈wait->1<=x/\x<=1099511627776
 op:∀x,x∈out->2<=x/\x<=1099511627776
 pb:Yx (YC out*YC wait)<=B
 mu:3*Yx (YC out*YC wait)+wait.length<=f
theorem DrOk.pop{B f:Nat}{wait out:List Nat}(h:DrOk B f wait out)(hw:wait.length≠0)(h1:wait.getD (wait.length-1) 0=1):∃g,f=g+1/\DrOk B g (wait.take (wait.length-1)) out:=by
 have hm:=h.mu
 have hpb:=h.pb
 refine⟨f-1,by omega,?_⟩
 have e:=Ye0 hw
 have e2:YC wait=YC (wait.take (wait.length-1)):=by
   conv=>lhs;rw[e]
   rw[Yap,h1];simp [YC]
 refine⟨fun x hx=>h.wp x (List.mem_of_mem_take hx),h.op,by rw[<-e2];exact hpb,?_⟩
 rw[<-e2,YDj]
 omega
theorem DrOk.push{B f:Nat}{wait out:List Nat}(h:DrOk B f wait out)(hw:wait.length≠0)(h1:wait.getD (wait.length-1) 0≠1):∃g,f=g+1/\DrOk B g (wait.take (wait.length-1)) (out++[wait.getD (wait.length-1) 0]):=by
 have hm:=h.mu
 have hn:=h.wp _ (YK (l:=wait) (i:=wait.length-1) (by omega))
 have hn':1<=wait.getD (wait.length-1) 0/\wait.getD (wait.length-1) 0<=1099511627776:=hn
 have hpb:=h.pb
 have e:=Ye0 hw
 have e2:YC out*YC wait=YC (out++[wait.getD (wait.length-1) 0])*YC (wait.take (wait.length-1)):=by
   conv=>lhs;rw[e]
   rw[Yap,Yap]
   simp only[YC,Nat.mul_one]
   rw[YDq (YC (wait.take _)),Nat.mul_assoc]
 refine⟨f-1,by omega,⟨fun x hx=>h.wp x (List.mem_of_mem_take hx),fun x hx=>?_,by rw[<-e2];exact hpb,?_⟩⟩
 . rcases YDu.1 hx with hx|hx
   . exact h.op x hx
   . rw[List.mem_singleton]at hx
     subst hx
     omega
 rw[<-e2,YDj]
 omega
theorem YnA{a b:Nat}(h:a<=b):Yx a<=Yx b:=bitsN_le.2 (Nat.lt_of_le_of_lt h (YfD b))
theorem DrOk.hit{B f:Nat}{wait out:List Nat}(h:DrOk B f wait out)(hw:wait.length≠0){i:Nat}(hi:i<out.length)(hg:1<YDw (out.getD i 0) (wait.getD (wait.length-1) 0)):
   ∃g,f=g+1/\DrOk B g (wait.take (wait.length-1)++[YDw (out.getD i 0) (wait.getD (wait.length-1) 0),out.getD i 0/YDw (out.getD i 0) (wait.getD (wait.length-1) 0),wait.getD (wait.length-1) 0/YDw (out.getD i 0) (wait.getD (wait.length-1) 0)]) (out.take i++out.drop (i+1)):=by
 have hm:=h.mu
 have hn:1<=wait.getD (wait.length-1) 0/\wait.getD (wait.length-1) 0<=1099511627776:=h.wp _ (YK (l:=wait) (i:=wait.length-1) (by omega))
 have hb:2<=out.getD i 0/\out.getD i 0<=1099511627776:=h.op _ (YK (l:=out) (i:=i) hi)
 have e:=Ye0 hw
 have e':=Ytm hi
 generalize wait.getD (wait.length-1) 0=n at*
 generalize out.getD i 0=b at*
 have d1:=Nat.gcd_dvd_left b n
 have d2:=Nat.gcd_dvd_right b n
 generalize YDw b n=g at*
 obtain⟨b1,rfl⟩:=d1
 obtain⟨n1,rfl⟩:=d2
 rw[Nat.mul_div_cancel_left _ (by omega),Nat.mul_div_cancel_left _ (by omega)]
 have hb1:1<=b1:=Nat.pos_of_ne_zero fun hh=>by rw[hh,Nat.mul_zero]at hb;omega
 have hn1:1<=n1:=Nat.pos_of_ne_zero fun hh=>by rw[hh,Nat.mul_zero]at hn;omega
 have gb:g<=g*b1:=Nat.le_mul_of_pos_right _ hb1
 have bb:b1<=g*b1:=Nat.le_mul_of_pos_left _ (by omega)
 have nb:n1<=g*n1:=Nat.le_mul_of_pos_left _ (by omega)
 have hpt:1<=YC (out.take i++out.drop (i+1))*YC (wait.take (wait.length-1)):=by
   refine Nat.mul_pos (Ygw fun x hx=>?_) (Ygw fun x hx=>(h.wp x (List.mem_of_mem_take hx)).1)
   rcases YDu.1 hx with hx|hx
   . have:=(h.op x (List.mem_of_mem_take hx)).1;omega
   . have:=(h.op x (List.mem_of_mem_drop hx)).1;omega
 have eP:YC out*YC wait=g*(YC (out.take i++out.drop (i+1))*YC (wait.take (wait.length-1)++[g,b1,n1])):=by
   conv=>lhs;rw[e,e']
   simp only[Yap,YC,Nat.mul_one]
   generalize YC (out.take i)=A
   generalize YC (out.drop (i+1))=B
   generalize YC (wait.take (wait.length-1))=C
   simp only[Nat.mul_assoc,Nat.mul_left_comm,YDq]
 have hp1:1<=YC (out.take i++out.drop (i+1))*YC (wait.take (wait.length-1)++[g,b1,n1]):=by
   rw[Yap (wait.take _),<-Nat.mul_assoc]
   refine Nat.mul_pos hpt ?_
   simp only[YC,Nat.mul_one]
   exact Nat.mul_pos (by omega) (Nat.mul_pos hb1 hn1)
 have hP:Yx (YC (out.take i++out.drop (i+1))*YC (wait.take (wait.length-1)++[g,b1,n1]))+1<=Yx (YC out*YC wait):=by
   generalize hQ:YC (out.take i++out.drop (i+1))*YC (wait.take (wait.length-1)++[g,b1,n1])=Q at*
   rw[eP]
   have h2:2*Q<=g*Q:=YDh _ (by omega)
   have h3:=Yhd (a:=g*Q) (by omega)
   have h4:Yx Q<=Yx (g*Q/2):=YnA (by omega)
   omega
 have hpb:=h.pb
 refine⟨f-1,by omega,⟨fun x hx=>?_,fun x hx=>?_,by omega,?_⟩⟩
 . rcases YDu.1 hx with hx|hx
   . exact h.wp x (List.mem_of_mem_take hx)
   . simp only[YDc,List.not_mem_nil,or_false]at hx
     rcases hx with rfl|rfl|rfl <;> omega
 . rcases YDu.1 hx with hx|hx
   . exact h.op x (List.mem_of_mem_take hx)
   . exact h.op x (List.mem_of_mem_drop hx)
 . rw[YDo,YDj]
   simp only[YDt,List.length_nil]
   omega
theorem Yo8(a b:Nat):Yx (a*b)<=Yx a+Yx b:=by
 rw[bitsN_le,YDx]
 exact Nat.mul_lt_mul_of_lt_of_le (YfD a) (Nat.le_of_lt (YfD b)) (YaT _)
theorem DrOk.start{i N:Nat}{out:List Nat}(hN0:1<=N)(hN1:N<=1000000000001)(ho:∀x,x∈out->2<=x/\x<=1099511627776)(hb:Yx (YC out)<=40*i+1)(hi:i<20):DrOk (40*(i+1)+1) 3000 [N] out:=by
 have h1:Yx N<=40:=bitsN_le.2 (by omega)
 have h2:Yx (YC out*YC [N])<=40*(i+1)+1:=by
   have:=Yo8 (YC out) (YC [N])
   have e:YC [N]=N:=by simp [YC]
   rw[e]at this⊢
   omega
 refine⟨fun x hx=>?_,ho,h2,?_⟩
 . rw[List.mem_singleton]at hx
   subst hx
   omega
 . simp only[YDt,List.length_nil]
   omega
def v105:VF:=⟨73,[.tmp 2],(ZR [u1 2 .mov [.cn .nil]] (ZR [u1 3 .mov [.cn .nil]] (.seq (ZR [Zm 11 0,Zl 12 11,Zi 13 0] (.block 0 (.loop (ZR [Zr 14 .lss 13 12] (.seq (ZC 14 .skip (.exit 0)) (.seq (.block 1 (ZR [Zx 15 2 11 13,Zt 16 2 15,Zn 5,Zs 2 5 16] (.scope (ZR [Za 17 0 5,Zf 18 1 17,u1 19 (.buildSlice 1 1 [(.int .i64 0)] [(0,1)]) [.tm 18],Zm 6 19] (.seq .skip (.block 2 (.loop (.seq (ZR [Zm 20 6,Zl 21 20,Zq 22 .gtr 21 0] (ZC 22 .skip (.exit 2))) (.block 3 (ZR [Zm 23 6,Zm 24 6,Zl 25 24,u1 26 (.ari .sub) [.tm 25,.cn (.int .i64 1)],Zx 27 1 23 26,Zf 28 1 27,Zm 7 28] (ZR [Zm 29 6,Zm 30 6,Zl 31 30,u1 32 (.ari .sub) [.tm 31,.cn (.int .i64 1)],u1 33 (.slice 1 false true) [.tm 29,.tm 32],Zm 6 33] (.seq (ZR [Zm 34 7,Zq 35 .eql 34 1] (ZC 35 (.exit 3) .skip)) (.seq (ZR [Zm 36 3,Zl 37 36,Zi 38 0] (.block 4 (.loop (ZR [Zr 39 .lss 38 37] (.seq (ZC 39 .skip (.exit 4)) (.seq (.block 5 (ZR [Zm 40 38,Zx 41 1 36 38,Zf 42 1 41,Zm 8 40,Zm 9 42] (ZR [Zm 43 9,Zm 44 7,Zd 45 116 43 44,Zm 10 45] (ZR [Zm 46 10,Zq 47 .gtr 46 1] (ZC 47 (.seq (.draw [] [Zu 48 3,Zu 49 8,w1 50 (.slice 1 false true) [.tm 48,.tm 49],Zu 51 3,Zu 52 8,w1 53 (.ari .add) [.tm 52,.cn (.int .i64 1)],w1 54 (.slice 1 true false) [.tm 51,.tm 53],w1 55 (.append 1 8 [(.int .i64 0)]) [.tm 50,.tm 54],Zu 3 55]) (.seq (.draw [] [Zu 56 6,Zu 57 10,Zu 58 9,Zu 59 10,w1 60 .quo [.tm 58,.tm 59],Zu 61 7,Zu 62 10,w1 63 .quo [.tm 61,.tm 62],w1 64 (.buildSlice 1 3 [(.int .i64 0)] [(0,1),(1,1),(2,1)]) [.tm 57,.tm 60,.tm 63],w1 65 (.append 1 8 [(.int .i64 0)]) [.tm 56,.tm 64],Zu 6 65]) (.exit 3))) .skip))))) (.region [Zp 66 38 1,Zm 38 66]))))))) (.region [Zm 67 3,Zm 68 7,u1 69 (.buildSlice 1 1 [(.int .i64 0)] [(0,1)]) [.tm 68],u1 70 (.append 1 8 [(.int .i64 0)]) [.tm 67,.tm 69],Zm 3 70])))))))))))))) (.region [Zp 71 13 1,Zm 13 71]))))))) (ZR [Zm 72 3,Zm 2 72] .ret))))⟩
theorem Yxc:Yg YCX Tryz.f105=some v105:=by kernel_rfl
def baseC:Ctr:={ alias:=false,of:=fun l=>match l with
 | [.vs _ _ n sz get]=> .ex (List (Int×Int)) fun l=> .pre (lsP 2 enc2 n sz get l/\(∀x,x∈l->okT x)/\n<=20) (.all Bool fun y=> .fin (.vs true y (Ylq l).length 1 (fun k=>encB ((Ylq l).getD k 0))) [])
 |_=>noC}
def RA8:Env:={ ct:=fun n=>match n with|116=>some gcdC|_=>none,fn:=fun _=>none,meth:=fun _ _=>none}
theorem Yjt:RA8.ct 116=some gcdC:=rfl
theorem Yyg:Yo YCX RA8:=by
 refine⟨fun f c h=>?_,fun f vf h=>?_,(fun _ _ _ h=>by cases h),by kernel_rfl,(fun _ h=>by cases h)⟩
 . simp only[RA8]at h
   split at h
   . cases h;exact⟨Yvy,Tryz.f116,Tryz.func116,by kernel_rfl,by kernel_rfl⟩
   . cases h
 . cases h
structure DSt where
 f:Nat
 W:List Nat
 n:Nat
 out:List Nat
 yw:Bool
 yo:Bool
theorem YpB{f:Nat}:∀{wait out:List Nat},(YdI f wait out).length<=out.length+f:=by
 induction f with
 |zero=>intro wait out;rw[YdI];omega
 |succ f ih=>
   intro wait out
   rw[YdI]
   split
   . omega
   . split
     . have:= @ih (wait.take (wait.length-1)) out;omega
     . split
       . rename_i hh
         refine YDp ih ?_
         rw[YDo,YDj,List.length_drop]
         omega
       . refine YDp ih ?_
         rw[YDo]
         simp only[YDt,List.length_nil]
         omega
theorem Yze:baseC.ok YCX 105:=by
 refine Yb Tryz.func105 Yxc Yyg 800 baseC fun args k h=>?_
 simp only[baseC]at h
 split at h
 . rename_i tt z n sz get
   obtain⟨l,⟨⟨rfl,rfl,hg⟩,hl,hn⟩,h⟩:=h
   refine⟨[.vs tt z l.length 2 (fun k=>enc2 (l.getD k default))],⟨⟨id,rfl,rfl,rfl,hg⟩,trivial⟩,?_⟩
   dsimp only[v105,enc2,go_sem,reduceIte]
   simp only[Yd,YCS,YCU,reduceCtorEq,YCT]
   refine Loop.keep [0,10,0] (Nat×List Nat×Bool) (fun s=>[(3,.own 0 0 s.2.1.length 1),(13,.int .i64 s.1)]) (fun s=>[(0,.own s.2.2 1 s.2.1.length (fun k=>encB (s.2.1.getD k 0)))]) [.gone] (fun s=>s.1<=l.length/\s.2.1=(l.take s.1).foldl Ycy []/\(∀x,x∈s.2.1->2<=x/\x<=1099511627776)/\Yx (YC s.2.1)<=40*s.1+1/\s.2.1.length<=3000*s.1/\(s.2.2=true->s.2.1.length=0)) (fun s=>l.length-s.1) ?_ ?_
   . refine⟨(0,[],true),⟨by simp only;omega,rfl,⟨fun x hx=>absurd hx (by simp),by decide,YC2 _,fun _=>rfl⟩⟩,?_⟩
     dsimp only[List.length_nil,go_sem,reduceIte]
     simp only[Ya]
     simp
   . rintro⟨i,out,yo⟩ ⟨hi,hG,hok,hbp,hlen,hyo⟩
     dsimp only at hi hG hok hbp hlen hyo
     dsimp only[enc2,YCY,go_sem,reduceIte]
     simp only[Yd,YCS,YCU,reduceCtorEq,YCT]
     refine⟨fun hlt=>?_,fun hge=>?_⟩
     . have hx:=hl _ (YK (by omega:i<l.length))
       have hstep:(l.take (i+1)).foldl Ycy []=Ycy out (l.getD i default):=by
         rw[YH (by omega),<-hG]
       generalize l.getD i default=x at hx hstep⊢
       obtain⟨q0,q1,q2,q3⟩:=hx
       obtain⟨N,hN⟩:∃N:Nat,x.1=(N:Int):=⟨x.1.toNat,by omega⟩
       have hR:Ycy out x=YdI 3000 [N] out:=by rw[Ycy,hN,YCY]
       obtain⟨R,hRR⟩:∃R,R=Ycy out x:=⟨_,rfl⟩
       rw[<-hRR]at hR hstep
       rw[hN]
       have hmu:DrOk (40*(i+1)+1) 3000 [N] out:=DrOk.start (by omega) (by omega) hok hbp (by omega)
       refine⟨⟨by omega,by omega⟩,by decide,?_⟩
       refine Loop.keep [0,10,0,0] DSt (fun s=>[(3,.own 0 0 s.out.length 1),(6,.own 2 0 s.n 1)]) (fun s=>[(0,.own s.yo 1 s.out.length (fun k=>encB (s.out.getD k 0))),(2,.own s.yw 1 s.W.length (fun k=>encB (s.W.getD k 0)))]) [] (fun s=>s.n<=s.W.length/\DrOk (40*(i+1)+1) s.f (s.W.take s.n) s.out/\R=YdI s.f (s.W.take s.n) s.out/\s.out.length+s.f<=3000*(i+1)/\(s.yo=true->s.out.length=0)) (fun s=>s.f) ?_ ?_
       . refine⟨⟨3000,[N],1,out,false,yo⟩,⟨YC2 _,hmu,hR,by simp only;omega,hyo⟩,?_⟩
         dsimp only[List.length_nil,YDt,go_sem,reduceIte]
         simp only[Ya]
         refine⟨by decide,fun k hk=>⟨⟨rfl,rfl⟩,trivial⟩,fun k hk=>?_⟩
         obtain rfl:k=0:=by omega
         exact⟨⟨rfl,rfl⟩,trivial⟩
       . rintro⟨f,W,n,out,yw,yo⟩ ⟨hnW,hmu,hR,hlen,hyo⟩
         dsimp only at hnW hmu hR hlen hyo
         dsimp only[Yjt,gcdC,encB,YCY,go_sem,reduceIte]
         simp only[Yd,YCS,YCU,reduceCtorEq,YCT]
         have hwl:(W.take n).length=n:=by rw[YDj];omega
         refine⟨fun hpos=>?_,fun hz=>?_⟩
         . have hwn:(W.take n).length≠0:=by omega
           have hgl:(W.take n).getD ((W.take n).length-1) 0=W.getD (n-1) 0:=by
             rw[hwl,YC1,YC1,YDn,if_pos (by omega)]
           have htl:(W.take n).take ((W.take n).length-1)=W.take (n-1):=by
             rw[hwl,List.take_take];congr 1;omega
           obtain⟨g,rfl⟩:∃g,f=g+1:=⟨f-1,by have:=hmu.mu;omega⟩
           have hnf:n<=70000:=by have:=hmu.mu;omega
           rw[YM (by omega) (by omega),YCY]
           rw[YdI,if_neg hwn,hgl,htl]at hR
           obtain⟨v,hv⟩:∃v,v=W.getD (n-1) 0:=⟨_,rfl⟩
           have hvr:1<=v/\v<=1099511627776:=by
             have:=hmu.wp _ (YK (l:=W.take n) (i:=(W.take n).length-1) (by omega))
             rw[show(W.take n).getD ((W.take n).length-1) default=W.getD (n-1) 0 from hgl,<-hv]at this
             exact this
           refine⟨⟨by omega,by omega⟩,by omega,⟨by omega,by omega⟩,fun h1=>?_,fun h1=>?_⟩
           . have h1':W.getD (n-1) 0=1:=by omega
             obtain⟨g',hg',hd⟩:=hmu.pop hwn (by rw[hgl];exact h1')
             obtain rfl:g=g':=by omega
             rw[if_pos h1']at hR
             rw[htl]at hd
             refine⟨⟨g,W,n-1,out,yw,yo⟩,⟨by simp only;omega,hd,hR,by simp only;omega,hyo⟩,by simp only;omega,?_⟩
             simp only[Ya]
             exact⟨by decide,by decide⟩
           . have h1':W.getD (n-1) 0≠1:=by omega
             rw[if_neg h1']at hR
             rw[<-hv]at hR h1'⊢
             refine Loop.keep [0,2,2,0,3,0,0,22,0] Nat (fun t=>[(38,.int .i64 t)]) (fun t=>[]) [] (fun t=>t<=out.length/\∀j,j<t->¬1<YDw (out.getD j 0) v) (fun t=>out.length-t) ?_ ?_
             . refine⟨0,⟨by omega,fun j hj=>by omega⟩,?_⟩
               dsimp only[go_sem,reduceIte]
               simp only[Ya]
               exact⟨by decide,by decide,by decide,rfl⟩
             . rintro t ⟨ht,hno⟩
               dsimp only[Yjt,gcdC,encB,YCY,go_sem,reduceIte]
               simp only[Yd,YCS,YCU,reduceCtorEq,YCT]
               refine⟨fun hlt2=>?_,fun hge2=>?_⟩
               . have hb:2<=out.getD t 0/\out.getD t 0<=1099511627776:=hmu.op _ (YK (l:=out) (i:=t) (by omega))
                 have w1:IntKind.i64.wrap ((t:Int)+1)=((t+1:Nat):Int):=by rw[YCW _ (by omega)];simp
                 rw[w1,YCY]
                 refine⟨⟨by omega,by omega⟩,by omega,out.getD t 0,v,⟨rfl,rfl,by omega,by omega⟩,fun hgt=>?_,fun hng=>?_⟩
                 . have hgt':1<YDw (out.getD t 0) v:=by omega
                   have hh:hitF out v=t:=Yku (fun j hj=>decide_eq_false (hno j hj)) (by omega) (fun _=>decide_eq_true hgt')
                   obtain⟨g',hg',hd⟩:=hmu.hit hwn (i:=t) (by omega) (by rw[hgl,<-hv];exact hgt')
                   obtain rfl:g=g':=by omega
                   rw[hh,if_pos (by omega)]at hR
                   rw[hgl,htl,<-hv]at hd
                   obtain⟨b,hbd⟩:∃b,b=out.getD t 0:=⟨_,rfl⟩
                   rw[<-hbd]at hR hd hb hgt hgt'⊢
                   obtain⟨G,hG'⟩:∃G,G=YDw b v:=⟨_,rfl⟩
                   rw[<-hG']at hR hd hgt hgt'⊢
                   have e1:IntKind.i64.wrap ((b:Int).tdiv (G:Int))=((b/G:Nat):Int):=by
                     have:(b:Int).tdiv (G:Int)=((b/G:Nat):Int):=IntWalk.up_tdiv rfl rfl
                     have h2:b/G<=b:=Nat.div_le_self _ _
                     rw[this]
                     generalize b/G=q at h2⊢
                     exact YCW _ (by omega)
                   have e2:IntKind.i64.wrap ((v:Int).tdiv (G:Int))=((v/G:Nat):Int):=by
                     have:(v:Int).tdiv (G:Int)=((v/G:Nat):Int):=IntWalk.up_tdiv rfl rfl
                     have h2:v/G<=v:=Nat.div_le_self _ _
                     rw[this]
                     generalize v/G=q at h2⊢
                     exact YCW _ (by omega)
                   rw[e1,e2]
                   have hsub:Yjf out.length (t+1)=out.length-(t+1):=by unfold Yjf;rfl
                   rw[hsub]
                   have hWt:(W.take (n-1)++[G,b/G,v/G]).length=n-1+3:=by rw[YDo,YDj];simp only[YDt,List.length_nil];omega
                   have hol:(out.take t++out.drop (t+1)).length=t+(out.length-(t+1)):=by rw[YDo,YDj,List.length_drop];omega
                   refine⟨⟨by omega,by omega⟩,⟨by omega,by omega⟩,by unfold YW;omega,by omega,by omega,by decide,⟨by unfold YW;omega,fun k hk=>?_⟩,⟨g,W.take (n-1)++[G,b/G,v/G],n-1+3,out.take t++out.drop (t+1),yw&&decide False,yo&&decide (out.length-(t+1)=0)⟩,⟨?_,?_,?_,?_,?_⟩,by simp only;omega,?_⟩
                   . match k,hk with
                     |0,_=>exact⟨rfl,trivial,trivial⟩
                     |1,_=>exact⟨rfl,trivial,trivial⟩
                     |2,_=>exact⟨rfl,trivial,trivial⟩
                   . simp only;omega
                   . simp only;rw[<-hWt,List.take_length];exact hd
                   . simp only;rw[<-hWt,List.take_length];exact hR
                   . simp only;omega
                   . simp only
                     intro hy
                     rw[YC0]at hy
                     have:=hyo hy.1
                     omega
                   . simp only[hol,hWt]
                     simp only[Ya]
                     refine⟨by decide,fun k hk=>?_,fun k hk=>?_⟩
                     . rw[Ydb]
                       by_cases hkt:k<t
                       . rw[if_pos hkt,YC1 (l:=_++_),YDi (by rw[YDj];omega),YDn,if_pos hkt,<-YC1]
                         exact⟨⟨rfl,rfl⟩,trivial⟩
                       . rw[if_neg hkt,YC1 (l:=_++_),List.getElem?_append_right (by rw[YDj];omega),YDj,List.getElem?_drop,<-YC1,show t+1+(k-min t out.length)=t+1+(k-t)by omega]
                         exact⟨⟨rfl,rfl⟩,trivial⟩
                     . by_cases hkt:k<n-1
                       . rw[if_pos hkt,YC1 (l:=_++_),YDi (by rw[YDj];omega),YDn,if_pos hkt,<-YC1]
                         exact⟨⟨rfl,rfl⟩,trivial⟩
                       . rw[if_neg hkt,YC1 (l:=_++_),List.getElem?_append_right (by rw[YDj];omega),YDj,show k-min (n-1) W.length=k-(n-1)by omega]
                         obtain⟨q,hq⟩:∃q,q=k-(n-1):=⟨_,rfl⟩
                         rw[<-hq]
                         have hq3:q<3:=by omega
                         match q,hq3 with
                         |0,_=>exact⟨⟨rfl,rfl⟩,trivial⟩
                         |1,_=>exact⟨⟨rfl,rfl⟩,trivial⟩
                         |2,_=>exact⟨⟨rfl,rfl⟩,trivial⟩
                 . refine⟨t+1,⟨by omega,fun j hj=>?_⟩,by omega,?_⟩
                   . rcases YC4 j t with h'|h'
                     . exact hno j h'
                     . obtain rfl:j=t:=by omega
                       exact fun hh=>hng (by omega)
                   . simp only[Ya]
                     exact⟨by decide,by decide,by decide⟩
               . obtain rfl:t=out.length:=by omega
                 have hh:hitF out v=out.length:=Yku (fun j hj=>decide_eq_false (hno j hj)) (YC2 _) (fun hlt=>absurd hlt (Nat.lt_irrefl _))
                 obtain⟨g',hg',hd⟩:=hmu.push hwn (by rw[hgl,<-hv];exact h1')
                 obtain rfl:g=g':=by omega
                 rw[hh,if_neg (Nat.lt_irrefl _)]at hR
                 rw[hgl,htl,<-hv]at hd
                 have hol:(out++[v]).length=out.length+1:=by rw[YDo];rfl
                 refine⟨by decide,⟨by unfold YW;omega,fun k hk=>?_⟩,⟨g,W,n-1,out++[v],yw,yo&&decide False⟩,⟨by simp only;omega,hd,hR,by simp only;omega,?_⟩,by simp only;omega,?_⟩
                 . obtain rfl:k=0:=by omega
                   exact⟨rfl,trivial,trivial⟩
                 . simp
                 . simp only[hol]
                   simp only[Ya]
                   refine⟨by decide,fun k hk=>?_⟩
                   by_cases hkt:k<out.length
                   . rw[if_pos hkt,YC1 (l:=_++_),YDi hkt,<-YC1]
                     exact⟨⟨rfl,rfl⟩,trivial⟩
                   . obtain rfl:k=out.length:=by omega
                     rw[if_neg hkt,YC1 (l:=_++_),List.getElem?_append_right (YC2 _),Nat.sub_self]
                     exact⟨⟨rfl,rfl⟩,trivial⟩
         . obtain rfl:n=0:=by omega
           rw[List.take_zero]at hR hmu
           have hRo:R=out:=by
             rw[hR]
             cases f with
             |zero=>rfl
             |succ f=>rw[YdI,if_pos List.length_nil]
           have hpb:=hmu.pb
           rw[show YC out*YC []=YC out from Nat.mul_one _]at hpb
           refine⟨(i+1,out,yo),⟨by simp only;omega,by rw[hstep,hRo],hmu.op,hpb,by simp only;omega,hyo⟩,by simp only;omega,?_⟩
           rw[YCW ((i:Int)+1) (by omega)]
           simp only[Ya]
           exact⟨by decide,by simp⟩
     . obtain rfl:i=l.length:=by omega
       rw[List.take_length]at hG
       have hG:Ylq l=out:=hG.symm
       rw[hG]at h
       refine YE (show k (.vs true yo out.length 1 (fun k=>encB (out.getD k 0))) []from h yo) ?_ (fun _=>by simp [Ym,encB,Yp])
       have e:expo [HO.own yo 1 out.length fun k=>encB (out.getD k 0)] (SV.own 0 0 out.length 1)= .vs true yo out.length 1 (fun k=>encB (out.getD k 0)):=by
         simp [expo,view,YaX,viewN,getH,Ylf,encB]
       rw[e]
       exact YA _ trivial
 . exact h.1.elim
def v85:VF:=⟨39,[.tmp 2],(ZR [u1 2 .mov [.cn (.bool false)]] (.seq (ZR [Zm 9 0,Zc 10 105 9,Zl 11 10,Zi 12 0] (.block 0 (.loop (ZR [Zr 13 .lss 12 11] (.seq (ZC 13 .skip (.exit 0)) (.seq (.block 1 (ZR [Zx 14 1 10 12,Zf 15 1 14,Zm 4 15] (ZR [Zi 5 0] (.seq (ZR [Zm 16 0,Zl 17 16,Zi 18 0] (.block 2 (.loop (ZR [Zr 19 .lss 18 17] (.seq (ZC 19 .skip (.exit 2)) (.seq (.block 3 (ZR [Zx 20 2 16 18,Zt 21 2 20,Zn 7,Zs 2 7 21] (ZR [Za 22 0 7,Zf 23 1 22,Zm 8 23] (.block 4 (.loop (.seq (ZR [Zm 24 8,Zm 25 4,u1 26 .rem [.tm 24,.tm 25],Zq 27 .eql 26 0] (ZC 27 .skip (.exit 4))) (.seq (.block 5 (.region [Zm 31 5,Za 32 1 7,Zf 33 1 32,Zo 34 .add 31 33,Zm 5 34])) (.region [Zm 28 8,Zm 29 4,u1 30 .quo [.tm 28,.tm 29],Zm 8 30])))))))) (.region [Zp 35 18 1,Zm 18 35]))))))) (ZR [Zm 36 5,Zq 37 .neq 36 0] (ZC 37 (ZR [u1 2 .mov [.cn (.bool false)]] .ret) .skip)))))) (.region [Zp 38 12 1,Zm 12 38]))))))) (ZR [u1 2 .mov [.cn (.bool true)]] .ret)))⟩
theorem YCw:Yg YCX Tryz.f85=some v85:=by kernel_rfl
def divL:Nat->Int->Int->Int->Int->Int
 |0,_,_,_,s=>s
 |f+1,b,n,num,s=>if n.tmod b=0 then divL f b (IntKind.i64.wrap (n.tdiv b)) num (IntKind.i64.wrap (s+num))else s
def sumB(l:List (Int×Int))(b:Nat):Int:=l.foldl (fun s x=>divL 64 b x.1 x.2 s) 0
def oneF(l:List (Int×Int)):Bool:=(Ylq l).all fun b=>decide (sumB l b=0)
theorem Yeg{B:Nat}:∀{f:Nat}{wait out:List Nat},DrOk B f wait out->(∀x,x∈YdI f wait out->2<=x/\x<=1099511627776)/\Yx (YC (YdI f wait out))<=B
 |0,wait,out,h=>by
   rw[YdI]
   have hw:wait=[]:=List.length_eq_zero_iff.1 (by have:=h.mu;omega)
   have:=h.pb
   rw[hw,show YC out*YC []=YC out from Nat.mul_one _]at this
   exact⟨h.op,this⟩
 |f+1,wait,out,h=>by
   rw[YdI]
   by_cases hw:wait.length=0
   . rw[if_pos hw]
     have hw:wait=[]:=List.length_eq_zero_iff.1 hw
     have:=h.pb
     rw[hw,show YC out*YC []=YC out from Nat.mul_one _]at this
     exact⟨h.op,this⟩
   . rw[if_neg hw]
     by_cases h1:wait.getD (wait.length-1) 0=1
     . rw[if_pos h1]
       obtain⟨g,hg,hd⟩:=h.pop hw h1
       obtain rfl:f=g:=by omega
       exact Yeg hd
     . rw[if_neg h1]
       by_cases h2:hitF out (wait.getD (wait.length-1) 0)<out.length
       . rw[if_pos h2]
         have hs:=(YdQ (f:=fun i=>decide (1<YDw (out.getD i 0) (wait.getD (wait.length-1) 0))) out.length 0).2.2.2 (by simpa [hitF]using h2)
         obtain⟨g,hg,hd⟩:=h.hit hw h2 (of_decide_eq_true hs)
         obtain rfl:f=g:=by omega
         exact Yeg hd
       . rw[if_neg h2]
         obtain⟨g,hg,hd⟩:=h.push hw h1
         obtain rfl:f=g:=by omega
         exact Yeg hd
theorem Yo5{l:List (Int×Int)}(hl:∀x,x∈l->okT x)(hn:l.length<=20):∀x,x∈Ylq l->2<=x/\x<=1099511627776:=by
 have key:∀i,i<=l.length->(∀x,x∈(l.take i).foldl Ycy []->2<=x/\x<=1099511627776)/\Yx (YC ((l.take i).foldl Ycy []))<=40*i+1:=fun i=>by
   induction i with
   |zero=>exact fun _=>⟨fun x hx=>absurd hx (by simp),by simp [YC];decide⟩
   |succ i ih=>
     intro hi
     obtain⟨h1,h2⟩:=ih (by omega)
     have hx:=hl _ (YK (by omega:i<l.length))
     rw[YH (by omega)]
     obtain⟨q0,q1,q2,q3⟩:=hx
     exact Yeg (DrOk.start (by omega) (by omega) h1 h2 (by omega))
 have:=(key l.length (YC2 _)).1
 rwa [List.take_length]at this
theorem Yo4(l:List (Int×Int)):(Ylq l).length<=3000*l.length:=by
 have key:∀(l:List (Int×Int))(out:List Nat),(l.foldl Ycy out).length<=out.length+3000*l.length:=fun l=>by
   induction l with
   |nil=>intro out;simp
   |cons x l ih=>
     intro out
     have h1:=ih (Ycy out x)
     have h2:(Ycy out x).length<=out.length+3000:=YpB
     rw[List.foldl_cons,YDt]
     omega
 have h:=key l []
 rw[List.length_nil,Nat.zero_add]at h
 exact h
def oneC:Ctr:={ alias:=false,of:=fun l=>match l with
 | [.vs _ _ n sz get]=> .ex (List (Int×Int)) fun l=> .pre (lsP 2 enc2 n sz get l/\(∀x,x∈l->okT x)/\n<=20) (.fin (.bool (oneF l)) [])
 |_=> .pre False (.fin (.bool false) [])}
def RA9:Env:={ ct:=fun n=>match n with|105=>some baseC|_=>none,fn:=fun _=>none,meth:=fun _ _=>none}
theorem Yju:RA9.ct 105=some baseC:=rfl
theorem Yyh:Yo YCX RA9:=by
 refine⟨fun f c h=>?_,fun f vf h=>?_,(fun _ _ _ h=>by cases h),by kernel_rfl,(fun _ h=>by cases h)⟩
 . simp only[RA9]at h
   split at h
   . cases h;exact⟨Yze,Tryz.f105,Tryz.func105,by kernel_rfl,by kernel_rfl⟩
   . cases h
 . cases h
theorem Yv8:oneC.ok YCX 85:=by
 refine Yb Tryz.func85 YCw Yyh 500 oneC fun args k h=>?_
 simp only[oneC]at h
 split at h
 . rename_i tt z n sz get
   obtain⟨l,⟨⟨rfl,rfl,hg⟩,hl,hn⟩,h⟩:=h
   refine⟨[.vs tt z l.length 2 (fun k=>enc2 (l.getD k default))],⟨⟨id,rfl,rfl,rfl,hg⟩,trivial⟩,?_⟩
   dsimp only[v85,Yju,baseC,enc2,go_sem,reduceIte]
   simp only[Yd,YCS,YCU,reduceCtorEq,YCT]
   refine⟨l,⟨⟨rfl,rfl,fun k hk=>Ye _⟩,hl,hn⟩,fun y=>?_⟩
   have hbr:=Yo5 hl hn
   have hbl:=Yo4 l
   obtain⟨B,hB⟩:∃B,B=Ylq l:=⟨_,rfl⟩
   rw[<-hB]at hbr hbl⊢
   have hone:oneF l=B.all fun b=>decide (sumB l b=0):=by rw[hB];rfl
   refine Loop.keep [0,9,0] Nat (fun i=>[(12,.int .i64 i)]) (fun _=>[]) [] (fun i=>i<=B.length/\((B.take i).all fun b=>decide (sumB l b=0))=true) (fun i=>B.length-i) ?_ ?_
   . refine⟨0,⟨by omega,rfl⟩,?_⟩
     dsimp only[go_sem,reduceIte]
     simp only[Ya]
     rfl
   . rintro i ⟨hi,hall⟩
     dsimp only[Yju,baseC,encB,enc2,YCY,go_sem,reduceIte]
     simp only[Yd,YCS,YCU,reduceCtorEq,YCT]
     refine⟨fun hlt=>⟨⟨by omega,by omega⟩,?_⟩,fun hge=>?_⟩
     . have hb:2<=B.getD i 0/\B.getD i 0<=1099511627776:=hbr _ (YK (l:=B) (i:=i) (by omega))
       have hsucc:((B.take (i+1)).all fun b=>decide (sumB l b=0))=decide (sumB l (B.getD i 0)=0):=by
         rw[Yjh (by omega),hall,Bool.true_and];rfl
       have hmemb:B.getD i 0∈B:=YK (l:=B) (i:=i) (by omega)
       obtain⟨b,hbe⟩:∃b,b=B.getD i 0:=⟨_,rfl⟩
       rw[<-hbe]at hb hsucc hmemb⊢
       refine Loop.keep [0,3,5,0,0,3,0] (Nat×Int) (fun s=>[(5,.int .i64 s.2),(18,.int .i64 s.1)]) (fun _=>[]) [] (fun s=>s.1<=l.length/\s.2=(l.take s.1).foldl (fun s x=>divL 64 b x.1 x.2 s) 0) (fun s=>l.length-s.1) ?_ ?_
       . refine⟨(0,0),⟨by simp only;omega,rfl⟩,?_⟩
         dsimp only[go_sem,reduceIte]
         simp only[Ya]
         rfl
       . rintro⟨t,S⟩ ⟨ht,hS⟩
         dsimp only at ht hS
         dsimp only[enc2,YCY,go_sem,reduceIte]
         simp only[Yd,YCS,YCU,reduceCtorEq,YCT]
         refine⟨fun hlt2=>⟨⟨by omega,by omega⟩,?_⟩,fun hge2=>?_⟩
         . have hx:=hl _ (YK (by omega:t<l.length))
           have hst:(l.take (t+1)).foldl (fun s x=>divL 64 b x.1 x.2 s) 0=divL 64 b (l.getD t default).1 (l.getD t default).2 S:=by
             rw[YH (by omega),<-hS]
           generalize l.getD t default=x at hx hst⊢
           obtain⟨q0,q1,q2,q3⟩:=hx
           obtain⟨R,hR⟩:∃R,R=divL 64 b x.1 x.2 S:=⟨_,rfl⟩
           rw[<-hR]at hst
           refine Loop.keep [0,3,2,2,0,0,3,0,0] (Nat×Int×Int) (fun s=>[(5,.int .i64 s.2.2),(8,.int .i64 s.2.1)]) (fun _=>[]) [] (fun s=>R=divL s.1 b s.2.1 x.2 s.2.2/\1<=s.2.1/\s.2.1<2^s.1/\s.2.1<=1000000000001) (fun s=>s.1) ?_ ?_
           . refine⟨(64,x.1,S),⟨hR,q0,by simp only;omega,q1⟩,?_⟩
             dsimp only[go_sem,reduceIte]
             simp only[Ya]
             decide
           . rintro⟨f,n,S'⟩ ⟨hf,n0,n1,n2⟩
             dsimp only at hf n0 n1 n2
             dsimp only[go_sem,reduceIte]
             simp only[Yd,YCS,YCU,reduceCtorEq,YCT]
             obtain⟨m,rfl⟩:=Int.eq_ofNat_of_zero_le (by omega:0<=n)
             obtain⟨g,rfl⟩:∃g,f=g+1:=by
               cases f with
               |zero=>simp at n1;omega
               |succ g=>exact⟨g,rfl⟩
             rw[divL]at hf
             refine⟨by omega,fun hc=>⟨by omega,?_⟩,fun hc=>?_⟩
             . rw[if_pos hc]at hf
               have e1:(m:Int).tmod (b:Int)=((m%b:Nat):Int):=IntWalk.up_tmod rfl rfl
               have e2:(m:Int).tdiv (b:Int)=((m/b:Nat):Int):=IntWalk.up_tdiv rfl rfl
               rw[e1]at hc
               have hdm:=Nat.div_add_mod m b
               rw[show m%b=0 by omega,Nat.add_zero]at hdm
               have hq1:1<=m/b:=Nat.pos_of_ne_zero fun hh=>by rw[hh,Nat.mul_zero]at hdm;omega
               have hq2:2*(m/b)<=m:=by
                 have:2*(m/b)<=b*(m/b):=YDh _ hb.1
                 omega
               rw[e2]at hf⊢
               generalize m/b=q at hq1 hq2 hf⊢
               have eq:IntKind.i64.wrap (q:Int)=(q:Int):=YCW _ (by omega)
               rw[eq]at hf⊢
               have n1':m<2^g*2:=by rw[<-Nat.pow_succ];exact_mod_cast n1
               refine⟨(g,q,IntKind.i64.wrap (S'+x.2)),⟨hf,by simp only;omega,?_,by simp only;omega⟩,by simp only;omega,?_⟩
               . show(q:Int)<2^g
                 have:q<2^g:=by omega
                 exact_mod_cast this
               . simp only[Ya]
                 decide
             . rw[if_neg hc]at hf
               refine⟨(t+1,S'),⟨by simp only;omega,by rw[hst,hf]⟩,by simp only;omega,?_⟩
               rw[YCW ((t:Int)+1) (by omega)]
               simp only[Ya]
               simp
         . obtain rfl:t=l.length:=by omega
           rw[List.take_length]at hS
           have hS:S=sumB l b:=hS
           refine⟨fun hc=>?_,fun hc=>⟨i+1,⟨by omega,?_⟩,by omega,?_⟩⟩
           . have:oneF l=false:=by
               rw[hone,List.all_eq_false]
               exact⟨b,hmemb,by rw[<-hS];simpa using hc⟩
             rw[this]at h
             exact Yw h
           . rw[hsucc,<-hS];exact decide_eq_true hc
           . rw[YCW ((i:Int)+1) (by omega)]
             simp only[Ya]
             simp
     . obtain rfl:i=B.length:=by omega
       rw[List.take_length]at hall
       rw[hone,hall]at h
       exact Yw h
 . exact h.1.elim
def v80:VF:=⟨39,[.tmp 2],(ZR [Zi 2 0] (.seq (ZR [Zm 9 0,Zc 10 102 9,Zm 8 10,Ze 11 0 8,Ze 12 1 8,Zm 3 11,Zm 4 12] (ZR [Zm 13 4] (ZC 13 (ZR [Zm 14 3,Zm 2 14] .ret) .skip))) (.seq (ZR [Zm 15 0,Zc 16 85 15] (ZC 16 (ZR [Zi 2 0] .ret) .skip)) (.seq (ZR [Zi 5 64] (.block 0 (.loop (.seq (ZR [Zm 17 5,Zq 18 .leq 17 2048] (ZC 18 .skip (.exit 0))) (.seq (.block 1 (ZR [Zm 22 0,Zm 23 5,Zd 24 103 22 23,Zm 21 24,Ze 25 0 21,Ze 26 1 21,u1 6 (.alloc [.nil,.nil]) [],u1 7 (.alloc [.nil,.nil]) [],Zs 2 6 25,Zs 2 7 26] (.block 2 (ZR [Za 28 0 6,Zf 29 1 28,Za 30 1 7,Zf 31 1 30,Zd 32 104 29 31,Zm 27 32] (ZC 27 (ZR [Zi 2 1] .ret) (ZR [Za 34 0 7,Zf 35 1 34,Za 36 1 6,Zf 37 1 36,Zd 38 104 35 37,Zm 33 38] (ZC 33 (ZR [Zi 2 (-1)] .ret) .skip))))))) (.region [Zm 19 5,u1 20 (.ari .mul) [.tm 19,.cn (.int .i64 2)],Zm 5 20])))))) (ZR [Zi 2 0] .ret)))))⟩
theorem YCt:Yg YCX Tryz.f80=some v80:=by kernel_rfl
def v79:VF:=⟨33,[.tmp 2],(ZR [Zi 2 0] (.seq (ZR [Zm 5 0,Zl 6 5,Zq 7 .gtr 6 16] (ZC 7 (ZR [Zi 2 3] .ret) .skip)) (.seq (ZR [Zm 8 0,Zl 9 8,Zi 10 0] (.block 0 (.loop (ZR [Zr 11 .lss 10 9] (.seq (ZC 11 .skip (.exit 0)) (.seq (.block 1 (ZR [Zx 12 2 8 10,Zt 13 2 12,Zn 4,Zs 2 4 13] (ZR [Za 14 0 4,Zf 15 1 14,Zq 16 .lss 15 1,Zm 17 16,Zj 18 17 false 0 4,Zh 19 17 false 1 18,u2 20 17 false (.cmp .gtr) [.tm 19,.cn (.int .i64 1000000000000)],u1 21 .or [.tm 17,.tm 20],Zm 22 21,Zj 23 22 false 1 4,Zh 24 22 false 1 23,u2 25 22 false (.cmp .lss) [.tm 24,.cn (.int .i64 (-1000000000))],u1 26 .or [.tm 22,.tm 25],Zm 27 26,Zj 28 27 false 1 4,Zh 29 27 false 1 28,u2 30 27 false (.cmp .gtr) [.tm 29,.cn (.int .i64 1000000000)],u1 31 .or [.tm 27,.tm 30]] (ZC 31 (ZR [Zi 2 2] .ret) .skip)))) (.region [Zp 32 10 1,Zm 10 32]))))))) (ZR [Zi 2 0] .ret))))⟩
theorem YCs:Yg YCX Tryz.f79=some v79:=by kernel_rfl
def Yk1:Nat->List (Int×Int)->Nat->Int
 |0,_,_=>0
 |f+1,l,p=>if(YcE l p).dh<(YcE l p).ul then 1 else if(YcE l p).uh<(YcE l p).dl then -1 else Yk1 f l (2*p)
def YlR(l:List (Int×Int)):Int:=if(Ykg l).2=true then(Ykg l).1 else if oneF l=true then 0 else Yk1 6 l 64
def signC:Ctr:={ alias:=false,of:=fun l=>match l with
 | [.vs _ _ n sz get]=> .ex (List (Int×Int)) fun l=> .pre (lsP 2 enc2 n sz get l/\(∀x,x∈l->okT x)/\n<=20) (.fin (.int .i64 (YlR l)) [])
 |_=> .pre False (.fin (.int .i64 0) [])}
def okT0(x:Int×Int):Bool:=decide (x.1<1) || decide (1000000000000<x.1) || decide (x.2< -1000000000) || decide (1000000000<x.2)
def Yf2(l:List (Int×Int)):Int:=if 16<l.length then 3 else if l.any okT0=true then 2 else 0
def chkTC:Ctr:={ alias:=false,of:=fun l=>match l with
 | [.vs _ _ n sz get]=> .ex (List (Int×Int)) fun l=> .pre (lsP 2 enc2 n sz get l/\n<=9223372036854775807) (.fin (.int .i64 (Yf2 l)) [])
 |_=>noC}
theorem Ytr(l:List (Int×Int))(p:Nat):(YcE l p).ok:=by
 have key:∀(l:List (Int×Int))(s:Bnd),s.ok->(l.foldl (YgK p) s).ok:=fun l=>by
   induction l with
   |nil=>intro s h;exact h
   |cons x l ih=>intro s h;exact ih _ (Yjg p s x h)
 exact key l _ (by simp [Bnd.ok,nl_0])
def RB0:Env:={ ct:=fun n=>match n with|102=>some guessC|85=>some oneC|103=>some sumsC|104=>some aboveC|_=>none,fn:=fun _=>none,meth:=fun _ _=>none}
theorem Yow:RB0.ct 102=some guessC:=rfl
theorem YrB:RB0.ct 85=some oneC:=rfl
theorem Yox:RB0.ct 103=some sumsC:=rfl
theorem Yoy:RB0.ct 104=some aboveC:=rfl
theorem Yyi:Yo YCX RB0:=by
 refine⟨fun f c h=>?_,fun f vf h=>?_,(fun _ _ _ h=>by cases h),by kernel_rfl,(fun _ h=>by cases h)⟩
 . simp only[RB0]at h
   split at h
   . cases h;exact⟨YvB,Tryz.f102,Tryz.func102,by kernel_rfl,by kernel_rfl⟩
   . cases h;exact⟨Yv8,Tryz.f85,Tryz.func85,by kernel_rfl,by kernel_rfl⟩
   . cases h;exact⟨YBu,Tryz.f103,Tryz.func103,by kernel_rfl,by kernel_rfl⟩
   . cases h;exact⟨Yle,Tryz.f104,Tryz.func104,by kernel_rfl,by kernel_rfl⟩
   . cases h
 . cases h
theorem Yq4:signC.ok YCX 80:=by
 refine Yb Tryz.func80 YCt Yyi 500 signC fun args k h=>?_
 simp only[signC]at h
 split at h
 . rename_i tt z n sz get
   obtain⟨l,⟨⟨rfl,rfl,hg⟩,hl,hn⟩,h⟩:=h
   refine⟨[.vs tt z l.length 2 (fun k=>enc2 (l.getD k default))],⟨⟨id,rfl,rfl,rfl,hg⟩,trivial⟩,?_⟩
   dsimp only[v80,Yow,YrB,guessC,oneC,enc2,go_sem,reduceIte]
   simp only[Yd,YCS,YCU,reduceCtorEq,YCT]
   have hself:lsP 2 enc2 l.length 2 (fun k=>[SV.int IntKind.i64 (l.getD k default).fst,SV.int IntKind.i64 (l.getD k default).snd]) l:=⟨rfl,rfl,fun k _=>Ye _⟩
   refine⟨l,⟨hself,hl,by omega⟩,by decide,by decide,fun hc=>?_,fun hc=>⟨l,⟨hself,hl,hn⟩,fun hd=>?_,fun hd=>?_⟩⟩
   . rw[YlR,if_pos hc]at h;exact Yj h
   . rw[YlR,if_neg (by rw[hc];decide),if_pos hd]at h;exact Yj h
   . rw[YlR,if_neg (by rw[hc];decide),if_neg (by rw[hd];decide)]at h
     obtain⟨R,hR⟩:∃R,R=Yk1 6 l 64:=⟨_,rfl⟩
     rw[<-hR]at h
     refine Loop.keep [0] (Nat×Nat) (fun s=>[(5,.int .i64 s.2)]) (fun _=>[]) [] (fun s=>R=Yk1 s.1 l s.2/\s.2*2^s.1=4096/\64<=s.2) (fun s=>s.1) ?_ ?_
     . refine⟨(6,64),⟨hR,by decide,by decide⟩,?_⟩
       dsimp only[go_sem,reduceIte]
       simp only[Ya]
       rfl
     . rintro⟨f,p⟩ ⟨hf,hp,hp64⟩
       dsimp only at hf hp hp64
       dsimp only[Yox,Yoy,sumsC,aboveC,natS,go_sem,reduceIte]
       simp only[Yd,YCS,YCU,reduceCtorEq,YCT]
       obtain⟨k1,k2,k3,k4⟩:=Ytr l p
       have hfd:p<=2048->∃g,f=g+1:=fun hpl=>by
         rcases Nat.eq_zero_or_pos f with h0|h0
         . rw[h0,Nat.pow_zero,Nat.mul_one]at hp;omega
         . exact⟨f-1,by omega⟩
       have hf0:¬p<=2048->f=0:=fun hpl=>by
         rcases Nat.eq_zero_or_pos f with h0|h0
         . exact h0
         . obtain⟨g,rfl⟩:∃g,f=g+1:=⟨f-1,by omega⟩
           rw[Nat.pow_succ]at hp
           have:1<=2^g:=YaT g
           have:p*2<=p*(2^g*2):=Nat.mul_le_mul_left _ (by omega)
           omega
       refine⟨fun hc=>⟨l,p,⟨hself,hl,by omega,rfl,by omega⟩,fun y1 y2 y3 y4=>⟨by decide,by decide,(YcE l p).ul,(YcE l p).dh,⟨Yn k1,Yn k4⟩,fun hd=>?_,fun hd=>⟨(YcE l p).dl,(YcE l p).uh,⟨Yn k3,Yn k2⟩,fun he=>?_,fun he=>?_⟩⟩⟩,fun hc=>?_⟩
       . obtain⟨g,rfl⟩:=hfd (by omega)
         rw[Yk1,if_pos hd]at hf
         rw[hf]at h;exact Yj h
       . obtain⟨g,rfl⟩:=hfd (by omega)
         rw[Yk1,if_neg hd,if_pos he]at hf
         rw[hf]at h;exact Yj h
       . obtain⟨g,rfl⟩:=hfd (by omega)
         rw[Yk1,if_neg hd,if_neg he]at hf
         rw[Nat.pow_succ]at hp
         have hp2:2*p*2^g=4096:=by rw[<-hp,YDq 2 p,Nat.mul_assoc,YDq 2]
         refine⟨(g,2*p),⟨hf,hp2,by simp only;omega⟩,by simp only;omega,?_⟩
         rw[show IntKind.i64.wrap ((p:Int)*2)=((2*p:Nat):Int)by rw[YCW _ (by omega)];omega]
         simp only[Ya]
       . obtain rfl:=hf0 (by omega)
         rw[Yk1]at hf
         rw[hf]at h;exact Yj h
 . exact h.1.elim
def RB1:Env:={ ct:=fun _=>none,fn:=fun _=>none,meth:=fun _ _=>none}
theorem Yyj:Yo YCX RB1:=by
 refine⟨fun f c h=>?_,fun f vf h=>?_,(fun _ _ _ h=>by cases h),by kernel_rfl,(fun _ h=>by cases h)⟩
 . cases h
 . cases h
theorem Ypk:chkTC.ok YCX 79:=by
 refine Yb Tryz.func79 YCs Yyj 500 chkTC fun args k h=>?_
 simp only[chkTC]at h
 split at h
 . rename_i tt z n sz get
   obtain⟨l,⟨⟨rfl,rfl,hg⟩,hn⟩,h⟩:=h
   refine⟨[.vs tt z l.length 2 (fun k=>enc2 (l.getD k default))],⟨⟨id,rfl,rfl,rfl,hg⟩,trivial⟩,?_⟩
   dsimp only[v79,enc2,go_sem,reduceIte]
   simp only[Yd,YCS,YCU,reduceCtorEq,YCT]
   refine⟨fun hc=>?_,fun hc=>?_⟩
   . rw[Yf2,if_pos (by omega)]at h;exact Yj h
   . rw[Yf2,if_neg (by omega)]at h
     refine Loop.keep [0,7,0] Nat (fun i=>[(10,.int .i64 i)]) (fun _=>[]) [] (fun i=>i<=l.length/\(l.take i).any okT0=false) (fun i=>l.length-i) ?_ ?_
     . refine⟨0,⟨by omega,rfl⟩,?_⟩
       dsimp only[go_sem,reduceIte]
       simp only[Ya]
       rfl
     . rintro i ⟨hi,hall⟩
       dsimp only[enc2,YCY,go_sem,reduceIte]
       simp only[Yd,YCS,YCU,reduceCtorEq,YCT]
       refine⟨fun hlt=>⟨⟨by omega,by omega⟩,fun hc=>?_,fun hc=>⟨i+1,⟨by omega,?_⟩,by omega,?_⟩⟩,fun hge=>?_⟩
       . have:l.any okT0=true:=List.any_eq_true.2 ⟨_,YK (by omega:i<l.length),hc⟩
         rw[if_pos this]at h
         exact Yj h
       . rw[Yji (by omega),hall,Bool.false_or];exact hc
       . rw[YCW ((i:Int)+1) (by omega)]
         simp only[Ya]
         simp
       . obtain rfl:i=l.length:=by omega
         rw[List.take_length]at hall
         rw[if_neg (by rw[hall];decide)]at h
         exact Yj h
 . exact h.1.elim
def v78:VF:=⟨54,[.tmp 6,.tmp 7,.tmp 8],(ZR [u1 5 .box [.tm 2],Zi 6 0,u1 7 .mov [.cn (.bool false)],Zi 8 0] (.seq (ZR [Zm 13 1,Zc 14 79 13,Zm 9 14] (ZR [Zm 15 9,Zq 16 .neq 15 0] (ZC 16 (ZR [Zm 17 9,Zi 6 0,u1 7 .mov [.cn (.bool false)],Zm 8 17] .ret) .skip))) (.seq (ZR [Zf 18 1 5,Zq 19 .lss 18 1,Zm 20 19,Zh 21 20 false 1 5,u2 22 20 false (.cmp .gtr) [.tm 21,.cn (.int .i64 1000000)],u1 23 .or [.tm 20,.tm 22],Zm 24 23,Zg 25 24 false 0,u2 26 24 false (.cmp .lss) [.tm 25,.cn (.int .i64 1)],u1 27 .or [.tm 24,.tm 26],Zm 28 27,Zg 29 28 false 0,u2 30 28 false (.cmp .gtr) [.tm 29,.cn (.int .i64 1000000000000)],u1 31 .or [.tm 28,.tm 30]] (ZC 31 (ZR [Zi 6 0,u1 7 .mov [.cn (.bool false)],Zi 8 2] .ret) .skip)) (.seq (.drawT [(10,.box [.nil])] (.ops [Zu 32 1] (.ops [Zu 34 0] (.ops [Zv 35 1 5] (.ops [w1 36 (.build [(.int .i64 0),(.int .i64 0)] [(0,1),(1,1)]) [.tm 34,.tm 35]] (.ops [] (.br (.ops [⟨u1 33 (.append 2 16 [(.int .i64 0),(.int .i64 0)]) [.cn .nil,.tm 32],[.tm 0,.tm 34,.tm 5,.tm 35,.tm 34,.tm 35,.tm 36]⟩] (.ops [w1 37 (.buildSlice 2 1 [(.int .i64 0),(.int .i64 0)] [(0,2)]) [.tm 36]] (.ops [w1 38 (.append 2 16 [(.int .i64 0),(.int .i64 0)]) [.tm 33,.tm 37]] (.ops [ZS 1 10 38] .leaf)))) (.ops [w1 37 (.buildSlice 2 1 [(.int .i64 0),(.int .i64 0)] [(0,2)]) [.tm 36]] (.ops [⟨u1 33 (.append 2 16 [(.int .i64 0),(.int .i64 0)]) [.cn .nil,.tm 32],[.tm 0,.tm 34,.tm 5,.tm 35,.tm 34,.tm 35,.tm 36]⟩] (.ops [w1 38 (.append 2 16 [(.int .i64 0),(.int .i64 0)]) [.tm 33,.tm 37]] (.ops [ZS 1 10 38] .leaf))))))))))) (ZR [u1 39 (.mkfn (.func 100) 0) [.tm 10,.tm 5],u1 11 (.alloc [(.val .nilFunc)]) [],Zs 1 11 39] (ZR [u1 40 (.mkfn (.func 101) 0) [.tm 11],Zm 12 40] (.seq (ZR [Zm 41 12,u1 42 .callv [.tm 41,.cn (.int .i64 1000000000001)]] (ZC 42 (ZR [Zi 6 0,u1 7 .mov [.cn (.bool false)],Zi 8 7] .ret) .skip)) (ZR [Zm 43 12,u1 44 (.call 84) [.cn (.int .i64 0),.cn (.int .i64 1000000000001),.tm 43],Zm 6 44] (ZR [Zm 45 6,Zm 46 6,Zq 47 .gtr 46 0,Zm 48 47,Zh 49 48 true 1 11,Zg 50 48 true 6,u2 51 48 true .callv [.tm 49,.tm 50],u2 52 48 true (.call 85) [.tm 51],u1 53 .and [.tm 48,.tm 52],Zm 6 45,Zm 7 53,Zi 8 0] .ret)))))))))⟩
theorem YCr:Yg YCX Tryz.f78=some v78:=by kernel_rfl
def v100:VF:=⟨17,[.tmp 4],(ZR [u1 4 .mov [.cn .nil]] (.seq (.draw [] [Zv 5 1 1,Zv 6 1 1,w1 7 .len [.tm 6],Zv 8 1 1,w1 9 .len [.tm 8],w1 10 (.slice3 2) [.tm 5,.tm 7,.tm 9],Zu 11 0,Zv 12 1 2,w1 13 .neg [.tm 12],w1 14 (.build [(.int .i64 0),(.int .i64 0)] [(0,1),(1,1)]) [.tm 11,.tm 13],w1 15 (.buildSlice 2 1 [(.int .i64 0),(.int .i64 0)] [(0,2)]) [.tm 14],w1 16 (.append 2 16 [(.int .i64 0),(.int .i64 0)]) [.tm 10,.tm 15],Zu 4 16]) .ret))⟩
theorem Yw7:Yg YCX Tryz.f100=some v100:=by kernel_rfl
def v101:VF:=⟨13,[.tmp 3],(ZR [u1 3 .mov [.cn (.bool false)]] (ZR [Zm 4 0,Zq 5 .eql 4 0,Zm 6 5,Zh 7 6 false 1 1,Zg 8 6 false 0,u2 9 6 false .callv [.tm 7,.tm 8],u2 10 6 false (.call 80) [.tm 9],u2 11 6 false (.cmp .geq) [.tm 10,.cn (.int .i64 0)],u1 12 .or [.tm 6,.tm 11],Zm 3 12] .ret))⟩
theorem Yw8:Yg YCX Tryz.f101=some v101:=by kernel_rfl
def v84:VF:=⟨24,[.tmp 6],(ZR [Zi 6 0] (.seq (.block 0 (.loop (.seq (ZR [Zm 8 1,Zm 9 0,Zo 10 .sub 8 9,Zq 11 .gtr 10 1] (ZC 11 .skip (.exit 0))) (.block 1 (ZR [Zm 12 0,Zm 13 1,Zm 14 0,Zo 15 .sub 13 14,u1 16 .quo [.tm 15,.cn (.int .i64 2)],Zo 17 .add 12 16,Zm 7 17] (ZR [Zm 18 2,Zm 19 7,u1 20 .callv [.tm 18,.tm 19]] (ZC 20 (.region [Zm 21 7,Zm 0 21]) (.region [Zm 22 7,Zm 1 22])))))))) (ZR [Zm 23 0,Zm 6 23] .ret)))⟩
theorem Yut:Yg YCX Tryz.f84=some v84:=by kernel_rfl
def bisL:Nat->(Int->Bool)->Int->Int->Int
 |0,_,a,_=>a
 |f+1,t,a,b=>if 1<b-a then(if t (a+(b-a)/2)=true then bisL f t (a+(b-a)/2) b else bisL f t a (a+(b-a)/2))else a
def atF(all:List (Int×Int))(den k:Int):List (Int×Int):=all++[(k, -den)]
def isF(all:List (Int×Int))(den k:Int):Bool:=decide (k=0) || decide (0<=YlR (atF all den k))
def Ys6(s:Int)(l:List (Int×Int))(den:Int):Int×Bool×Int:=
 if isF (l++[(s,den)]) den 1000000000001=true then(0,false,7)
 else(bisL 64 (isF (l++[(s,den)]) den) 0 1000000000001,decide (0<bisL 64 (isF (l++[(s,den)]) den) 0 1000000000001)&&oneF (atF (l++[(s,den)]) den (bisL 64 (isF (l++[(s,den)]) den) 0 1000000000001)),0)
def Ylo(s den:Int):Bool:=decide (den<1) || (decide (1000000<den) || (decide (s<1) || decide (1000000000000<s)))
def Yet(s:Int)(l:List (Int×Int))(den:Int):Int×Bool×Int:=
 if Yf2 l≠0 then(0,false,Yf2 l)else if Ylo s den=true then(0,false,2)else Ys6 s l den
theorem YuP{s den:Int}(h:Ylo s den=false):(1<=s/\s<=1000000000000)/\1<=den/\den<=1000000:=by
 simp only[Ylo,YDb,decide_eq_false_iff_not]at h;omega
theorem Ylw{l:List (Int×Int)}(h:Yf2 l=0):(∀x,x∈l->okT0 x=false)/\l.length<=16:=by
 unfold Yf2 at h
 split at h
 . cases h
 . split at h
   . cases h
   . rename_i h1 h2
     rw[Bool.not_eq_true,List.any_eq_false]at h2
     exact⟨fun x hx=>by simpa using h2 x hx,by omega⟩
def prodC:Ctr:={ alias:=false,of:=fun l=>match l with
 | [.int .i64 s,.vs _ _ n sz get,.int .i64 den]=> .ex (List (Int×Int)) fun l=> .pre (lsP 2 enc2 n sz get l/\1<=n/\n<=1000000000000) (.fin (.tup [.int .i64 (Yet s l den).1,.bool (Yet s l den).2.1,.int .i64 (Yet s l den).2.2]) [])
 |_=>noC}
theorem Yy8{l:List (Int×Int)}{s den kk:Int}{hp:List HO}{r:List SV->List SV}{i k:Nat}(hk:k<l.length+1+1):
   leXL (YaX false hp r (if k<l.length+1 then if k<l.length then [SV.int IntKind.i64 (l.getD k default).fst,SV.int IntKind.i64 (l.getD k default).snd]else Yi i (Yt 2 (Yl ((k-l.length)*2) [SV.int IntKind.i64 s,SV.int IntKind.i64 den]))else Yt 2 (Yl ((k-(l.length+1))*2) [SV.int IntKind.i64 kk,SV.int IntKind.i64 (-den)]))) (enc2 ((atF (l++[(s,den)]) den kk).getD k default)):=by
 unfold atF
 rw[List.append_assoc]
 by_cases h1:k<l.length
 . rw[if_pos (by omega),if_pos h1,YC1 (l:=_++_),YDi h1,<-YC1]
   exact Ye _
 . rw[YC1 (l:=_++_),List.getElem?_append_right (by omega),if_neg h1]
   by_cases h2:k<l.length+1
   . rw[if_pos h2,show k-l.length=0 by omega]
     exact Ye _
   . rw[if_neg h2,show k-(l.length+1)=0 by omega,show k-l.length=1 by omega]
     exact Ye _
theorem Ytj{l:List (Int×Int)}{s den:Int}{i k a b:Nat}(hk:k<l.length+1):leL a b (if k<l.length then [SV.int IntKind.i64 (l.getD k default).fst,SV.int IntKind.i64 (l.getD k default).snd]else Yi i (Yt 2 (Yl ((k-l.length)*2) [SV.int IntKind.i64 s,SV.int IntKind.i64 den]))) (if k<l.length then [SV.int IntKind.i64 (l.getD k default).fst,SV.int IntKind.i64 (l.getD k default).snd]else Yi i (Yt 2 (Yl ((k-l.length)*2) [SV.int IntKind.i64 s,SV.int IntKind.i64 den]))):=by
 by_cases h1:k<l.length
 . rw[if_pos h1];exact⟨⟨rfl,rfl⟩,⟨rfl,rfl⟩,trivial⟩
 . rw[if_neg h1,show k-l.length=0 by omega];exact⟨⟨rfl,rfl⟩,⟨rfl,rfl⟩,trivial⟩
theorem YwO{s den:Int}{i k a b:Nat}(hk:k<1):leL a b (Yi i (Yt 2 (Yl (k*2) [SV.int IntKind.i64 s,SV.int IntKind.i64 den]))) (Yi i (Yt 2 (Yl (k*2) [SV.int IntKind.i64 s,SV.int IntKind.i64 den]))):=by
 obtain rfl:k=0:=by omega
 exact⟨⟨rfl,rfl⟩,⟨rfl,rfl⟩,trivial⟩
theorem YwP{l:List (Int×Int)}{s den kk dd:Int}{i k a b:Nat}(hk:k<l.length+1+1):leL a b (if k<l.length+1 then if k<l.length then [SV.int IntKind.i64 (l.getD k default).fst,SV.int IntKind.i64 (l.getD k default).snd]else Yi i (Yt 2 (Yl ((k-l.length)*2) [SV.int IntKind.i64 s,SV.int IntKind.i64 den]))else Yt 2 (Yl ((k-(l.length+1))*2) [SV.int IntKind.i64 kk,SV.int IntKind.i64 dd])) (if k<l.length+1 then if k<l.length then [SV.int IntKind.i64 (l.getD k default).fst,SV.int IntKind.i64 (l.getD k default).snd]else Yi i (Yt 2 (Yl ((k-l.length)*2) [SV.int IntKind.i64 s,SV.int IntKind.i64 den]))else Yt 2 (Yl ((k-(l.length+1))*2) [SV.int IntKind.i64 kk,SV.int IntKind.i64 dd])):=by
 by_cases h1:k<l.length+1
 . rw[if_pos h1];exact Ytj h1
 . rw[if_neg h1,show k-(l.length+1)=0 by omega];exact⟨⟨rfl,rfl⟩,⟨rfl,rfl⟩,trivial⟩
theorem YuN{l:List (Int×Int)}{s den kk:Int}{hp:List HO}{r:List SV->List SV}{i:Nat}:
   lsP 2 enc2 (l.length+1+1) 2 (fun k=>YaX false hp r (if k<l.length+1 then if k<l.length then [SV.int IntKind.i64 (l.getD k default).fst,SV.int IntKind.i64 (l.getD k default).snd]else Yi i (Yt 2 (Yl ((k-l.length)*2) [SV.int IntKind.i64 s,SV.int IntKind.i64 den]))else Yt 2 (Yl ((k-(l.length+1))*2) [SV.int IntKind.i64 kk,SV.int IntKind.i64 (-den)]))) (atF (l++[(s,den)]) den kk):=
 ⟨rfl,by simp [atF],fun k hk=>Yy8 hk⟩
theorem YuO{l:List (Int×Int)}{s den kk:Int}(hl:∀x,x∈l->okT0 x=false)(hs:1<=s/\s<=1000000000000)(hd:1<=den/\den<=1000000)(hk:1<=kk/\kk<=1000000000001):∀x,x∈atF (l++[(s,den)]) den kk->okT x:=by
 intro x hx
 unfold atF at hx
 rw[YDu,YDu,List.mem_singleton,List.mem_singleton]at hx
 rcases hx with(hx|rfl) |rfl
 . have:=hl x hx
   unfold okT0 at this
   simp only[YDb,decide_eq_false_iff_not]at this
   unfold okT
   omega
 . simp only[okT];omega
 . simp only[okT];omega
theorem YoZ{l:List (Int×Int)}{s den:Int}{i k:Nat}(hk:k<l.length+1):lenL (if k<l.length then [SV.int IntKind.i64 (l.getD k default).fst,SV.int IntKind.i64 (l.getD k default).snd]else Yi i (Yt 2 (Yl ((k-l.length)*2) [SV.int IntKind.i64 s,SV.int IntKind.i64 den])))=2/\ones (if k<l.length then [SV.int IntKind.i64 (l.getD k default).fst,SV.int IntKind.i64 (l.getD k default).snd]else Yi i (Yt 2 (Yl ((k-l.length)*2) [SV.int IntKind.i64 s,SV.int IntKind.i64 den]))):=by
 by_cases h1:k<l.length
 . rw[if_pos h1];exact⟨rfl,trivial,trivial,trivial⟩
 . rw[if_neg h1,show k-l.length=0 by omega];exact⟨rfl,trivial,trivial,trivial⟩
theorem Yi2{a b:Int}{k:Nat}(hk:k<1):lenL (Yt 2 (Yl (k*2) [SV.int IntKind.i64 a,SV.int IntKind.i64 b]))=2/\ones (Yt 2 (Yl (k*2) [SV.int IntKind.i64 a,SV.int IntKind.i64 b])):=by
 obtain rfl:k=0:=by omega
 exact⟨rfl,trivial,trivial,trivial⟩
def RB2:Env:={ ct:=fun n=>match n with|79=>some chkTC|80=>some signC|85=>some oneC|_=>none,fn:=fun n=>match n with|100=>some v100|101=>some v101|84=>some v84|_=>none,meth:=fun _ _=>none}
theorem YrC:RB2.ct 79=some chkTC:=rfl
theorem Yl7:RB2.ct 80=some signC:=rfl
theorem YrE:RB2.ct 85=some oneC:=rfl
theorem Yjv:RB2.ct 100=none:=rfl
theorem Yjx:RB2.fn 100=some v100:=rfl
theorem Yjw:RB2.ct 101=none:=rfl
theorem Yjy:RB2.fn 101=some v101:=rfl
theorem YrD:RB2.ct 84=none:=rfl
theorem YrF:RB2.fn 84=some v84:=rfl
theorem Yyk:Yo YCX RB2:=by
 refine⟨fun f c h=>?_,fun f vf h=>?_,(fun _ _ _ h=>by cases h),by kernel_rfl,(fun _ h=>by cases h)⟩
 . simp only[RB2]at h
   split at h
   . cases h;exact⟨Ypk,Tryz.f79,Tryz.func79,by kernel_rfl,by kernel_rfl⟩
   . cases h;exact⟨Yq4,Tryz.f80,Tryz.func80,by kernel_rfl,by kernel_rfl⟩
   . cases h;exact⟨Yv8,Tryz.f85,Tryz.func85,by kernel_rfl,by kernel_rfl⟩
   . cases h
 . simp only[RB2]at h
   split at h
   . cases h;exact⟨Tryz.f100,Tryz.func100,Yw7,Tryz.f100,Tryz.func100,by kernel_rfl,by kernel_rfl⟩
   . cases h;exact⟨Tryz.f101,Tryz.func101,Yw8,Tryz.f101,Tryz.func101,by kernel_rfl,by kernel_rfl⟩
   . cases h;exact⟨Tryz.f84,Tryz.func84,Yut,Tryz.f84,Tryz.func84,by kernel_rfl,by kernel_rfl⟩
   . cases h
theorem Ydz{k:SV->List HO->Prop}{al:Bool}{hp:List HO}{κ κ':IntKind}{x e:Int}{b:Bool}(h:k (.tup [.int κ x,.bool b,.int κ' e]) []):YB al k (.tup [.int κ x,.bool b,.int κ' e]) hp:=
 YE (show k _ []from h) (YA (.tup [.int κ x,.bool b,.int κ' e]) ⟨trivial,trivial,trivial,trivial⟩) (fun _=>by simp [Ym,Yp])
theorem YAs:prodC.ok YCX 78:=by
 refine Yb Tryz.func78 YCr Yyk 800 prodC fun args k h=>?_
 simp only[prodC]at h
 split at h
 . rename_i s tt z n sz get den
   obtain⟨l,⟨⟨rfl,rfl,hg⟩,hn1,hnb⟩,h⟩:=h
   refine⟨[.int .i64 s,.vs tt z l.length 2 (fun k=>enc2 (l.getD k default)),.int .i64 den],⟨⟨rfl,rfl⟩,⟨id,rfl,rfl,rfl,hg⟩,⟨rfl,rfl⟩,trivial⟩,?_⟩
   dsimp only[v78,YrC,chkTC,enc2,go_sem,reduceIte]
   simp only[Yd,YCS,YCU,reduceCtorEq,YCT]
   refine⟨l,⟨⟨rfl,rfl,fun k _=>Ye _⟩,by omega⟩,fun hh=>by rw[Yet,if_pos hh]at h;exact Ydz h,fun hchk=>?_⟩
   obtain⟨hl,hn⟩:=Ylw hchk
   rw[Yet,if_neg (by rw[hchk];decide)]at h
   refine⟨fun hh=>?_,fun hb=>?_⟩
   . rw[if_pos (show Ylo s den=true by rw[Ylo];simpa [Bool.or_assoc]using hh)]at h
     exact Ydz h
   have hb:Ylo s den=false:=by rw[Ylo];simpa [Bool.or_assoc]using hb
   rw[if_neg (by rw[hb];decide)]at h
   obtain⟨hs,hd⟩:=YuP hb
   have hnd:IntKind.i64.wrap (0-den)= -den:=by rw[YCW _ (by omega)];omega
   refine⟨⟨by unfold YW;omega,by decide,⟨by unfold YW;omega,fun k hk=>?_⟩,?_⟩,by decide,by unfold YW;omega,⟨by unfold YW;omega,fun k hk=>?_⟩,?_⟩
   all_goals (try exact Yi2 hk)
   all_goals
     dsimp only[Yjw,Yjy,v101,Yjv,Yjx,v100,Yl7,signC,go_sem,reduceIte]
     simp only[Yd,YCS,YCU,reduceCtorEq,YCT]
     rw[hnd]
     simp only[YCY]
     have hK:(1:Int)<=1000000000001/\(1000000000001:Int)<=1000000000001:=by decide
     refine⟨fun _=>⟨⟨by omega,by omega⟩,by decide,⟨by decide,by unfold YW;omega,fun k hk=>YoZ hk,fun k hk=>Yi2 hk⟩,atF (l++[(s,den)]) den 1000000000001,fun _=>⟨YuN,YuO hl hs ⟨hd.1,hd.2⟩ hK,by omega⟩,fun hc=>?_,fun hc=>?_⟩,fun hh=>absurd hh (by decide)⟩
     . have hc:isF (l++[(s,den)]) den 1000000000001=true:=hc
       rw[Ys6,if_pos hc]at h
       exact Ydz h
     . have hc:isF (l++[(s,den)]) den 1000000000001=false:=hc
       rw[Ys6,if_neg (by rw[hc];decide)]at h
       dsimp only[YrD,YrF,v84,go_sem,reduceIte]
       simp only[Yd,YCS,YCU,reduceCtorEq,YCT]
       obtain⟨t,ht⟩:∃t,t=isF (l++[(s,den)]) den:=⟨_,rfl⟩
       obtain⟨R,hR⟩:∃R,R=bisL 64 t 0 1000000000001:=⟨_,rfl⟩
       rw[<-ht,<-hR]at h
       refine Loop.keep [2] (Nat×Int×Int) (fun s=>[(0,.int .i64 s.2.1),(1,.int .i64 s.2.2)]) (fun _=>[]) [] (fun s=>R=bisL s.1 t s.2.1 s.2.2/\0<=s.2.1/\s.2.1<s.2.2/\s.2.2<=1000000000001/\s.2.2-s.2.1<=2^s.1) (fun s=>s.1) ?_ ?_
       . refine⟨(64,0,1000000000001),⟨hR,by decide,by decide,by decide,by decide⟩,?_⟩
         dsimp only[go_sem,reduceIte]
         simp only[Ya]
         repeat' apply YC3
         all_goals first|decide| (intro k hk;first|exact Ytj hk|exact YwO hk|exact YwP hk)
       . rintro⟨f,lo,hi⟩ ⟨hf,b0,b1,b2,b3⟩
         dsimp only at hf b0 b1 b2 b3
         dsimp only[Yjw,Yjy,v101,Yjv,Yjx,v100,Yl7,YrE,signC,oneC,go_sem,reduceIte]
         simp only[Yd,YCS,YCU,reduceCtorEq,YCT]
         rw[hnd]
         simp only[YCY]
         have ed:IntKind.i64.wrap (hi-lo)=hi-lo:=YCW _ (by omega)
         have e2:IntKind.i64.wrap ((hi-lo).tdiv 2)=(hi-lo)/2:=by
           rw[Int.tdiv_eq_ediv_of_nonneg (by omega),YCW _ (by omega)]
         have e3:IntKind.i64.wrap (lo+(hi-lo)/2)=lo+(hi-lo)/2:=YCW _ (by omega)
         rw[ed,e2,e3]
         refine⟨fun hc1=>?_,fun hc1=>?_⟩
         . obtain⟨m,hm⟩:∃m,m=lo+(hi-lo)/2:=⟨_,rfl⟩
           rw[<-hm]
           obtain⟨g,rfl⟩:∃g,f=g+1:=by
             cases f with
             |zero=>simp at b3;omega
             |succ g=>exact⟨g,rfl⟩
           rw[bisL,if_pos hc1,<-hm]at hf
           have b4:hi-lo<=2^g*2:=by rw[<-Int.pow_succ];exact b3
           have hm0:¬m=0:=by omega
           refine⟨by decide,fun _=>⟨⟨by omega,by omega⟩,by decide,⟨by decide,by unfold YW;omega,fun k hk=>YoZ hk,fun k hk=>Yi2 hk⟩,atF (l++[(s,den)]) den m,fun _=>⟨YuN,YuO hl hs ⟨hd.1,hd.2⟩ (by omega),by omega⟩,fun hd1=>?_,fun hd1=>?_⟩,fun hh=>absurd hh hm0⟩
           . have hd1:t m=true:=by rw[ht];exact hd1
             rw[if_pos hd1]at hf
             refine⟨(g,m,hi),⟨hf,by simp only;omega,by simp only;omega,b2,by simp only;omega⟩,by simp only;omega,?_⟩
             simp only[Ya]
             repeat' apply YC3
             all_goals first|decide| (intro k hk;first|exact Ytj hk|exact YwO hk|exact YwP hk)
           . have hd1:t m=false:=by rw[ht];exact hd1
             rw[if_neg (by rw[hd1];decide)]at hf
             refine⟨(g,lo,m),⟨hf,by simp only;omega,by simp only;omega,by simp only;omega,by simp only;omega⟩,by simp only;omega,?_⟩
             simp only[Ya]
             repeat' apply YC3
             all_goals first|decide| (intro k hk;first|exact Ytj hk|exact YwO hk|exact YwP hk)
         . have hRlo:R=lo:=by
             cases f with
             |zero=>exact hf
             |succ g=>rw[hf,bisL,if_neg hc1]
           subst hRlo
           refine⟨fun hp=>⟨⟨by omega,by omega⟩,by decide,⟨by decide,by unfold YW;omega,fun k hk=>YoZ hk,fun k hk=>Yi2 hk⟩,atF (l++[(s,den)]) den R,fun _=>⟨YuN,YuO hl hs ⟨hd.1,hd.2⟩ (by omega),by omega⟩,Ydz h⟩,fun hp=>⟨fun hh=>absurd hh hp,?_⟩⟩
           rw[decide_eq_false hp,Bool.false_and]at h⊢
           exact Ydz h
 . exact h.1.elim
structure Rt where
 a:Int
 b:Int
 c:Int
 d:Int
 e:Int
 f:Int
 n:Int
 deriving Inhabited,DecidableEq
def encR(r:Rt):List SV:=[.int .i64 r.a,.int .i64 r.b,.int .i64 r.c,.int .i64 r.d,.int .i64 r.e,.int .i64 r.f,.int .i64 r.n]
def badN(n:Int):Bool:=decide (n< -100000) || decide (100000<n)
def gcdR(r:Rt):Nat:=((((((r.n.toNat).gcd r.a.natAbs).gcd r.b.natAbs).gcd r.c.natAbs).gcd r.d.natAbs).gcd r.e.natAbs).gcd r.f.natAbs
def chkR(r:Rt):Int:=
 if r.n<1\/1000<r.n then 2 else if badN r.a|| (badN r.b|| (badN r.c|| (badN r.d|| (badN r.e|| badN r.f))))then 2 else if 1<gcdR r then 6 else 0
def YaC:Rt:=⟨0,0,0,0,0,0,0⟩
def divR(r:Rt)(g:Int):Rt:=⟨r.a.tdiv g,r.b.tdiv g,r.c.tdiv g,r.d.tdiv g,r.e.tdiv g,r.f.tdiv g,r.n.tdiv g⟩
def YdS(r:Rt):Rt×Int:=if chkR (divR r (gcdR r))=0 then(divR r (gcdR r),0)else(YaC,7)
def Ybe(x y:Rt)(by':Int):Rt×Int:=
 if chkR x≠0 then(YaC,chkR x)else if chkR y≠0 then(YaC,chkR y)
 else YdS ⟨x.a*y.n+by'*y.a*x.n,x.b*y.n+by'*y.b*x.n,x.c*y.n+by'*y.c*x.n,x.d*y.n+by'*y.d*x.n,x.e*y.n+by'*y.e*x.n,x.f*y.n+by'*y.f*x.n,x.n*y.n⟩
def tm1(p n:Int):List (Int×Int):=if n=0 then []else [(p,n)]
def Yz(r:Rt):List (Int×Int):=tm1 2 r.a++(tm1 3 r.b++(tm1 5 r.c++(tm1 7 r.d++(tm1 11 r.e++tm1 13 r.f))))
theorem Ydt(r:Rt):(Yz r).length<=6:=by
 have h:∀p n:Int,(tm1 p n).length<=1:=fun p n=>by unfold tm1;split <;> simp
 have:=h 2 r.a;have:=h 3 r.b;have:=h 5 r.c;have:=h 7 r.d;have:=h 11 r.e;have:=h 13 r.f
 simp only[Yz,YDo];omega
theorem Ylv{r:Rt}(h:chkR r=0):(1<=r.n/\r.n<=1000)/\badN r.a=false/\badN r.b=false/\badN r.c=false/\badN r.d=false/\badN r.e=false/\badN r.f=false/\gcdR r<=1:=by
 unfold chkR at h
 split at h
 . cases h
 . split at h
   . cases h
   . split at h
     . cases h
     . rename_i h1 h2 h3
       simp only[YDm,not_or,Bool.not_eq_true]at h2
       exact⟨by omega,h2.1,h2.2.1,h2.2.2.1,h2.2.2.2.1,h2.2.2.2.2.1,h2.2.2.2.2.2,by omega⟩
theorem Yeb{n:Int}(h:badN n=false): -100000<=n/\n<=100000:=by
 simp only[badN,YDb,decide_eq_false_iff_not]at h;omega
theorem Ya4{x y X Y:Int}(hx: -X<=x/\x<=X)(hy: -Y<=y/\y<=Y): -(X*Y)<=x*y/\x*y<=X*Y:=by
 have h0:0<=X:=by omega
 have h1:0<=Y:=by omega
 have a1:=Int.mul_nonneg (show 0<=X-x by omega) (show 0<=Y+y by omega)
 have a2:=Int.mul_nonneg (show 0<=X+x by omega) (show 0<=Y-y by omega)
 have a3:=Int.mul_nonneg (show 0<=X-x by omega) (show 0<=Y-y by omega)
 have a4:=Int.mul_nonneg (show 0<=X+x by omega) (show 0<=Y+y by omega)
 rw[Int.sub_mul,Int.mul_add,Int.mul_add]at a1
 rw[Int.add_mul,Int.mul_sub,Int.mul_sub]at a2
 rw[Int.sub_mul,Int.mul_sub,Int.mul_sub]at a3
 rw[Int.add_mul,Int.mul_add,Int.mul_add]at a4
 omega
def v117:VF:=⟨7,[.tmp 2],(ZR [Zi 2 0] (ZR [Zm 3 0,Zm 4 0,u1 5 .neg [.tm 4],u1 6 .max [.tm 3,.tm 5],Zm 2 6] .ret))⟩
theorem Yxo:Yg YCX Tryz.f117=some v117:=by kernel_rfl
def v96:VF:=⟨34,[.tmp 2],(ZR [u1 1 .box [.tm 0],Zi 2 0] (.seq (ZR [Za 6 6 1,Zf 7 1 6,Zq 8 .lss 7 1,Zm 9 8,Zj 10 9 false 6 1,Zh 11 9 false 1 10,u2 12 9 false (.cmp .gtr) [.tm 11,.cn (.int .i64 1000)],u1 13 .or [.tm 9,.tm 12]] (ZC 13 (ZR [Zi 2 2] .ret) .skip)) (ZR [Za 14 6 1,Zf 15 1 14,Zm 3 15] (.seq (ZR [Za 16 0 1,Zt 17 6 16,Zi 18 0] (.block 0 (.loop (ZR [Zq 19 .lss 18 6] (.seq (ZC 19 .skip (.exit 0)) (.seq (.block 1 (ZR [u1 20 (.index false 6 1) [.tm 17,.tm 18],Zm 5 20] (.seq (ZR [Zm 21 5,Zq 22 .lss 21 (-100000),Zm 23 22,Zg 24 23 false 5,u2 25 23 false (.cmp .gtr) [.tm 24,.cn (.int .i64 100000)],u1 26 .or [.tm 23,.tm 25]] (ZC 26 (ZR [Zi 2 2] .ret) .skip)) (.region [Zm 27 3,Zm 28 5,Zc 29 117 28,Zd 30 116 27 29,Zm 3 30])))) (.region [Zp 31 18 1,Zm 18 31]))))))) (.seq (ZR [Zm 32 3,Zq 33 .gtr 32 1] (ZC 33 (ZR [Zi 2 6] .ret) .skip)) (ZR [Zi 2 0] .ret))))))⟩
theorem YCH:Yg YCX Tryz.f96=some v96:=by kernel_rfl
def v115:VF:=⟨43,[.cell 4 true 7,.tmp 5],(ZR [u1 2 .box [.tm 0],u1 4 (.alloc [(.int .i64 0),(.int .i64 0),(.int .i64 0),(.int .i64 0),(.int .i64 0),(.int .i64 0),(.int .i64 0)]) [],Zi 5 0] (ZR [Zm 12 1,Zm 6 12] (.seq (ZR [Zt 13 6 2,Zi 14 0] (.block 0 (.loop (ZR [Zq 15 .lss 14 6] (.seq (ZC 15 .skip (.exit 0)) (.seq (.block 1 (ZR [u1 16 (.index false 6 1) [.tm 13,.tm 14],Zm 8 16] (.region [Zm 17 6,Zm 18 8,Zc 19 117 18,Zd 20 116 17 19,Zm 6 20]))) (.region [Zp 21 14 1,Zm 14 21]))))))) (ZR [Zm 22 1,Zm 23 6,u1 24 .quo [.tm 22,.tm 23],u1 25 (.build [(.int .i64 0),(.int .i64 0),(.int .i64 0),(.int .i64 0),(.int .i64 0),(.int .i64 0),(.int .i64 0)] [(6,1)]) [.tm 24],u1 9 (.alloc [(.int .i64 0),(.int .i64 0),(.int .i64 0),(.int .i64 0),(.int .i64 0),(.int .i64 0),(.int .i64 0)]) [],Zs 7 9 25] (.seq (ZR [Zt 26 6 2,Zi 27 0] (.block 2 (.loop (ZR [Zq 28 .lss 27 6] (.seq (ZC 28 .skip (.exit 2)) (.seq (.block 3 (ZR [Zm 29 27,u1 30 (.index false 6 1) [.tm 26,.tm 27],Zm 10 29,Zm 11 30] (.region [Zm 31 10,Zm 32 11,Zm 33 6,u1 34 .quo [.tm 32,.tm 33],Za 35 0 9,u1 36 (.idxArr 6 1) [.tm 35,.tm 31],Zs 1 36 34]))) (.region [Zp 37 27 1,Zm 27 37]))))))) (.seq (ZR [Zt 38 7 9,Zc 39 96 38,Zq 40 .neq 39 0] (ZC 40 (ZR [u1 41 (.build [(.int .i64 0),(.int .i64 0),(.int .i64 0),(.int .i64 0),(.int .i64 0),(.int .i64 0),(.int .i64 0)] []) [],Zs 7 4 41,Zi 5 7] .ret) .skip)) (ZR [Zt 42 7 9,Zs 7 4 42,Zi 5 0] .ret)))))))⟩
theorem Yxm:Yg YCX Tryz.f115=some v115:=by kernel_rfl
def v114:VF:=⟨5,[.tmp 2],(ZR [Zi 2 0] (ZR [Zm 3 0,Zc 4 60 3,Zm 2 4] .ret))⟩
theorem Yxl:Yg YCX Tryz.f114=some v114:=by kernel_rfl
def v60:VF:=⟨18,[.tmp 2],(ZR [Zi 2 0] (ZR [Zi 3 0] (.seq (ZR [Zm 6 0,Zl 7 6,Zi 8 0] (.block 0 (.loop (ZR [Zr 9 .lss 8 7] (.seq (ZC 9 .skip (.exit 0)) (.seq (.block 1 (ZR [Zx 10 1 6 8,Zf 11 1 10,Zm 5 11] (ZR [Zm 12 5,Zm 13 3,Zr 14 .neq 12 13] (ZC 14 (ZR [Zm 15 5,Zm 2 15] .ret) .skip)))) (.region [Zp 16 8 1,Zm 8 16]))))))) (ZR [Zm 17 3,Zm 2 17] .ret))))⟩
theorem YB9:Yg YCX Tryz.f60=some v60:=by kernel_rfl
def v95:VF:=⟨53,[.cell 6 true 7,.tmp 7],(ZR [u1 3 .box [.tm 0],u1 4 .box [.tm 1],u1 6 (.alloc [(.int .i64 0),(.int .i64 0),(.int .i64 0),(.int .i64 0),(.int .i64 0),(.int .i64 0),(.int .i64 0)]) [],Zi 7 0] (.seq (.seq (.draw [] [Zw 11 7 3,Zw 13 7 4,w1 12 (.call 96) [.tm 11],w1 14 (.call 96) [.tm 13],w1 15 (.buildSlice 1 2 [(.int .i64 0)] [(0,1),(1,1)]) [.tm 12,.tm 14],w1 16 (.call 114) [.tm 15],Zu 8 16]) (ZR [Zm 17 8,Zq 18 .neq 17 0] (ZC 18 (ZR [u1 19 (.build [(.int .i64 0),(.int .i64 0),(.int .i64 0),(.int .i64 0),(.int .i64 0),(.int .i64 0),(.int .i64 0)] []) [],Zm 20 8,Zs 7 6 19,Zm 7 20] .ret) .skip))) (ZR [u1 9 (.allocArr 6 1 [(.int .i64 0),(.int .i64 0),(.int .i64 0),(.int .i64 0),(.int .i64 0),(.int .i64 0)]) []] (.seq (ZR [Zi 21 0] (.block 0 (.loop (ZR [Zq 22 .lss 21 6] (.seq (ZC 22 .skip (.exit 0)) (.seq (.block 1 (ZR [Zm 23 21,Zm 10 23] (.draw [] [Zu 24 10,Zu 25 10,Zy 26 0 3,w1 27 (.idxArr 6 1) [.tm 26,.tm 25],Zv 28 1 27,Zy 29 6 4,Zv 30 1 29,w1 31 (.ari .mul) [.tm 28,.tm 30],Zu 32 2,Zu 33 10,Zy 34 0 4,w1 35 (.idxArr 6 1) [.tm 34,.tm 33],Zv 36 1 35,w1 37 (.ari .mul) [.tm 32,.tm 36],Zy 38 6 3,Zv 39 1 38,w1 40 (.ari .mul) [.tm 37,.tm 39],w1 41 (.ari .add) [.tm 31,.tm 40],w1 42 (.idxArr 6 1) [.tm 9,.tm 24],ZS 1 42 41]))) (.region [Zp 43 21 1,Zm 21 43]))))))) (ZR [Zt 44 6 9,Za 45 6 3,Zf 46 1 45,Za 47 6 4,Zf 48 1 47,Zo 49 .mul 46 48,Zd 50 115 44 49,Ze 51 0 50,Ze 52 1 50,Zs 7 6 51,Zm 7 52] .ret)))))⟩
theorem YCG:Yg YCX Tryz.f95=some v95:=by kernel_rfl
def v112:VF:=⟨11,[.cell 4 true 7,.tmp 5],(ZR [u1 2 .box [.tm 0],u1 3 .box [.tm 1],u1 4 (.alloc [(.int .i64 0),(.int .i64 0),(.int .i64 0),(.int .i64 0),(.int .i64 0),(.int .i64 0),(.int .i64 0)]) [],Zi 5 0] (ZR [Zt 6 7 2,Zt 7 7 3,u1 8 (.call 95) [.tm 6,.tm 7,.cn (.int .i64 1)],Ze 9 0 8,Ze 10 1 8,Zs 7 4 9,Zm 5 10] .ret))⟩
theorem Yxj:Yg YCX Tryz.f112=some v112:=by kernel_rfl
def v72:VF:=⟨11,[.cell 4 true 7,.tmp 5],(ZR [u1 2 .box [.tm 0],u1 3 .box [.tm 1],u1 4 (.alloc [(.int .i64 0),(.int .i64 0),(.int .i64 0),(.int .i64 0),(.int .i64 0),(.int .i64 0),(.int .i64 0)]) [],Zi 5 0] (ZR [Zt 6 7 2,Zt 7 7 3,u1 8 (.call 95) [.tm 6,.tm 7,.cn (.int .i64 (-1))],Ze 9 0 8,Ze 10 1 8,Zs 7 4 9,Zm 5 10] .ret))⟩
theorem YCl:Yg YCX Tryz.f72=some v72:=by kernel_rfl
theorem YAE{hp:List HO}{n size j:Nat}{k:IntKind}{i:Int}:Ybu hp n size [.ptr j 3,.int k i]=YsI (getH hp j) n size j 3 i:=rfl
theorem q_fl6{get:Nat->List SV}:YeL 6 0 get=get 0++(get 1++(get 2++(get 3++(get 4++(get 5++[]))))):=rfl
theorem YAF{hp:List HO}{n size:Nat}{t:Bool}{cs:List SV}{k:IntKind}{i:Int}:Ybu hp n size [.xp t cs,.int k i]=YD (0<=i/\i<n/\n*size<=lenL cs) (.xp t (Yl (i.toNat*size) cs)):=rfl
attribute [go_sem] YAE YAF q_fl6
def Rt.num(r:Rt):Nat->Int
 |0=>r.a
 |1=>r.b
 |2=>r.c
 |3=>r.d
 |4=>r.e
 |_=>r.f
theorem six{i:Nat}(h:i<6):i=0\/i=1\/i=2\/i=3\/i=4\/i=5:=by omega
theorem Yec(r:Rt){i:Nat}(h:i<6):Yt 1 (Yl (i*1) [.int .i64 r.a,.int .i64 r.b,.int .i64 r.c,.int .i64 r.d,.int .i64 r.e,.int .i64 r.f])=[.int .i64 (r.num i)]:=by
 rcases six h with rfl|rfl|rfl|rfl|rfl|rfl <;> rfl
theorem YmC(r:Rt){i:Nat}(h:i<6):Yt 1 (Yl (idxN (i:Int) 1) [.int .i64 r.a,.int .i64 r.b,.int .i64 r.c,.int .i64 r.d,.int .i64 r.e,.int .i64 r.f,.int .i64 r.n])=[.int .i64 (r.num i)]:=by
 rcases six h with rfl|rfl|rfl|rfl|rfl|rfl <;> rfl
theorem YmB(r:Rt){i:Nat}(h:i<6):1<=lenL (Yl (idxN (i:Int) 1) [.int .i64 r.a,.int .i64 r.b,.int .i64 r.c,.int .i64 r.d,.int .i64 r.e,.int .i64 r.f,.int .i64 r.n]):=by
 rcases six h with rfl|rfl|rfl|rfl|rfl|rfl <;> exact Nat.le_of_ble_eq_true rfl
def gP(r:Rt):Nat->Nat
 |0=>r.n.toNat
 |i+1=>YDw (gP r i) (r.num i).natAbs
theorem gP_6(r:Rt):gP r 6=gcdR r:=rfl
theorem Yvw(r:Rt):∀i,gP r i<=r.n.toNat\/r.n.toNat=0
 |0=> .inl (YC2 _)
 |i+1=>by
   rcases Yvw r i with h|h
   . rcases Nat.eq_zero_or_pos (gP r i)with h0|h0
     . right
       have key:∀j,gP r j=0->r.n.toNat=0:=fun j=>by
         induction j with
         |zero=>exact id
         |succ j ih=>intro hj;exact ih (Nat.gcd_eq_zero_iff.1 hj).1
       exact key i h0
     . left;exact YDp (Nat.gcd_le_left _ h0) h
   . exact .inr h
theorem YtY{r:Rt}(h:1<=r.n):∀i,1<=gP r i
 |0=>by show 1<=r.n.toNat;omega
 |i+1=>Nat.gcd_pos_of_pos_left _ (YtY h i)
def bad6(r:Rt):Bool:=badN r.a|| (badN r.b|| (badN r.c|| (badN r.d|| (badN r.e|| badN r.f))))
theorem Yzc{r:Rt}{i:Nat}(h:i<6)(hb:badN (r.num i)=true):bad6 r=true:=by
 unfold bad6
 rcases six h with rfl|rfl|rfl|rfl|rfl|rfl <;> (simp only[Rt.num]at hb;rw[hb];simp)
theorem Yzb{r:Rt}(h:∀i,i<6->badN (r.num i)=false):bad6 r=false:=by
 unfold bad6
 have h0:=h 0 (by decide);have h1:=h 1 (by decide);have h2:=h 2 (by decide);have h3:=h 3 (by decide);have h4:=h 4 (by decide);have h5:=h 5 (by decide)
 simp only[Rt.num]at h0 h1 h2 h3 h4 h5
 rw[h0,h1,h2,h3,h4,h5];rfl
theorem Yu7(r:Rt):chkR r=if r.n<1\/1000<r.n then 2 else if bad6 r=true then 2 else if 1<gcdR r then 6 else 0:=rfl
theorem YeT(x:Int)(h: -9000000000000000000<=x/\x<=9000000000000000000):max x (IntKind.i64.wrap (0-x))=(x.natAbs:Int):=by
 rw[YCW (0-x) (by omega)]
 omega
def absC:Ctr:={ alias:=false,of:=fun l=>match l with
 | [.int .i64 x]=> .pre (-9000000000000000000<=x/\x<=9000000000000000000) (.fin (.int .i64 (x.natAbs:Nat)) [])
 |_=>noC}
def TB0:Env:={ ct:=fun _=>none,fn:=fun _=>none,meth:=fun _ _=>none}
theorem Yyn:Yo YCX TB0:=by
 refine⟨fun f c h=>?_,fun f vf h=>?_,(fun _ _ _ h=>by cases h),by kernel_rfl,(fun _ h=>by cases h)⟩
 . cases h
 . cases h
theorem Yy2:absC.ok YCX 117:=by
 refine Yb Tryz.func117 Yxo Yyn 100 absC fun args k h=>?_
 simp only[absC]at h
 split at h
 . rename_i x
   obtain⟨hx,h⟩:=h
   refine⟨[.int .i64 x],by simp [leL,le],?_⟩
   dsimp only[v117,go_sem,reduceIte,YCS]
   simp only[Yd,YCS,YCU,reduceCtorEq,YCT]
   rw[YeT x hx]
   exact Yj h
 . exact h.1.elim
def chkRC:Ctr:={ alias:=false,of:=fun l=>match l with
 | [.agg [.int .i64 a,.int .i64 b,.int .i64 c,.int .i64 d,.int .i64 e,.int .i64 f,.int .i64 n]]=> .fin (.int .i64 (chkR ⟨a,b,c,d,e,f,n⟩)) []
 |_=>noC}
def TB1:Env:={ ct:=fun n=>match n with|117=>some absC|116=>some gcdC|_=>none,fn:=fun _=>none,meth:=fun _ _=>none}
theorem YjA:TB1.ct 117=some absC:=rfl
theorem Yjz:TB1.ct 116=some gcdC:=rfl
theorem Yyo:Yo YCX TB1:=by
 refine⟨fun f c h=>?_,fun f vf h=>?_,(fun _ _ _ h=>by cases h),by kernel_rfl,(fun _ h=>by cases h)⟩
 . simp only[TB1]at h
   split at h
   . cases h;exact⟨Yy2,Tryz.f117,Tryz.func117,by kernel_rfl,by kernel_rfl⟩
   . cases h;exact⟨Yvy,Tryz.f116,Tryz.func116,by kernel_rfl,by kernel_rfl⟩
   . cases h
 . cases h
theorem Yms:chkRC.ok YCX 96:=by
 refine Yb Tryz.func96 YCH Yyo 300 chkRC fun args k h=>?_
 simp only[chkRC]at h
 split at h
 . rename_i a b c d e f n
   refine⟨[.agg [.int .i64 a,.int .i64 b,.int .i64 c,.int .i64 d,.int .i64 e,.int .i64 f,.int .i64 n]],by simp [leL,le],?_⟩
   obtain⟨r,hr⟩:∃r:Rt,r=⟨a,b,c,d,e,f,n⟩:=⟨_,rfl⟩
   rw[<-hr]at h
   have h:k (.int .i64 (chkR r)) []:=h
   rw[show a=r.a by rw[hr],show b=r.b by rw[hr],show c=r.c by rw[hr],show d=r.d by rw[hr],show e=r.e by rw[hr],show f=r.f by rw[hr],show n=r.n by rw[hr]]
   clear hr
   rw[Yu7]at h
   dsimp only[v96,go_sem,reduceIte,YCS]
   simp only[Yd,YCS,YCU,reduceCtorEq,YCT]
   refine⟨fun hc=>?_,fun hc=>?_⟩
   . rw[if_pos (by simpa using hc)]at h;exact Yj h
   have hn:1<=r.n/\r.n<=1000:=by simp only[YDb,decide_eq_false_iff_not]at hc;omega
   rw[if_neg (by omega)]at h
   refine Loop.keep [2,14] Nat (fun i=>[(3,.int .i64 (gP r i:Nat)),(18,.int .i64 i)]) (fun _=>[]) [] (fun i=>i<=6/\∀j,j<i->badN (r.num j)=false) (fun i=>6-i) ?_ ?_
   . refine⟨0,⟨by omega,fun j hj=>by omega⟩,?_⟩
     dsimp only[go_sem,reduceIte,YCS]
     simp only[Ya]
     exact⟨(YDf (by omega)).symm,rfl⟩
   . rintro i ⟨hi,hall⟩
     dsimp only[YjA,Yjz,absC,gcdC,YCY,go_sem,reduceIte,YCS]
     simp only[Yd,YCS,YCU,reduceCtorEq,YCT]
     refine⟨fun hlt=>?_,fun hge=>?_⟩
     . have hi6:i<6:=by omega
       rw[Yec r hi6]
       dsimp only[YjA,Yjz,absC,gcdC,go_sem,reduceIte,YCS]
       simp only[Yd,YCS,YCU,reduceCtorEq,YCT]
       have hgl:gP r i<=1000:=by rcases Yvw r i with h1|h1 <;> omega
       refine⟨⟨by omega,by omega⟩,fun hb=>?_,fun hb=>⟨?_,gP r i,(r.num i).natAbs,⟨rfl,rfl,by omega,?_⟩,i+1,⟨by omega,fun j hj=>?_⟩,by omega,?_⟩⟩
       . rw[if_pos (Yzc hi6 hb)]at h;exact Yj h
       . have:=Yeb hb;omega
       . have:=Yeb hb;omega
       . rcases YC4 j i with h1|h1
         . exact hall j h1
         . obtain rfl:j=i:=by omega
           exact hb
       . rw[YCW ((i:Int)+1) (by omega)]
         simp only[Ya]
         exact⟨rfl,by simp⟩
     . obtain rfl:i=6:=by omega
       rw[if_neg (by rw[Yzb hall];decide),<-gP_6]at h
       refine⟨fun hc=>?_,fun hc=>?_⟩
       . rw[if_pos (by omega)]at h;exact Yj h
       . rw[if_neg (by omega)]at h;exact Yj h
 . exact h.1.elim
def YgU(q:Nat->Int)(n:Int)(i:Nat):List SV:=
 [.int .i64 (if 0<i then q 0 else 0),.int .i64 (if 1<i then q 1 else 0),.int .i64 (if 2<i then q 2 else 0),.int .i64 (if 3<i then q 3 else 0),.int .i64 (if 4<i then q 4 else 0),.int .i64 (if 5<i then q 5 else 0),.int .i64 n]
theorem Yu6(q:Nat->Int)(n:Int):YgU q n 6=[.int .i64 (q 0),.int .i64 (q 1),.int .i64 (q 2),.int .i64 (q 3),.int .i64 (q 4),.int .i64 (q 5),.int .i64 n]:=rfl
theorem Ypf(q:Nat->Int)(n:Int)(i:Nat):lenL (YgU q n i)=7:=rfl
theorem YU(q:Nat->Int)(n:Int)(i m:Nat):bndL m (YgU q n i):=by simp [YgU,bndL,bnd]
theorem YnC(q:Nat->Int)(n:Int){i:Nat}(h:i<6):Ys (YgU q n i) (idxN (i:Int) 1) [.int .i64 (q i)]=YgU q n (i+1):=by
 rcases six h with rfl|rfl|rfl|rfl|rfl|rfl <;> rfl
theorem Ykk(i:Nat):idxN (i:Int) 1=i:=by simp [idxN]
theorem Yrd(x:Int)(g:Nat)(h: -9000000000000000000<=x/\x<=9000000000000000000): -9000000000000000000<=x.tdiv g/\x.tdiv g<=9000000000000000000:=by
 have h1:(x.tdiv g).natAbs<=x.natAbs:=by
   rw[Int.natAbs_tdiv]
   exact Nat.div_le_self _ _
 omega
def madeC:Ctr:={ alias:=false,of:=fun l=>match l with
 | [.agg [.int .i64 a,.int .i64 b,.int .i64 c,.int .i64 d,.int .i64 e,.int .i64 f],.int .i64 n]=>
   .pre (1<=n/\n<=9000000000000000000/\∀i,i<6-> -9000000000000000000<=(Rt.mk a b c d e f n).num i/\(Rt.mk a b c d e f n).num i<=9000000000000000000) (.fin (.tup [.agg (encR (YdS ⟨a,b,c,d,e,f,n⟩).1),.int .i64 (YdS ⟨a,b,c,d,e,f,n⟩).2]) [])
 |_=>noC}
theorem YbF{k:SV->List HO->Prop}{al:Bool}{hp:List HO}{r:Rt}{e:Int}(h:k (.tup [.agg (encR r),.int .i64 e]) []):YB al k (.tup [.agg (encR r),.int .i64 e]) hp:=
 YE (show k _ []from h) (YA (.tup [.agg (encR r),.int .i64 e]) ⟨⟨trivial,trivial,trivial,trivial,trivial,trivial,trivial,trivial⟩,trivial,trivial⟩) (fun _=>by simp [Ym,Yp,encR])
theorem Ysk{k:SV->List HO->Prop}{al:Bool}{hp:List HO}{r:Rt}(h:k (.agg (encR r)) []):YB al k (.agg (encR r)) hp:=
 YE (show k _ []from h) (YA (.agg (encR r)) ⟨trivial,trivial,trivial,trivial,trivial,trivial,trivial,trivial⟩) (fun _=>by simp [Ym,Yp,encR])
def TB2:Env:={ ct:=fun n=>match n with|117=>some absC|116=>some gcdC|96=>some chkRC|_=>none,fn:=fun _=>none,meth:=fun _ _=>none}
theorem YjC:TB2.ct 117=some absC:=rfl
theorem YjB:TB2.ct 116=some gcdC:=rfl
theorem YhG:TB2.ct 96=some chkRC:=rfl
theorem Yyp:Yo YCX TB2:=by
 refine⟨fun f c h=>?_,fun f vf h=>?_,(fun _ _ _ h=>by cases h),by kernel_rfl,(fun _ h=>by cases h)⟩
 . simp only[TB2]at h
   split at h
   . cases h;exact⟨Yy2,Tryz.f117,Tryz.func117,by kernel_rfl,by kernel_rfl⟩
   . cases h;exact⟨Yvy,Tryz.f116,Tryz.func116,by kernel_rfl,by kernel_rfl⟩
   . cases h;exact⟨Yms,Tryz.f96,Tryz.func96,by kernel_rfl,by kernel_rfl⟩
   . cases h
 . cases h
theorem Yqj:madeC.ok YCX 115:=by
 refine Yb Tryz.func115 Yxm Yyp 300 madeC fun args k h=>?_
 simp only[madeC]at h
 split at h
 . rename_i a b c d e f n
   refine⟨[.agg [.int .i64 a,.int .i64 b,.int .i64 c,.int .i64 d,.int .i64 e,.int .i64 f],.int .i64 n],by simp [leL,le],?_⟩
   obtain⟨r,hr⟩:∃r:Rt,r=⟨a,b,c,d,e,f,n⟩:=⟨_,rfl⟩
   rw[<-hr]at h
   rw[show a=r.a by rw[hr],show b=r.b by rw[hr],show c=r.c by rw[hr],show d=r.d by rw[hr],show e=r.e by rw[hr],show f=r.f by rw[hr]]
   rw[show n=r.n by rw[hr]]at h⊢
   clear hr
   obtain⟨⟨hn,hn2,hb⟩,h⟩:=h
   have h:k (.tup [.agg (encR (YdS r).1),.int .i64 (YdS r).2]) []:=h
   dsimp only[v115,go_sem,reduceIte,YCS]
   simp only[Yd,YCS,YCU,reduceCtorEq,YCT]
   refine Loop.keep [1,0,1,0,7] Nat (fun i=>[(6,.int .i64 (gP r i:Nat)),(14,.int .i64 i)]) (fun _=>[]) [] (fun i=>i<=6) (fun i=>6-i) ?_ ?_
   . refine⟨0,by omega,?_⟩
     dsimp only[go_sem,reduceIte,YCS]
     simp only[Ya]
     repeat' apply YC3
     all_goals first|exact trivial|decide|rfl|omega|exact(YDf (by omega)).symm|exact Yc _ (YU _ _ _ _) |simp
   . rintro i hi
     dsimp only[YjC,YjB,absC,gcdC,YCY,go_sem,reduceIte,YCS]
     simp only[Yd,YCS,YCU,reduceCtorEq,YCT]
     have hgl:gP r i<=9000000000000000000:=by rcases Yvw r i with h1|h1 <;> omega
     have hg0:=YtY hn i
     refine⟨fun hlt=>?_,fun hge=>?_⟩
     . have hi6:i<6:=by omega
       rw[Yec r hi6]
       dsimp only[YjC,YjB,absC,gcdC,go_sem,reduceIte,YCS]
       simp only[Yd,YCS,YCU,reduceCtorEq,YCT]
       refine⟨⟨by omega,by omega⟩,hb i hi6,gP r i,(r.num i).natAbs,⟨rfl,rfl,by omega,?_⟩,i+1,by omega,by omega,?_⟩
       . have:=hb i hi6;omega
       . rw[YCW ((i:Int)+1) (by omega)]
         simp only[Ya]
         repeat' apply YC3
         all_goals first|exact trivial|decide|rfl|omega|exact(YDf (by omega)).symm|exact Yc _ (YU _ _ _ _) |simp
     . obtain rfl:i=6:=by omega
       rw[gP_6]at hgl hg0⊢
       obtain⟨g,hg⟩:∃g,g=gcdR r:=⟨_,rfl⟩
       rw[YdS,<-hg]at h
       rw[<-hg]at hgl hg0⊢
       have hdn:=Yrd r.n g (by omega)
       rw[YCW (r.n.tdiv (g:Int)) (by omega)]
       refine⟨by omega,?_⟩
       refine Loop.keep [4,0,0,2,16] Nat (fun i=>[(27,.int .i64 i)]) (fun i=>[(2,.box (YgU (fun j=>(r.num j).tdiv g) (r.n.tdiv g) i))]) [] (fun i=>i<=6) (fun i=>6-i) ?_ ?_
       . refine⟨0,by omega,?_⟩
         dsimp only[YgU,go_sem,reduceIte,YCS]
         simp only[Ya]
         repeat' apply YC3
         all_goals first|exact trivial|decide|rfl|omega|exact(YDf (by omega)).symm|exact Yc _ (YU _ _ _ _) |simp
       . rintro i hi
         dsimp only[YhG,chkRC,YCY,go_sem,reduceIte,YCS]
         simp only[Yd,YCS,YCU,reduceCtorEq,YCT]
         refine⟨fun hlt=>?_,fun hge=>?_⟩
         . have hi6:i<6:=by omega
           rw[Yec r hi6]
           dsimp only[YhG,chkRC,go_sem,reduceIte,YCS]
           simp only[Yd,YCS,YCU,reduceCtorEq,YCT]
           have hw:=Yrd (r.num i) g (hb i hi6)
           have e:Ys (YgU (fun j=>(r.num j).tdiv g) (r.n.tdiv g) i) (idxN (i:Int) 1) [.int .i64 ((r.num i).tdiv g)]=YgU (fun j=>(r.num j).tdiv g) (r.n.tdiv g) (i+1):=YnC (fun j=>(r.num j).tdiv g) (r.n.tdiv g) hi6
           rw[YCW ((r.num i).tdiv g) (by omega),YCW ((i:Int)+1) (by omega),e]
           refine⟨⟨by omega,by omega⟩,by omega,⟨by omega,by omega⟩,by rw[Ykk,Ypf];omega,i+1,by omega,by omega,?_⟩
           simp only[Ya]
           repeat' apply YC3
           all_goals first|exact trivial|decide|rfl|omega|exact(YDf (by omega)).symm|exact Yc _ (YU _ _ _ _) |simp
         . obtain rfl:i=6:=by omega
           simp only[Yu6]
           dsimp only[YhG,chkRC,Rt.num,go_sem,reduceIte,YCS]
           simp only[Yd,YCS,YCU,reduceCtorEq,YCT]
           refine⟨fun hc=>?_,fun hc=>?_⟩
           . rw[if_neg (show¬chkR (divR r g)=0 from hc)]at h;exact YbF (r:=YaC) (e:=7) h
           . rw[if_pos (show chkR (divR r g)=0 from hc)]at h;exact YbF (r:=divR r g) (e:=0) h
 . exact h.1.elim
def orF:List Int->Int
 | []=>0
 |x::l=>if x≠0 then x else orF l
theorem Yuf{l:List Int}{i:Nat}(hi:i<l.length)(h:∀j,j<i->l.getD j 0=0)(hx:l.getD i 0≠0):orF l=l.getD i 0:=by
 induction l generalizing i with
 |nil=>simp at hi
 |cons x l ih=>
   cases i with
   |zero=>exact if_pos hx
   |succ i=>
     rw[orF,if_neg (by have:=h 0 (by omega);simpa using this)]
     exact ih (by simpa using hi) (fun j hj=>h (j+1) (by omega)) hx
theorem Ym2{l:List Int}(h:∀j,j<l.length->l.getD j 0=0):orF l=0:=by
 induction l with
 |nil=>rfl
 |cons x l ih=>
   rw[orF,if_neg (by have:=h 0 (by simp);simpa using this)]
   exact ih fun j hj=>h (j+1) (by simpa using hj)
def orC:Ctr:={ alias:=false,of:=fun l=>match l with
 | [.vs _ _ n sz get]=> .ex (List Int) fun l=> .pre (lsP 1 enc1 n sz get l/\n<=1000000) (.fin (.int .i64 (orF l)) [])
 |_=>noC}
def TB3:Env:={ ct:=fun _=>none,fn:=fun _=>none,meth:=fun _ _=>none}
theorem Yyq:Yo YCX TB3:=by
 refine⟨fun f c h=>?_,fun f vf h=>?_,(fun _ _ _ h=>by cases h),by kernel_rfl,(fun _ h=>by cases h)⟩
 . cases h
 . cases h
theorem or_c:orC.ok YCX 60:=by
 refine Yb Tryz.func60 YB9 Yyq 300 orC fun args k h=>?_
 simp only[orC]at h
 split at h
 . rename_i tt z n sz get
   obtain⟨l,⟨⟨rfl,rfl,hg⟩,hn⟩,h⟩:=h
   refine⟨[.vs tt z l.length 1 (fun k=>enc1 (l.getD k default))],⟨⟨id,rfl,rfl,rfl,hg⟩,trivial⟩,?_⟩
   have h:k (.int .i64 (orF l)) []:=h
   dsimp only[v60,enc1,go_sem,reduceIte,YCS]
   simp only[Yd,YCS,YCU,reduceCtorEq,YCT]
   refine Loop.keep [3,2,0] Nat (fun i=>[(8,.int .i64 i)]) (fun _=>[]) [] (fun i=>i<=l.length/\∀j,j<i->l.getD j 0=0) (fun i=>l.length-i) ?_ ?_
   . refine⟨0,⟨by omega,fun j hj=>by omega⟩,?_⟩
     dsimp only[go_sem,reduceIte,YCS]
     simp only[Ya]
     repeat' apply YC3
     all_goals first|exact trivial|decide|rfl|omega|exact(YDf (by omega)).symm|exact Yc _ (YU _ _ _ _) |simp
   . rintro i ⟨hi,hall⟩
     dsimp only[enc1,YCY,go_sem,reduceIte,YCS]
     simp only[Yd,YCS,YCU,reduceCtorEq,YCT]
     refine⟨fun hlt=>⟨⟨by omega,by omega⟩,fun hc=>?_,fun hc=>⟨i+1,⟨by omega,fun j hj=>?_⟩,by omega,?_⟩⟩,fun hge=>?_⟩
     . rw[Yuf (by omega) hall hc]at h;exact Yj h
     . rcases YC4 j i with h1|h1
       . exact hall j h1
       . obtain rfl:j=i:=by omega
         exact hc
     . rw[YCW ((i:Int)+1) (by omega)]
       simp only[Ya]
       repeat' apply YC3
       all_goals first|exact trivial|decide|rfl|omega|exact(YDf (by omega)).symm|exact Yc _ (YU _ _ _ _) |simp
     . obtain rfl:i=l.length:=by omega
       rw[Ym2 hall]at h;exact Yj h
 . exact h.1.elim
def TB5:Env:={ ct:=fun n=>match n with|60=>some orC|_=>none,fn:=fun _=>none,meth:=fun _ _=>none}
theorem YrI:TB5.ct 60=some orC:=rfl
theorem Yys:Yo YCX TB5:=by
 refine⟨fun f c h=>?_,fun f vf h=>?_,(fun _ _ _ h=>by cases h),by kernel_rfl,(fun _ h=>by cases h)⟩
 . simp only[TB5]at h
   split at h
   . cases h;exact⟨or_c,Tryz.f60,Tryz.func60,by kernel_rfl,by kernel_rfl⟩
   . cases h
 . cases h
theorem Yvr:orC.ok YCX 114:=by
 refine Yb Tryz.func114 Yxl Yys 300 orC fun args k h=>?_
 simp only[orC]at h
 split at h
 . rename_i tt z n sz get
   obtain⟨l,⟨⟨rfl,rfl,hg⟩,hn⟩,h⟩:=h
   refine⟨[.vs tt z l.length 1 (fun k=>enc1 (l.getD k default))],⟨⟨id,rfl,rfl,rfl,hg⟩,trivial⟩,?_⟩
   have h:k (.int .i64 (orF l)) []:=h
   dsimp only[v114,YrI,orC,enc1,go_sem,reduceIte,YCS]
   simp only[Yd,YCS,YCU,reduceCtorEq,YCT]
   exact⟨l,⟨⟨rfl,rfl,fun k _=>Ye _⟩,hn⟩,Yj h⟩
 . exact h.1.elim
def YgY(q:Nat->Int)(i k:Nat):Int:=if k<i then q k else 0
theorem YAi(q:Nat->Int):YgY q 6 0=q 0:=rfl
theorem YAj(q:Nat->Int):YgY q 6 1=q 1:=rfl
theorem YAk(q:Nat->Int):YgY q 6 2=q 2:=rfl
theorem YAl(q:Nat->Int):YgY q 6 3=q 3:=rfl
theorem YAm(q:Nat->Int):YgY q 6 4=q 4:=rfl
theorem YAn(q:Nat->Int):YgY q 6 5=q 5:=rfl
theorem YnQ(q:Nat->Int)(i k:Nat):(if k=i then q i else YgY q i k)=YgY q (i+1) k:=by
 unfold YgY
 by_cases h:k=i
 . subst h;rw[if_pos rfl,if_pos (by omega)]
 . rw[if_neg h]
   by_cases h2:k<i
   . rw[if_pos h2,if_pos (by omega)]
   . rw[if_neg h2,if_neg (by omega)]
theorem YCR{i:Nat}(h:i<6):YaO 1 [.int .i64 0,.int .i64 0,.int .i64 0,.int .i64 0,.int .i64 0,.int .i64 0] i=[.int .i64 0]:=by
 rcases six h with rfl|rfl|rfl|rfl|rfl|rfl <;> rfl
def YcP(x y:Rt)(s:Int)(i:Nat):Int:=x.num i*y.n+s*y.num i*x.n
theorem YmR(x y:Rt)(s:Int):Ybe x y s=if chkR x≠0 then(YaC,chkR x)else if chkR y≠0 then(YaC,chkR y)else YdS ⟨YcP x y s 0,YcP x y s 1,YcP x y s 2,YcP x y s 3,YcP x y s 4,YcP x y s 5,x.n*y.n⟩:=rfl
theorem Yc4{r:Rt}(h:chkR r=0){i:Nat}(hi:i<6): -100000<=r.num i/\r.num i<=100000:=by
 obtain⟨_,h1,h2,h3,h4,h5,h6,_⟩:=Ylv h
 rcases six hi with rfl|rfl|rfl|rfl|rfl|rfl
 . exact Yeb h1
 . exact Yeb h2
 . exact Yeb h3
 . exact Yeb h4
 . exact Yeb h5
 . exact Yeb h6
theorem Yee{r:Rt}(h:chkR r=0):1<=r.n/\r.n<=1000:=(Ylv h).1
theorem YpV{x y:Rt}{s:Int}(hx:chkR x=0)(hy:chkR y=0)(hs:s=1\/s= -1){i:Nat}(hi:i<6):
   IntKind.i64.wrap (x.num i*y.n)=x.num i*y.n/\IntKind.i64.wrap (s*y.num i)=s*y.num i/\IntKind.i64.wrap (s*y.num i*x.n)=s*y.num i*x.n/\IntKind.i64.wrap (x.num i*y.n+s*y.num i*x.n)=YcP x y s i/\ -1000000000<=YcP x y s i/\YcP x y s i<=1000000000:=by
 have a1:=Yc4 hx hi
 have a2:=Yc4 hy hi
 have a3:=Yee hx
 have a4:=Yee hy
 have b1:=Ya4 (x:=x.num i) (y:=y.n) (X:=100000) (Y:=1000) a1 (by omega)
 have a5: -100000<=s*y.num i/\s*y.num i<=100000:=by rcases hs with rfl|rfl <;> omega
 have b2:=Ya4 (x:=s*y.num i) (y:=x.n) (X:=100000) (Y:=1000) a5 (by omega)
 unfold YcP
 refine⟨YCW _ (by omega),YCW _ (by omega),YCW _ (by omega),YCW _ (by omega),by omega,by omega⟩
def joinC:Ctr:={ alias:=false,of:=fun l=>match l with
 | [.agg [.int .i64 a,.int .i64 b,.int .i64 c,.int .i64 d,.int .i64 e,.int .i64 f,.int .i64 n],.agg [.int .i64 a',.int .i64 b',.int .i64 c',.int .i64 d',.int .i64 e',.int .i64 f',.int .i64 n'],.int .i64 s]=>
   .pre (s=1\/s= -1) (.fin (.tup [.agg (encR (Ybe ⟨a,b,c,d,e,f,n⟩ ⟨a',b',c',d',e',f',n'⟩ s).1),.int .i64 (Ybe ⟨a,b,c,d,e,f,n⟩ ⟨a',b',c',d',e',f',n'⟩ s).2]) [])
 |_=>noC}
def TB4:Env:={ ct:=fun n=>match n with|96=>some chkRC|115=>some madeC|114=>some orC|_=>none,fn:=fun _=>none,meth:=fun _ _=>none}
theorem YrH:TB4.ct 96=some chkRC:=rfl
theorem YdX:TB4.ct 115=some madeC:=rfl
theorem Yoz:TB4.ct 114=some orC:=rfl
theorem Yyr:Yo YCX TB4:=by
 refine⟨fun f c h=>?_,fun f vf h=>?_,(fun _ _ _ h=>by cases h),by kernel_rfl,(fun _ h=>by cases h)⟩
 . simp only[TB4]at h
   split at h
   . cases h;exact⟨Yms,Tryz.f96,Tryz.func96,by kernel_rfl,by kernel_rfl⟩
   . cases h;exact⟨Yqj,Tryz.f115,Tryz.func115,by kernel_rfl,by kernel_rfl⟩
   . cases h;exact⟨Yvr,Tryz.f114,Tryz.func114,by kernel_rfl,by kernel_rfl⟩
   . cases h
 . cases h
theorem YzI:joinC.ok YCX 95:=by
 refine Yb Tryz.func95 YCG Yyr 300 joinC fun args k h=>?_
 simp only[joinC]at h
 split at h
 . rename_i a b c d e f n a' b' c' d' e' f' n' s
   refine⟨[.agg [.int .i64 a,.int .i64 b,.int .i64 c,.int .i64 d,.int .i64 e,.int .i64 f,.int .i64 n],.agg [.int .i64 a',.int .i64 b',.int .i64 c',.int .i64 d',.int .i64 e',.int .i64 f',.int .i64 n'],.int .i64 s],by simp [leL,le],?_⟩
   obtain⟨x,hx⟩:∃r:Rt,r=⟨a,b,c,d,e,f,n⟩:=⟨_,rfl⟩
   obtain⟨y,hy⟩:∃r:Rt,r=⟨a',b',c',d',e',f',n'⟩:=⟨_,rfl⟩
   rw[<-hx,<-hy]at h
   rw[show a=x.a by rw[hx],show b=x.b by rw[hx],show c=x.c by rw[hx],show d=x.d by rw[hx],show e=x.e by rw[hx],show f=x.f by rw[hx],show n=x.n by rw[hx]]
   rw[show a'=y.a by rw[hy],show b'=y.b by rw[hy],show c'=y.c by rw[hy],show d'=y.d by rw[hy],show e'=y.e by rw[hy],show f'=y.f by rw[hy],show n'=y.n by rw[hy]]
   clear hx hy
   obtain⟨hs,h⟩:=h
   have h:k (.tup [.agg (encR (Ybe x y s).1),.int .i64 (Ybe x y s).2]) []:=h
   dsimp only[v95,YrH,chkRC,Yoz,orC,go_sem,reduceIte,YCS]
   simp only[Yd,YCS,YCU,reduceCtorEq,YCT]
   refine⟨by decide,[chkR x,chkR y],⟨rfl,rfl,fun k hk=>?_⟩,fun hc=>?_,fun hc=>?_⟩
   . match k,hk with
     |0,_=>exact Ye _
     |1,_=>exact Ye _
   . rw[YmR]at h
     by_cases h0:chkR x=0
     . rw[if_neg (by rw[h0];decide)]at h
       have e:orF [chkR x,chkR y]=chkR y:=by
         rw[orF,if_neg (by rw[h0];decide),orF]
         split
         . rfl
         . rename_i h1;rw[orF];omega
       rw[e]at hc⊢
       rw[if_pos hc]at h
       exact YbF (r:=YaC) h
     . have e:orF [chkR x,chkR y]=chkR x:=by rw[orF,if_pos h0]
       rw[e]
       rw[if_pos h0]at h
       exact YbF (r:=YaC) h
   have hcx:chkR x=0:=by
     by_cases h0:chkR x=0
     . exact h0
     . rw[orF,if_pos h0]at hc;exact absurd hc h0
   have hcy:chkR y=0:=by
     rw[orF,if_neg (by rw[hcx];decide),orF]at hc
     by_cases h0:chkR y=0
     . exact h0
     . rw[if_pos h0]at hc;exact absurd hc h0
   rw[YmR,if_neg (by rw[hcx];decide),if_neg (by rw[hcy];decide)]at h
   refine Loop.keep [2,0,0,1,0,1] Nat (fun i=>[(21,.int .i64 i)]) (fun i=>[(4,.own false 1 6 (fun k=>[.int .i64 (YgY (YcP x y s) i k)]))]) [] (fun i=>i<=6) (fun i=>6-i) ?_ ?_
   . refine⟨0,by omega,?_⟩
     dsimp only[go_sem,reduceIte,YCS]
     simp only[Ya]
     refine⟨⟨by decide,by decide,by decide,by decide,rfl⟩,fun k hk=>?_⟩
     rw[YCR hk]
     exact⟨⟨rfl,rfl⟩,trivial⟩
   . rintro i hi
     dsimp only[YdX,madeC,YCY,go_sem,reduceIte,YCS]
     simp only[Yd,YCS,YCU,reduceCtorEq,YCT]
     refine⟨fun hlt=>?_,fun hge=>?_⟩
     . have hi6:i<6:=by omega
       have d1:=YmB x hi6
       have d2:=YmB y hi6
       rw[YmC x hi6]
       dsimp only[YdX,madeC,YCY,go_sem,reduceIte,YCS]
       simp only[Yd,YCS,YCU,reduceCtorEq,YCT]
       rw[YmC y hi6]
       dsimp only[YdX,madeC,YCY,go_sem,reduceIte,YCS]
       simp only[Yd,YCS,YCU,reduceCtorEq,YCT]
       obtain⟨j1,j2,j3,j4,_⟩:=YpV hcx hcy hs hi6
       rw[j1,j2,j3,j4]
       refine⟨⟨by omega,by omega⟩,d1,⟨by omega,by omega⟩,d2,⟨by omega,by omega⟩,hi6,i+1,by omega,by omega,?_⟩
       rw[YCW ((i:Int)+1) (by omega)]
       simp only[Ya]
       refine⟨⟨by decide,by decide,by decide,by decide,by simp⟩,?_⟩
       intro k hk
       rw[<-YnQ]
       split
       . exact⟨⟨rfl,rfl⟩,trivial⟩
       . exact⟨⟨rfl,rfl⟩,trivial⟩
     . obtain rfl:i=6:=by omega
       have a3:=Yee hcx
       have a4:=Yee hcy
       have hm:=Ya4 (x:=x.n) (y:=y.n) (X:=1000) (Y:=1000) (by omega) (by omega)
       have hm1:1<=x.n*y.n:=Int.mul_pos (by omega) (by omega)
       rw[YCW (x.n*y.n) (by omega)]
       simp only[YAi,YAj,YAk,YAl,YAm,YAn]
       dsimp only[YdX,madeC,encR,go_sem,reduceIte,YCS]
       simp only[Yd,YCS,YCU,reduceCtorEq,YCT]
       refine⟨⟨hm1,by omega,fun i hi=>?_⟩,?_⟩
       . have:=(YpV hcx hcy hs hi).2.2.2.2
         rcases six hi with rfl|rfl|rfl|rfl|rfl|rfl <;> (simp only[Rt.num];omega)
       . exact⟨by decide,by decide,YbF (r:=(YdS ⟨YcP x y s 0,YcP x y s 1,YcP x y s 2,YcP x y s 3,YcP x y s 4,YcP x y s 5,x.n*y.n⟩).1) h⟩
 . exact h.1.elim
def Yb2(s:Int):Ctr:={ alias:=false,of:=fun l=>match l with
 | [.agg [.int .i64 a,.int .i64 b,.int .i64 c,.int .i64 d,.int .i64 e,.int .i64 f,.int .i64 n],.agg [.int .i64 a',.int .i64 b',.int .i64 c',.int .i64 d',.int .i64 e',.int .i64 f',.int .i64 n']]=>
   .fin (.tup [.agg (encR (Ybe ⟨a,b,c,d,e,f,n⟩ ⟨a',b',c',d',e',f',n'⟩ s).1),.int .i64 (Ybe ⟨a,b,c,d,e,f,n⟩ ⟨a',b',c',d',e',f',n'⟩ s).2]) []
 |_=>noC}
def TB6:Env:={ ct:=fun n=>match n with|95=>some joinC|_=>none,fn:=fun _=>none,meth:=fun _ _=>none}
theorem Yl8:TB6.ct 95=some joinC:=rfl
theorem YtA:Yo YCX TB6:=by
 refine⟨fun f c h=>?_,fun f vf h=>?_,(fun _ _ _ h=>by cases h),by kernel_rfl,(fun _ h=>by cases h)⟩
 . simp only[TB6]at h
   split at h
   . cases h;exact⟨YzI,Tryz.f95,Tryz.func95,by kernel_rfl,by kernel_rfl⟩
   . cases h
 . cases h
theorem YAa:(Yb2 1).ok YCX 112:=by
 refine Yb Tryz.func112 Yxj YtA 300 (Yb2 1) fun args k h=>?_
 simp only[Yb2]at h
 split at h
 . rename_i a b c d e f n a' b' c' d' e' f' n'
   refine⟨[.agg [.int .i64 a,.int .i64 b,.int .i64 c,.int .i64 d,.int .i64 e,.int .i64 f,.int .i64 n],.agg [.int .i64 a',.int .i64 b',.int .i64 c',.int .i64 d',.int .i64 e',.int .i64 f',.int .i64 n']],by simp [leL,le],?_⟩
   dsimp only[v112,Yl8,joinC,encR,go_sem,reduceIte,YCS]
   simp only[Yd,YCS,YCU,reduceCtorEq,YCT]
   exact⟨by decide,by decide,by decide,YbF (r:=(Ybe ⟨a,b,c,d,e,f,n⟩ ⟨a',b',c',d',e',f',n'⟩ 1).1) h⟩
 . exact h.1.elim
theorem YpA:(Yb2 (-1)).ok YCX 72:=by
 refine Yb Tryz.func72 YCl YtA 300 (Yb2 (-1)) fun args k h=>?_
 simp only[Yb2]at h
 split at h
 . rename_i a b c d e f n a' b' c' d' e' f' n'
   refine⟨[.agg [.int .i64 a,.int .i64 b,.int .i64 c,.int .i64 d,.int .i64 e,.int .i64 f,.int .i64 n],.agg [.int .i64 a',.int .i64 b',.int .i64 c',.int .i64 d',.int .i64 e',.int .i64 f',.int .i64 n']],by simp [leL,le],?_⟩
   dsimp only[v72,Yl8,joinC,encR,go_sem,reduceIte,YCS]
   simp only[Yd,YCS,YCU,reduceCtorEq,YCT]
   exact⟨by decide,by decide,by decide,YbF (r:=(Ybe ⟨a,b,c,d,e,f,n⟩ ⟨a',b',c',d',e',f',n'⟩ (-1)).1) h⟩
 . exact h.1.elim
def v73:VF:=⟨34,[.tmp 2,.tmp 3,.tmp 4],(ZR [u1 1 .box [.tm 0],u1 2 .mov [.cn .nil],Zi 3 0,Zi 4 0] (.seq (ZR [Zt 9 7 1,Zc 10 96 9,Zm 5 10] (ZR [Zm 11 5,Zq 12 .neq 11 0] (ZC 12 (ZR [Zm 13 5,u1 2 .mov [.cn .nil],Zi 3 0,Zm 4 13] .ret) .skip))) (ZR [u1 6 .mov [.cn .nil]] (.seq (ZR [Za 14 0 1,Zt 15 6 14,Zi 16 0] (.block 0 (.loop (ZR [Zq 17 .lss 16 6] (.seq (ZC 17 .skip (.exit 0)) (.seq (.block 1 (ZR [Zm 18 16,u1 19 (.index false 6 1) [.tm 15,.tm 16],Zm 7 18,Zm 8 19] (ZR [Zm 20 8,Zq 21 .neq 20 0] (ZC 21 (.region [Zm 22 6,Zm 23 7,u1 24 (.idxArr 6 1) [.cn (.xp false [(.int .i64 2),(.int .i64 3),(.int .i64 5),(.int .i64 7),(.int .i64 11),(.int .i64 13)]),.tm 23],Zf 25 1 24,Zm 26 8,u1 27 (.build [(.int .i64 0),(.int .i64 0)] [(0,1),(1,1)]) [.tm 25,.tm 26],u1 28 (.buildSlice 2 1 [(.int .i64 0),(.int .i64 0)] [(0,2)]) [.tm 27],u1 29 (.append 2 16 [(.int .i64 0),(.int .i64 0)]) [.tm 22,.tm 28],Zm 6 29]) .skip)))) (.region [Zp 30 16 1,Zm 16 30]))))))) (.seq (.draw [] [Zu 31 6,Zy 32 6 1,Zv 33 1 32,Zu 2 31,Zu 3 33,w1 4 .mov [.cn (.int .i64 0)]]) .ret)))))⟩
theorem YCm:Yg YCX Tryz.f73=some v73:=by kernel_rfl
def v109:VF:=⟨62,[.cell 6 true 7,.tmp 7],(ZR [u1 3 .box [.tm 0],u1 6 (.alloc [(.int .i64 0),(.int .i64 0),(.int .i64 0),(.int .i64 0),(.int .i64 0),(.int .i64 0),(.int .i64 0)]) [],Zi 7 0] (.seq (ZR [Zt 10 7 3,Zc 11 96 10,Zm 8 11] (ZR [Zm 12 8,Zq 13 .neq 12 0] (ZC 13 (ZR [u1 14 (.build [(.int .i64 0),(.int .i64 0),(.int .i64 0),(.int .i64 0),(.int .i64 0),(.int .i64 0),(.int .i64 0)] []) [],Zm 15 8,Zs 7 6 14,Zm 7 15] .ret) .skip))) (.seq (ZR [Zm 16 1,Zq 17 .lss 16 (-1000),Zm 18 17,Zg 19 18 false 1,u2 20 18 false (.cmp .gtr) [.tm 19,.cn (.int .i64 1000)],u1 21 .or [.tm 18,.tm 20],Zm 22 21,Zg 23 22 false 2,u2 24 22 false (.cmp .lss) [.tm 23,.cn (.int .i64 (-1000))],u1 25 .or [.tm 22,.tm 24],Zm 26 25,Zg 27 26 false 2,u2 28 26 false (.cmp .gtr) [.tm 27,.cn (.int .i64 1000)],u1 29 .or [.tm 26,.tm 28],Zm 30 29,Zg 31 30 false 2,u2 32 30 false (.cmp .eql) [.tm 31,.cn (.int .i64 0)],u1 33 .or [.tm 30,.tm 32]] (ZC 33 (ZR [u1 34 (.build [(.int .i64 0),(.int .i64 0),(.int .i64 0),(.int .i64 0),(.int .i64 0),(.int .i64 0),(.int .i64 0)] []) [],Zs 7 6 34,Zi 7 2] .ret) .skip)) (.seq (ZR [Zm 35 2,Zq 36 .lss 35 0] (ZC 36 (.region [Zm 37 1,u1 38 .neg [.tm 37],Zm 39 2,u1 40 .neg [.tm 39],Zm 1 38,Zm 2 40]) .skip)) (.seq (ZR [Zi 41 0] (.block 0 (.loop (ZR [Zq 42 .lss 41 6] (.seq (ZC 42 .skip (.exit 0)) (.seq (.block 1 (ZR [Zm 43 41,Zm 9 43] (.region [Zm 44 9,Za 45 0 3,u1 46 (.idxArr 6 1) [.tm 45,.tm 44],Zf 47 1 46,Zm 48 1,Zo 49 .mul 47 48,Za 50 0 3,u1 51 (.idxArr 6 1) [.tm 50,.tm 44],Zs 1 51 49]))) (.region [Zp 52 41 1,Zm 41 52]))))))) (ZR [Za 53 0 3,Zt 54 6 53,Za 55 6 3,Zf 56 1 55,Zm 57 2,Zo 58 .mul 56 57,Zd 59 115 54 58,Ze 60 0 59,Ze 61 1 59,Zs 7 6 60,Zm 7 61] .ret))))))⟩
theorem Yxg:Yg YCX Tryz.f109=some v109:=by kernel_rfl
def prm:Nat->Int
 |0=>2
 |1=>3
 |2=>5
 |3=>7
 |4=>11
 |_=>13
def tP(r:Rt):Nat->List (Int×Int)
 |0=>[]
 |i+1=>tP r i++tm1 (prm i) (r.num i)
theorem tP_6(r:Rt):tP r 6=Yz r:=by
 simp only[tP,Yz,prm,Rt.num,List.nil_append,List.append_assoc]
theorem YBy{p n:Int}(h:n=0):tm1 p n=[]:=if_pos h
theorem tm1_n{p n:Int}(h:¬n=0):tm1 p n=[(p,n)]:=if_neg h
theorem YBv(r:Rt):∀i,(tP r i).length<=i
 |0=>YC2 _
 |i+1=>by
   have:=YBv r i
   have h:(tm1 (prm i) (r.num i)).length<=1:=by unfold tm1;split <;> simp
   rw[tP,YDo];omega
theorem YmD{i:Nat}(h:i<6):Yt 1 (Yl (i*1) [.int .i64 2,.int .i64 3,.int .i64 5,.int .i64 7,.int .i64 11,.int .i64 13])=[.int .i64 (prm i)]:=by
 rcases six h with rfl|rfl|rfl|rfl|rfl|rfl <;> rfl
theorem YpC{i:Nat}(h:i<6):1<=lenL (Yl (i*1) [.int .i64 2,.int .i64 3,.int .i64 5,.int .i64 7,.int .i64 11,.int .i64 13]):=by
 rcases six h with rfl|rfl|rfl|rfl|rfl|rfl <;> exact Nat.le_of_ble_eq_true rfl
theorem Yal{α:Type}[Inhabited α]{l m:List α}{k:Nat}(h:k<l.length):(l++m).getD k default=l.getD k default:=by
 rw[YC1,YDi h,<-YC1]
theorem Yam{α:Type}[Inhabited α]{l m:List α}{k:Nat}(h:l.length<=k):(l++m).getD k default=m.getD (k-l.length) default:=by
 rw[YC1,List.getElem?_append_right h,<-YC1]
theorem YcG{l:List (Int×Int)}{p q:Int}{a b j k:Nat}(hk:k<l.length+1):
   leL a b (if k<l.length then [SV.int .i64 (l.getD k default).fst,SV.int .i64 (l.getD k default).snd]else Yi j (Yt 2 (Yl ((k-l.length)*2) [SV.int .i64 p,SV.int .i64 q])))
     [SV.int .i64 ((l++[(p,q)]).getD k default).fst,SV.int .i64 ((l++[(p,q)]).getD k default).snd]:=by
 by_cases h:k<l.length
 . rw[if_pos h,Yal h];exact⟨⟨rfl,rfl⟩,⟨rfl,rfl⟩,trivial⟩
 . rw[if_neg h,Yam (by omega),show k-l.length=0 by omega];exact⟨⟨rfl,rfl⟩,⟨rfl,rfl⟩,trivial⟩
theorem one2{p q:Int}{k:Nat}(hk:k<1):lenL (Yt 2 (Yl (k*2) [SV.int .i64 p,SV.int .i64 q]))=2/\ones (Yt 2 (Yl (k*2) [SV.int .i64 p,SV.int .i64 q])):=by
 obtain rfl:k=0:=by omega
 exact⟨rfl,trivial,trivial,trivial⟩
def trmC:Ctr:={ alias:=false,of:=fun l=>match l with
 | [.agg [.int .i64 a,.int .i64 b,.int .i64 c,.int .i64 d,.int .i64 e,.int .i64 f,.int .i64 n]]=>
   if chkR ⟨a,b,c,d,e,f,n⟩≠0 then .fin (.tup [.nil,.int .i64 0,.int .i64 (chkR ⟨a,b,c,d,e,f,n⟩)]) [.box [.int .i64 a,.int .i64 b,.int .i64 c,.int .i64 d,.int .i64 e,.int .i64 f,.int .i64 n]]
   else .all Bool fun z=> .fin (.tup [.own 1 0 (Yz ⟨a,b,c,d,e,f,n⟩).length 2,.int .i64 n,.int .i64 0]) [.box [.int .i64 a,.int .i64 b,.int .i64 c,.int .i64 d,.int .i64 e,.int .i64 f,.int .i64 n],.own z 2 (Yz ⟨a,b,c,d,e,f,n⟩).length (fun k=>enc2 ((Yz ⟨a,b,c,d,e,f,n⟩).getD k default))]
 |_=>noC}
def TC0:Env:={ ct:=fun n=>match n with|96=>some chkRC|_=>none,fn:=fun _=>none,meth:=fun _ _=>none}
theorem YrJ:TC0.ct 96=some chkRC:=rfl
theorem Yyt:Yo YCX TC0:=by
 refine⟨fun f c h=>?_,fun f vf h=>?_,(fun _ _ _ h=>by cases h),by kernel_rfl,(fun _ h=>by cases h)⟩
 . simp only[TC0]at h
   split at h
   . cases h;exact⟨Yms,Tryz.f96,Tryz.func96,by kernel_rfl,by kernel_rfl⟩
   . cases h
 . cases h
theorem Yw4:trmC.ok YCX 73:=by
 refine Yj0 Tryz.func73 YCm Yyt 300 trmC fun args k h=>?_
 simp only[trmC]at h
 split at h
 . rename_i a b c d e f n
   refine⟨[.agg [.int .i64 a,.int .i64 b,.int .i64 c,.int .i64 d,.int .i64 e,.int .i64 f,.int .i64 n]],by simp [leL,le],?_⟩
   obtain⟨r,hr⟩:∃r:Rt,r=⟨a,b,c,d,e,f,n⟩:=⟨_,rfl⟩
   rw[<-hr]at h
   rw[show a=r.a by rw[hr],show b=r.b by rw[hr],show c=r.c by rw[hr],show d=r.d by rw[hr],show e=r.e by rw[hr],show f=r.f by rw[hr],show n=r.n by rw[hr]]at h⊢
   clear hr
   dsimp only[v73,YrJ,chkRC,go_sem,reduceIte,YCS]
   simp only[Yd,YCS,YCU,reduceCtorEq,YCT]
   refine⟨fun hc=>?_,fun hc=>?_⟩
   . rw[if_pos hc]at h
     exact⟨h,⟨trivial,trivial,trivial,trivial⟩,by simp [YbG,Yp,Ym]⟩
   . rw[if_neg (by rw[show chkR r=0 from hc];decide)]at h
     refine Loop.keep [1,0,0,0,10] (Nat×Bool) (fun s=>[(6,.own 1 0 (tP r s.1).length 2),(16,.int .i64 s.1)]) (fun s=>[(1,.own s.2 2 (tP r s.1).length (fun k=>enc2 ((tP r s.1).getD k default)))]) [.gone] (fun s=>s.1<=6/\(s.2=true->(tP r s.1).length=0)) (fun s=>6-s.1) ?_ ?_
     . refine⟨(0,true),⟨by decide,fun _=>rfl⟩,?_⟩
       dsimp only[tP,List.length_nil,go_sem,reduceIte,YCS]
       simp only[Ya]
       repeat' apply YC3
       all_goals first|exact trivial|decide|rfl|omega|exact(YDf (by omega)).symm|exact Yc _ (YU _ _ _ _) |simp
     . rintro⟨i,z⟩ ⟨hi,hz⟩
       dsimp only at hi hz
       dsimp only[YCY,enc2,go_sem,reduceIte,YCS]
       simp only[Yd,YCS,YCU,reduceCtorEq,YCT]
       refine⟨fun hlt=>?_,fun hge=>?_⟩
       . have hi6:i<6:=by omega
         have hl:=YBv r i
         rw[Yec r hi6]
         dsimp only[YCY,enc2,go_sem,reduceIte,YCS]
         simp only[Yd,YCS,YCU,reduceCtorEq,YCT]
         rw[YmD hi6]
         dsimp only[YCY,enc2,go_sem,reduceIte,YCS]
         simp only[Yd,YCS,YCU,reduceCtorEq,YCT]
         refine⟨⟨by omega,by omega⟩,fun hn=>⟨⟨by omega,by omega,by decide⟩,YpC hi6,by decide,⟨by unfold YW;omega,fun k hk=>one2 hk⟩,(i+1,false),⟨by simp only;omega,fun hh=>by cases hh⟩,by simp only;omega,?_⟩,fun hn=>⟨(i+1,z),⟨by simp only;omega,fun hh=>by simp only[tP,YBy hn,List.append_nil];exact hz hh⟩,by simp only;omega,?_⟩⟩
         . simp only[tP,tm1_n hn,YDo,List.length_singleton]
           rw[YCW ((i:Int)+1) (by omega)]
           simp only[Ya]
           refine⟨?_,by simp,fun k hk=>YcG hk⟩
           repeat' apply YC3
           all_goals first|exact trivial|decide|rfl|omega|exact(YDf (by omega)).symm|exact Yc _ (YU _ _ _ _) |simp
         . simp only[tP,YBy hn,List.append_nil]
           rw[YCW ((i:Int)+1) (by omega)]
           simp only[Ya]
           repeat' apply YC3
           all_goals first|exact trivial|decide|rfl|omega|exact(YDf (by omega)).symm|exact Yc _ (YU _ _ _ _) |simp
       . obtain rfl:i=6:=by omega
         simp only[tP_6]
         exact⟨h z,⟨trivial,trivial,trivial,trivial⟩,by simp [YbG,Yp,Ym]⟩
 . exact h.1.elim
def Ydx(q p:Nat->Int)(n:Int)(i:Nat):List SV:=
 [.int .i64 (if 0<i then q 0 else p 0),.int .i64 (if 1<i then q 1 else p 1),.int .i64 (if 2<i then q 2 else p 2),.int .i64 (if 3<i then q 3 else p 3),.int .i64 (if 4<i then q 4 else p 4),.int .i64 (if 5<i then q 5 else p 5),.int .i64 n]
theorem Ypg(q p:Nat->Int)(n:Int):Ydx q p n 6=[.int .i64 (q 0),.int .i64 (q 1),.int .i64 (q 2),.int .i64 (q 3),.int .i64 (q 4),.int .i64 (q 5),.int .i64 n]:=rfl
theorem YjW(q p:Nat->Int)(n:Int)(i:Nat):lenL (Ydx q p n i)=7:=rfl
theorem YjU(q p:Nat->Int)(n:Int)(i m:Nat):bndL m (Ydx q p n i):=by simp [Ydx,bndL,bnd]
theorem Yhh(q p:Nat->Int)(n:Int){i:Nat}(h:i<6):Ys (Ydx q p n i) (idxN (i:Int) 1) [.int .i64 (q i)]=Ydx q p n (i+1):=by
 rcases six h with rfl|rfl|rfl|rfl|rfl|rfl <;> rfl
theorem YjV(q p:Nat->Int)(n:Int){i:Nat}(h:i<6):Yt 1 (Yl (idxN (i:Int) 1) (Ydx q p n i))=[.int .i64 (p i)]:=by
 rcases six h with rfl|rfl|rfl|rfl|rfl|rfl <;> rfl
theorem Yhg(q p:Nat->Int)(n:Int){i:Nat}(h:i<6):1<=lenL (Yl (idxN (i:Int) 1) (Ydx q p n i)):=by
 rcases six h with rfl|rfl|rfl|rfl|rfl|rfl <;> exact Nat.le_of_ble_eq_true rfl
def Yo3(n d:Int):Bool:=decide (n< -1000) || decide (1000<n) || decide (d< -1000) || decide (1000<d) || decide (d=0)
theorem YuR{n d:Int}(h:Yo3 n d=false):(-1000<=n/\n<=1000)/\(-1000<=d/\d<=1000)/\d≠0:=by
 simp only[Yo3,YDb,decide_eq_false_iff_not]at h;omega
def powN(r:Rt)(n d:Int):Rt×Int:=YdS ⟨r.a*n,r.b*n,r.c*n,r.d*n,r.e*n,r.f*n,r.n*d⟩
def pwrF(r:Rt)(n d:Int):Rt×Int:=
 if chkR r≠0 then(YaC,chkR r)else if Yo3 n d=true then(YaC,2)else if d<0 then powN r (-n) (-d)else powN r n d
def powRC:Ctr:={ alias:=false,of:=fun l=>match l with
 | [.agg [.int .i64 a,.int .i64 b,.int .i64 c,.int .i64 d,.int .i64 e,.int .i64 f,.int .i64 n],.int .i64 p,.int .i64 q]=> .fin (.tup [.agg (encR (pwrF ⟨a,b,c,d,e,f,n⟩ p q).1),.int .i64 (pwrF ⟨a,b,c,d,e,f,n⟩ p q).2]) []
 |_=>noC}
def TC1:Env:={ ct:=fun n=>match n with|96=>some chkRC|115=>some madeC|_=>none,fn:=fun _=>none,meth:=fun _ _=>none}
theorem YrK:TC1.ct 96=some chkRC:=rfl
theorem YbR:TC1.ct 115=some madeC:=rfl
theorem Yyu:Yo YCX TC1:=by
 refine⟨fun f c h=>?_,fun f vf h=>?_,(fun _ _ _ h=>by cases h),by kernel_rfl,(fun _ h=>by cases h)⟩
 . simp only[TC1]at h
   split at h
   . cases h;exact⟨Yms,Tryz.f96,Tryz.func96,by kernel_rfl,by kernel_rfl⟩
   . cases h;exact⟨Yqj,Tryz.f115,Tryz.func115,by kernel_rfl,by kernel_rfl⟩
   . cases h
 . cases h
theorem pow_c:powRC.ok YCX 109:=by
 refine Yb Tryz.func109 Yxg Yyu 300 powRC fun args k h=>?_
 simp only[powRC]at h
 split at h
 . rename_i a b c d e f n p q
   refine⟨[.agg [.int .i64 a,.int .i64 b,.int .i64 c,.int .i64 d,.int .i64 e,.int .i64 f,.int .i64 n],.int .i64 p,.int .i64 q],by simp [leL,le],?_⟩
   obtain⟨r,hr⟩:∃r:Rt,r=⟨a,b,c,d,e,f,n⟩:=⟨_,rfl⟩
   rw[<-hr]at h
   rw[show a=r.a by rw[hr],show b=r.b by rw[hr],show c=r.c by rw[hr],show d=r.d by rw[hr],show e=r.e by rw[hr],show f=r.f by rw[hr],show n=r.n by rw[hr]]
   clear hr
   have h:k (.tup [.agg (encR (pwrF r p q).1),.int .i64 (pwrF r p q).2]) []:=h
   dsimp only[v109,YrK,chkRC,go_sem,reduceIte,YCS]
   simp only[Yd,YCS,YCU,reduceCtorEq,YCT]
   refine⟨fun hc=>?_,fun hc=>⟨fun hb=>?_,fun hb=>?_⟩⟩
   . rw[pwrF,if_pos hc]at h
     exact YbF (r:=YaC) h
   all_goals
     have hc:chkR r=0:=hc
     rw[pwrF,if_neg (by rw[hc];decide)]at h
   . rw[if_pos (show Yo3 p q=true from hb)]at h
     exact YbF (r:=YaC) h
   . have hb:Yo3 p q=false:=hb
     rw[if_neg (by rw[hb];decide)]at h
     obtain⟨hp,hq,hq0⟩:=YuR hb
     refine⟨fun hneg=>?_,fun hpos=>?_⟩
     . rw[if_pos hneg]at h
       rw[YCW (0-p) (by omega),YCW (0-q) (by omega),Int.zero_sub,Int.zero_sub]
       obtain⟨P,hP⟩:∃P,P= -p:=⟨_,rfl⟩
       obtain⟨Q,hQ⟩:∃Q,Q= -q:=⟨_,rfl⟩
       rw[<-hP,<-hQ]at h⊢
       have hPb: -1000<=P/\P<=1000:=by omega
       have hQb:1<=Q/\Q<=1000:=by omega
       clear hp hq hP hQ
       refine Loop.keep [1,0,0,2,0] Nat (fun i=>[(41,.int .i64 i)]) (fun i=>[(0,.box (Ydx (fun j=>r.num j*P) r.num r.n i))]) [] (fun i=>i<=6) (fun i=>6-i) ?_ ?_
       . refine⟨0,by omega,?_⟩
         dsimp only[Ydx,go_sem,reduceIte,YCS]
         simp only[Ya]
         repeat' apply YC3
         all_goals first|exact trivial|decide|rfl|omega|exact(YDf (by omega)).symm|exact Yc _ (YU _ _ _ _) |simp
       . rintro i hi
         dsimp only[YbR,madeC,YCY,go_sem,reduceIte,YCS]
         simp only[Yd,YCS,YCU,reduceCtorEq,YCT]
         refine⟨fun hlt=>?_,fun hge=>?_⟩
         . have hi6:i<6:=by omega
           rw[YjV _ _ _ hi6]
           dsimp only[YbR,madeC,YCY,go_sem,reduceIte,YCS]
           simp only[Yd,YCS,YCU,reduceCtorEq,YCT]
           have h1:=Yc4 hc hi6
           have hm:=Ya4 (x:=r.num i) (y:=P) (X:=100000) (Y:=1000) h1 (by omega)
           have e:Ys (Ydx (fun j=>r.num j*P) r.num r.n i) (idxN (i:Int) 1) [.int .i64 (r.num i*P)]=Ydx (fun j=>r.num j*P) r.num r.n (i+1):=Yhh (fun j=>r.num j*P) r.num r.n hi6
           rw[YCW (r.num i*P) (by omega),YCW ((i:Int)+1) (by omega),e]
           refine⟨⟨by omega,by omega⟩,Yhg _ _ _ hi6,⟨by omega,by omega⟩,by rw[Ykk,YjW];omega,i+1,by omega,by omega,?_⟩
           simp only[Ya]
           refine⟨?_,Yc _ (YjU _ _ _ _ _)⟩
           repeat' apply YC3
           all_goals first|exact trivial|decide|rfl|omega|exact(YDf (by omega)).symm|exact Yc _ (YU _ _ _ _) |simp
         . obtain rfl:i=6:=by omega
           have hn:=Yee hc
           have hm:=Ya4 (x:=r.n) (y:=Q) (X:=1000) (Y:=1000) (by omega) (by omega)
           have hm1:1<=r.n*Q:=Int.mul_pos (by omega) (by omega)
           simp only[Ypg]
           dsimp only[YbR,madeC,encR,go_sem,reduceIte,YCS]
           simp only[Yd,YCS,YCU,reduceCtorEq,YCT]
           rw[YCW (r.n*Q) (by omega)]
           refine⟨⟨hm1,by omega,fun i hi=>?_⟩,?_⟩
           . have h1:=Yc4 hc hi
             have hm:=Ya4 (x:=r.num i) (y:=P) (X:=100000) (Y:=1000) h1 (by omega)
             rcases six hi with rfl|rfl|rfl|rfl|rfl|rfl <;> (simp only[Rt.num]at hm⊢;omega)
           . exact⟨by decide,by decide,YbF (r:=(powN r P Q).1) h⟩
     . rw[if_neg hpos]at h
       obtain⟨P,hP⟩:∃P,P=p:=⟨_,rfl⟩
       obtain⟨Q,hQ⟩:∃Q,Q=q:=⟨_,rfl⟩
       rw[<-hP,<-hQ]at h⊢
       have hPb: -1000<=P/\P<=1000:=by omega
       have hQb:1<=Q/\Q<=1000:=by omega
       refine Loop.keep [1,0,0,2,0] Nat (fun i=>[(41,.int .i64 i)]) (fun i=>[(0,.box (Ydx (fun j=>r.num j*P) r.num r.n i))]) [] (fun i=>i<=6) (fun i=>6-i) ?_ ?_
       . refine⟨0,by omega,?_⟩
         dsimp only[Ydx,go_sem,reduceIte,YCS]
         simp only[Ya]
         repeat' apply YC3
         all_goals first|exact trivial|decide|rfl|omega|exact(YDf (by omega)).symm|exact Yc _ (YU _ _ _ _) |simp
       . rintro i hi
         dsimp only[YbR,madeC,YCY,go_sem,reduceIte,YCS]
         simp only[Yd,YCS,YCU,reduceCtorEq,YCT]
         refine⟨fun hlt=>?_,fun hge=>?_⟩
         . have hi6:i<6:=by omega
           rw[YjV _ _ _ hi6]
           dsimp only[YbR,madeC,YCY,go_sem,reduceIte,YCS]
           simp only[Yd,YCS,YCU,reduceCtorEq,YCT]
           have h1:=Yc4 hc hi6
           have hm:=Ya4 (x:=r.num i) (y:=P) (X:=100000) (Y:=1000) h1 (by omega)
           have e:Ys (Ydx (fun j=>r.num j*P) r.num r.n i) (idxN (i:Int) 1) [.int .i64 (r.num i*P)]=Ydx (fun j=>r.num j*P) r.num r.n (i+1):=Yhh (fun j=>r.num j*P) r.num r.n hi6
           rw[YCW (r.num i*P) (by omega),YCW ((i:Int)+1) (by omega),e]
           refine⟨⟨by omega,by omega⟩,Yhg _ _ _ hi6,⟨by omega,by omega⟩,by rw[Ykk,YjW];omega,i+1,by omega,by omega,?_⟩
           simp only[Ya]
           refine⟨?_,Yc _ (YjU _ _ _ _ _)⟩
           repeat' apply YC3
           all_goals first|exact trivial|decide|rfl|omega|exact(YDf (by omega)).symm|exact Yc _ (YU _ _ _ _) |simp
         . obtain rfl:i=6:=by omega
           have hn:=Yee hc
           have hm:=Ya4 (x:=r.n) (y:=Q) (X:=1000) (Y:=1000) (by omega) (by omega)
           have hm1:1<=r.n*Q:=Int.mul_pos (by omega) (by omega)
           simp only[Ypg]
           dsimp only[YbR,madeC,encR,go_sem,reduceIte,YCS]
           simp only[Yd,YCS,YCU,reduceCtorEq,YCT]
           rw[YCW (r.n*Q) (by omega)]
           refine⟨⟨hm1,by omega,fun i hi=>?_⟩,?_⟩
           . have h1:=Yc4 hc hi
             have hm:=Ya4 (x:=r.num i) (y:=P) (X:=100000) (Y:=1000) h1 (by omega)
             rcases six hi with rfl|rfl|rfl|rfl|rfl|rfl <;> (simp only[Rt.num]at hm⊢;omega)
           . exact⟨by decide,by decide,YbF (r:=(powN r P Q).1) h⟩
 . exact h.1.elim
def v108:VF:=⟨64,[.cell 4 true 7,.tmp 5],(ZR [u1 4 (.alloc [(.int .i64 0),(.int .i64 0),(.int .i64 0),(.int .i64 0),(.int .i64 0),(.int .i64 0),(.int .i64 0)]) [],Zi 5 0] (.seq (ZR [Zm 9 0,Zq 10 .lss 9 1,Zm 11 10,Zg 12 11 false 0,u2 13 11 false (.cmp .gtr) [.tm 12,.cn (.int .i64 1000000000000)],u1 14 .or [.tm 11,.tm 13],Zm 15 14,Zg 16 15 false 1,u2 17 15 false (.cmp .lss) [.tm 16,.cn (.int .i64 1)],u1 18 .or [.tm 15,.tm 17],Zm 19 18,Zg 20 19 false 1,u2 21 19 false (.cmp .gtr) [.tm 20,.cn (.int .i64 1000000000000)],u1 22 .or [.tm 19,.tm 21]] (ZC 22 (ZR [u1 23 (.build [(.int .i64 0),(.int .i64 0),(.int .i64 0),(.int .i64 0),(.int .i64 0),(.int .i64 0),(.int .i64 0)] []) [],Zs 7 4 23,Zi 5 2] .ret) .skip)) (ZR [u1 24 (.build [(.int .i64 0),(.int .i64 0),(.int .i64 0),(.int .i64 0),(.int .i64 0),(.int .i64 0),(.int .i64 0)] [(6,1)]) [.cn (.int .i64 1)],u1 6 (.alloc [(.int .i64 0),(.int .i64 0),(.int .i64 0),(.int .i64 0),(.int .i64 0),(.int .i64 0),(.int .i64 0)]) [],Zs 7 6 24] (.seq (ZR [u1 25 (.load true 6) [.cn (.xp false [(.int .i64 2),(.int .i64 3),(.int .i64 5),(.int .i64 7),(.int .i64 11),(.int .i64 13)])],Zi 26 0] (.block 0 (.loop (ZR [Zq 27 .lss 26 6] (.seq (ZC 27 .skip (.exit 0)) (.seq (.block 1 (ZR [Zm 28 26,u1 29 (.index false 6 1) [.tm 25,.tm 26],Zm 7 28,Zm 8 29] (.seq (.block 2 (.loop (.seq (ZR [Zm 30 0,Zm 31 8,u1 32 .rem [.tm 30,.tm 31],Zq 33 .eql 32 0] (ZC 33 .skip (.exit 2))) (.seq (.block 3 (.region [Zm 37 7,Za 38 0 6,u1 39 (.idxArr 6 1) [.tm 38,.tm 37],Zf 40 1 39,Zp 41 40 1,Za 42 0 6,u1 43 (.idxArr 6 1) [.tm 42,.tm 37],Zs 1 43 41])) (.region [Zm 34 0,Zm 35 8,u1 36 .quo [.tm 34,.tm 35],Zm 0 36]))))) (.block 4 (.loop (.seq (ZR [Zm 44 1,Zm 45 8,u1 46 .rem [.tm 44,.tm 45],Zq 47 .eql 46 0] (ZC 47 .skip (.exit 4))) (.seq (.block 5 (.region [Zm 51 7,Za 52 0 6,u1 53 (.idxArr 6 1) [.tm 52,.tm 51],Zf 54 1 53,u1 55 (.ari .sub) [.tm 54,.cn (.int .i64 1)],Za 56 0 6,u1 57 (.idxArr 6 1) [.tm 56,.tm 51],Zs 1 57 55])) (.region [Zm 48 1,Zm 49 8,u1 50 .quo [.tm 48,.tm 49],Zm 1 50])))))))) (.region [Zp 58 26 1,Zm 26 58]))))))) (.seq (ZR [Zm 59 0,Zm 60 1,Zr 61 .neq 59 60] (ZC 61 (ZR [u1 62 (.build [(.int .i64 0),(.int .i64 0),(.int .i64 0),(.int .i64 0),(.int .i64 0),(.int .i64 0),(.int .i64 0)] []) [],Zs 7 4 62,Zi 5 7] .ret) .skip)) (ZR [Zt 63 7 6,Zs 7 4 63,Zi 5 0] .ret))))))⟩
theorem Yxf:Yg YCX Tryz.f108=some v108:=by kernel_rfl
def valL:Nat->Int->Int->Int->Int->Int×Int
 |0,_,n,c,_=>(n,c)
 |f+1,p,n,c,s=>if n%p=0 then valL f p (n/p) (c+s) s else(n,c)
def ofL(num den:Int):Nat->Int×Int×(Nat->Int)
 |0=>(num,den,fun _=>0)
 |i+1=>
   ((valL 64 (prm i) (ofL num den i).1 0 1).1,(valL 64 (prm i) (ofL num den i).2.1 (valL 64 (prm i) (ofL num den i).1 0 1).2 (-1)).1,
     fun k=>if k=i then(valL 64 (prm i) (ofL num den i).2.1 (valL 64 (prm i) (ofL num den i).1 0 1).2 (-1)).2 else(ofL num den i).2.2 k)
def Yso(a b:Int):Bool:=decide (a<1) || decide (1000000000000<a) || decide (b<1) || decide (1000000000000<b)
def ofRF(a b:Int):Rt×Int:=
 if Yso a b=true then(YaC,2)else if(ofL a b 6).1≠(ofL a b 6).2.1 then(YaC,7)
 else(⟨(ofL a b 6).2.2 0,(ofL a b 6).2.2 1,(ofL a b 6).2.2 2,(ofL a b 6).2.2 3,(ofL a b 6).2.2 4,(ofL a b 6).2.2 5,1⟩,0)
def Yfp(g:Nat->Int)(n:Int):List SV:=[.int .i64 (g 0),.int .i64 (g 1),.int .i64 (g 2),.int .i64 (g 3),.int .i64 (g 4),.int .i64 (g 5),.int .i64 n]
def setF(g:Nat->Int)(i:Nat)(v:Int):Nat->Int:=fun k=>if k=i then v else g k
theorem YjR(g:Nat->Int)(n:Int){i:Nat}(h:i<6):Yt 1 (Yl (idxN (i:Int) 1) (Yfp g n))=[.int .i64 (g i)]:=by
 rcases six h with rfl|rfl|rfl|rfl|rfl|rfl <;> rfl
theorem Yhf(g:Nat->Int)(n:Int){i:Nat}(h:i<6):1<=lenL (Yl (idxN (i:Int) 1) (Yfp g n)):=by
 rcases six h with rfl|rfl|rfl|rfl|rfl|rfl <;> exact Nat.le_of_ble_eq_true rfl
theorem YjT(g:Nat->Int)(n:Int){i:Nat}(h:i<6)(v:Int):Ys (Yfp g n) (idxN (i:Int) 1) [.int .i64 v]=Yfp (setF g i v) n:=by
 rcases six h with rfl|rfl|rfl|rfl|rfl|rfl <;> rfl
theorem YjS(g:Nat->Int)(n:Int):lenL (Yfp g n)=7:=rfl
theorem YcH(g:Nat->Int)(n:Int)(m:Nat):bndL m (Yfp g n):=by simp [Yfp,bndL,bnd]
theorem Yni(g:Nat->Int)(i:Nat)(v w:Int):setF (setF g i v) i w=setF g i w:=by
 funext k;unfold setF;split <;> rfl
theorem YkY(g:Nat->Int)(i:Nat)(v:Int):setF g i v i=v:=if_pos rfl
theorem YwR(g:Nat->Int)(i:Nat):setF g i (g i)=g:=by
 funext k;unfold setF;split
 . rename_i h;rw[h]
 . rfl
theorem Ywf(i:Nat):2<=prm i/\prm i<=13:=by
 unfold prm;split <;> omega
theorem Ypm{i:Nat}(h:i<6):Yt 1 (Yl (i*1) [.int .i64 2,.int .i64 3,.int .i64 5,.int .i64 7,.int .i64 11,.int .i64 13])=[.int .i64 (prm i)]:=YmD h
theorem Ynt{n p:Int}{f:Nat}(hp:2<=p)(h1:1<=n)(h2:n<2^(f+1))(h3:n<=1000000000000)(hd:n%p=0):1<=n/p/\n/p<2^f/\n/p<=1000000000000:=by
 have e:=Int.mul_ediv_add_emod n p
 rw[hd,Int.add_zero]at e
 have hq:1<=n/p:=by
   rcases(show n/p<1\/1<=n/p by omega)with h|h
   . have:p*(n/p)<=p*0:=Int.mul_le_mul_of_nonneg_left (by omega) (by omega)
     omega
   . exact h
 have h4:2*(n/p)<=n:=by
   have:2*(n/p)<=p*(n/p):=Int.mul_le_mul_of_nonneg_right hp (by omega)
   omega
 rw[Int.pow_succ]at h2
 exact⟨hq,by omega,by omega⟩
def ofRC:Ctr:={ alias:=false,of:=fun l=>match l with
 | [.int .i64 a,.int .i64 b]=> .fin (.tup [.agg (encR (ofRF a b).1),.int .i64 (ofRF a b).2]) []
 |_=>noC}
theorem YAf(a b:Int):∀i j,i<=j->(ofL a b i).2.2 j=0
 |0,_,_=>rfl
 |i+1,j,h=>by
   rw[ofL]
   show(if j=i then _ else _)=(0:Int)
   rw[if_neg (by omega)]
   exact YAf a b i j (by omega)
def TD0:Env:={ ct:=fun _=>none,fn:=fun _=>none,meth:=fun _ _=>none}
theorem Yyv:Yo YCX TD0:=by
 refine⟨fun f c h=>?_,fun f vf h=>?_,(fun _ _ _ h=>by cases h),by kernel_rfl,(fun _ h=>by cases h)⟩
 . cases h
 . cases h
theorem of_c:ofRC.ok YCX 108:=by
 refine Yb Tryz.func108 Yxf Yyv 300 ofRC fun args k h=>?_
 simp only[ofRC]at h
 split at h
 . rename_i a b
   refine⟨[.int .i64 a,.int .i64 b],by simp [leL,le],?_⟩
   have h:k (.tup [.agg (encR (ofRF a b).1),.int .i64 (ofRF a b).2]) []:=h
   dsimp only[v108,go_sem,reduceIte,YCS]
   simp only[Yd,YCS,YCU,reduceCtorEq,YCT]
   refine⟨fun hb=>?_,fun hb=>?_⟩
   . rw[ofRF,if_pos (show Yso a b=true from hb)]at h
     exact YbF (r:=YaC) h
   . have hb:Yso a b=false:=hb
     rw[ofRF,if_neg (by rw[hb];decide)]at h
     simp only[Yso,YDb,decide_eq_false_iff_not]at hb
     refine Loop.keep [4,0,0,18] Nat (fun i=>[(0,.int .i64 (ofL a b i).1),(1,.int .i64 (ofL a b i).2.1),(26,.int .i64 i)]) (fun i=>[(1,.box (Yfp (ofL a b i).2.2 1))]) [] (fun i=>i<=6/\(1<=(ofL a b i).1/\(ofL a b i).1<=1000000000000)/\1<=(ofL a b i).2.1/\(ofL a b i).2.1<=1000000000000) (fun i=>6-i) ?_ ?_
     . refine⟨0,⟨by omega,⟨by simp only[ofL];omega,by simp only[ofL];omega⟩,by simp only[ofL];omega,by simp only[ofL];omega⟩,?_⟩
       dsimp only[Yfp,ofL,go_sem,reduceIte,YCS]
       simp only[Ya]
       repeat' apply YC3
       all_goals first|exact trivial|decide|rfl|omega|exact(YDf (by omega)).symm|simp
     . rintro i ⟨hi,hx,hy⟩
       obtain⟨X,hX⟩:∃X,X=(ofL a b i).1:=⟨_,rfl⟩
       obtain⟨Y,hY⟩:∃Y,Y=(ofL a b i).2.1:=⟨_,rfl⟩
       obtain⟨g,hg⟩:∃g,g=(ofL a b i).2.2:=⟨_,rfl⟩
       rw[<-hX]at hx
       rw[<-hY]at hy
       rw[<-hX,<-hY,<-hg]
       dsimp only[YCY,go_sem,reduceIte,YCS]
       simp only[Yd,YCS,YCU,reduceCtorEq,YCT]
       refine⟨fun hlt=>?_,fun hge=>?_⟩
       . have hi6:i<6:=by omega
         have hp:=Ywf i
         have hg0:g i=0:=by rw[hg];exact YAf a b i i (YC2 _)
         rw[Ypm hi6]
         refine⟨⟨by omega,by omega⟩,?_⟩
         have hS:ofL a b (i+1)=((valL 64 (prm i) X 0 1).1,(valL 64 (prm i) Y (valL 64 (prm i) X 0 1).2 (-1)).1,setF g i (valL 64 (prm i) Y (valL 64 (prm i) X 0 1).2 (-1)).2):=by
           rw[ofL,<-hX,<-hY,<-hg];rfl
         generalize prm i=p at hp hS⊢
         obtain⟨A,hA⟩:∃A,A=valL 64 p X 0 1:=⟨_,rfl⟩
         rw[<-hA]at hS
         refine Loop.keep [1,2,0,0,0,0,16,0] (Nat×Int×Int) (fun s=>[(0,.int .i64 s.2.1)]) (fun s=>[(1,.box (Yfp (setF g i s.2.2) 1))]) [] (fun s=>A=valL s.1 p s.2.1 s.2.2 1/\1<=s.2.1/\s.2.1<2^s.1/\s.2.1<=1000000000000/\ -1000+s.1<=s.2.2/\s.2.2<=1000-s.1) (fun s=>s.1) ?_ ?_
         . refine⟨(64,X,0),⟨hA,hx.1,by simp only;omega,hx.2,by simp,by simp⟩,?_⟩
           rw[show setF g i (64,X,(0:Int)).2.2=g by rw[<-hg0];exact YwR g i]
           dsimp only[go_sem,reduceIte,YCS]
           simp only[Ya]
           refine⟨by decide,Yc _ (YcH _ _ _)⟩
         . rintro⟨f,n,c⟩ ⟨hf,n1,n2,n3,c1,c2⟩
           dsimp only at hf n1 n2 n3 c1 c2
           dsimp only[YCY,go_sem,reduceIte,YCS]
           simp only[Yd,YCS,YCU,reduceCtorEq,YCT]
           have e1:n.tmod p=n%p:=Int.tmod_eq_emod_of_nonneg (by omega)
           have e2:n.tdiv p=n/p:=Int.tdiv_eq_ediv_of_nonneg (by omega)
           rw[e1]
           obtain⟨q,rfl⟩:∃q,f=q+1:=by
             cases f with
             |zero=>simp at n2;omega
             |succ q=>exact⟨q,rfl⟩
           rw[valL]at hf
           refine⟨by omega,fun hd=>?_,fun hd=>?_⟩
           . rw[if_pos hd]at hf
             obtain⟨w1,w2,w3⟩:=Ynt (by omega) n1 n2 n3 hd
             rw[YjR _ _ hi6,YkY]
             dsimp only[YCY,go_sem,reduceIte,YCS]
             simp only[Yd,YCS,YCU,reduceCtorEq,YCT]
             rw[YjT _ _ hi6,Yni,e2,YCW (n/p) (by omega),YCW (c+1) (by omega)]
             refine⟨⟨by omega,by omega⟩,Yhf _ _ hi6,⟨by omega,by omega⟩,by rw[Ykk,YjS];omega,by omega,(q,n/p,c+1),⟨hf,w1,w2,w3,by simp only;omega,by simp only;omega⟩,by simp only;omega,?_⟩
             simp only[Ya]
             refine⟨by decide,Yc _ (YcH _ _ _)⟩
           . rw[if_neg hd]at hf
             have hA1:A.1=n:=by rw[hf]
             have hA2:A.2=c:=by rw[hf]
             rw[hA2]at hS
             obtain⟨B,hB⟩:∃B,B=valL 64 p Y c (-1):=⟨_,rfl⟩
             rw[<-hB,hA1]at hS
             have n1':=n1
             have n3':=n3
             have c1': -2000+(64:Int)<=c/\c<=2000-64:=by omega
             clear hf hA n2 e1 e2 c1 c2 hA1 hA2
             refine Loop.keep [0,3,0,0,0,0,16,0] (Nat×Int×Int) (fun s=>[(1,.int .i64 s.2.1)]) (fun s=>[(1,.box (Yfp (setF g i s.2.2) 1))]) [] (fun s=>B=valL s.1 p s.2.1 s.2.2 (-1)/\1<=s.2.1/\s.2.1<2^s.1/\s.2.1<=1000000000000/\ -2000+s.1<=s.2.2/\s.2.2<=2000-s.1) (fun s=>s.1) ?_ ?_
             . refine⟨(64,Y,c),⟨hB,hy.1,by simp only;omega,hy.2,by simp only;omega,by simp only;omega⟩,?_⟩
               dsimp only[go_sem,reduceIte,YCS]
               simp only[Ya]
               refine⟨by decide,Yc _ (YcH _ _ _)⟩
             . obtain⟨N,hN⟩:∃N,N=n:=⟨_,rfl⟩
               rw[<-hN]at n1' n3' hS⊢
               clear hN n1 n3 hd c1' hB
               rintro⟨f,n,c⟩ ⟨hf,n1,n2,n3,c1,c2⟩
               dsimp only at hf n1 n2 n3 c1 c2
               dsimp only[YCY,go_sem,reduceIte,YCS]
               simp only[Yd,YCS,YCU,reduceCtorEq,YCT]
               have e1:n.tmod p=n%p:=Int.tmod_eq_emod_of_nonneg (by omega)
               have e2:n.tdiv p=n/p:=Int.tdiv_eq_ediv_of_nonneg (by omega)
               rw[e1]
               obtain⟨q,rfl⟩:∃q,f=q+1:=by
                 cases f with
                 |zero=>simp at n2;omega
                 |succ q=>exact⟨q,rfl⟩
               rw[valL]at hf
               refine⟨by omega,fun hd=>?_,fun hd=>?_⟩
               . rw[if_pos hd]at hf
                 obtain⟨w1,w2,w3⟩:=Ynt (by omega) n1 n2 n3 hd
                 rw[YjR _ _ hi6,YkY]
                 dsimp only[YCY,go_sem,reduceIte,YCS]
                 simp only[Yd,YCS,YCU,reduceCtorEq,YCT]
                 rw[YjT _ _ hi6,Yni,e2,YCW (n/p) (by omega),YCW (c-1) (by omega)]
                 refine⟨⟨by omega,by omega⟩,Yhf _ _ hi6,⟨by omega,by omega⟩,by rw[Ykk,YjS];omega,by omega,(q,n/p,c+(-1)),⟨hf,w1,w2,w3,by simp only;omega,by simp only;omega⟩,by simp only;omega,?_⟩
                 simp only[Ya]
                 refine⟨by decide,Yc _ (YcH _ _ _)⟩
               . rw[if_neg hd]at hf
                 have hB1:B.1=n:=by rw[hf]
                 have hB2:B.2=c:=by rw[hf]
                 rw[hB1,hB2]at hS
                 refine⟨i+1,⟨by omega,⟨by rw[hS];exact n1',by rw[hS];exact n3'⟩,by rw[hS];exact n1,by rw[hS];exact n3⟩,by omega,?_⟩
                 rw[hS,YCW ((i:Int)+1) (by omega)]
                 simp only[Ya]
                 refine⟨?_,Yc _ (YcH _ _ _)⟩
                 repeat' apply YC3
                 all_goals first|exact trivial|decide|rfl|omega|exact(YDf (by omega)).symm|simp
       . obtain rfl:i=6:=by omega
         rw[<-hX,<-hY,<-hg]at h
         refine⟨fun hn=>?_,fun he=>?_⟩
         . rw[if_pos hn]at h
           exact YbF (r:=YaC) h
         . rw[if_neg (by omega)]at h
           exact⟨YC2 7,⟨rfl,by simp [Yfp,Yt,ones,one]⟩,YC2 7,YbF (r:=⟨g 0,g 1,g 2,g 3,g 4,g 5,1⟩) h⟩
 . exact h.1.elim
def v58:VF:=⟨71,[.tmp 6,.tmp 7,.tmp 8],(ZR [u1 3 .box [.tm 0],u1 4 .box [.tm 1],Zi 6 0,u1 7 .mov [.cn (.bool false)],Zi 8 0] (.seq (ZR [Zf 15 1 3,Zc 16 79 15,Zm 9 16] (ZR [Zm 17 9,Zq 18 .neq 17 0] (ZC 18 (ZR [Zm 19 9,Zi 6 0,u1 7 .mov [.cn (.bool false)],Zm 8 19] .ret) .skip))) (.seq (ZR [Zf 20 1 4,Zq 21 .lss 20 1,Zm 22 21,Zh 23 22 false 1 4,u2 24 22 false (.cmp .gtr) [.tm 23,.cn (.int .i64 1000000)],u1 25 .or [.tm 22,.tm 24],Zm 26 25,Zg 27 26 false 2,u2 28 26 false (.cmp .lss) [.tm 27,.cn (.int .i64 1)],u1 29 .or [.tm 26,.tm 28],Zm 30 29,Zg 31 30 false 2,u2 32 30 false (.cmp .gtr) [.tm 31,.cn (.int .i64 10000000)],u1 33 .or [.tm 30,.tm 32]] (ZC 33 (ZR [Zi 6 0,u1 7 .mov [.cn (.bool false)],Zi 8 2] .ret) .skip)) (ZR [Zf 34 1 3,Zl 35 34,Zp 36 35 1,u1 37 (.make 2 16 [(.int .i64 0),(.int .i64 0)]) [.cn (.int .i64 0),.tm 36],u1 10 (.alloc [.nil]) [],Zs 1 10 37] (.seq (ZR [Zf 38 1 3,Zl 39 38,Zi 40 0] (.block 0 (.loop (ZR [Zr 41 .lss 40 39] (.seq (ZC 41 .skip (.exit 0)) (.seq (.block 1 (ZR [Zx 42 2 38 40,Zt 43 2 42,Zn 12,Zs 2 12 43] (.region [Zf 44 1 10,Za 45 0 12,Zf 46 1 45,Za 47 1 12,Zf 48 1 47,Zm 49 2,Zo 50 .mul 48 49,u1 51 (.build [(.int .i64 0),(.int .i64 0)] [(0,1),(1,1)]) [.tm 46,.tm 50],u1 52 (.buildSlice 2 1 [(.int .i64 0),(.int .i64 0)] [(0,2)]) [.tm 51],u1 53 (.append 2 16 [(.int .i64 0),(.int .i64 0)]) [.tm 44,.tm 52],Zs 1 10 53]))) (.region [Zp 54 40 1,Zm 40 54]))))))) (ZR [u1 55 (.mkfn (.func 82) 0) [.tm 10,.tm 3,.tm 4],u1 13 (.alloc [(.val .nilFunc)]) [],Zs 1 13 55] (ZR [u1 56 (.mkfn (.func 83) 0) [.tm 13],Zm 14 56] (.seq (ZR [Zm 57 14,u1 58 .callv [.tm 57,.cn (.int .i64 1000000000001)],Zm 59 58,Zg 60 59 false 14,u2 61 59 false .callv [.tm 60,.cn (.int .i64 (-1000000000000))],u2 62 59 false .not [.tm 61],u1 63 .or [.tm 59,.tm 62]] (ZC 63 (ZR [Zi 6 0,u1 7 .mov [.cn (.bool false)],Zi 8 7] .ret) .skip)) (ZR [Zm 64 14,u1 65 (.call 84) [.cn (.int .i64 (-1000000000000)),.cn (.int .i64 1000000000001),.tm 64],Zm 6 65] (ZR [Zm 66 6,Zf 67 1 13,Zm 68 6,u1 69 .callv [.tm 67,.tm 68],Zc 70 85 69,Zm 6 66,Zm 7 70,Zi 8 0] .ret))))))))))⟩
theorem YB8:Yg YCX Tryz.f58=some v58:=by kernel_rfl
def v82:VF:=⟨19,[.tmp 5],(ZR [u1 5 .mov [.cn .nil]] (.seq (.draw [] [Zv 6 1 1,Zv 7 1 2,w1 8 .len [.tm 7],Zv 9 1 2,w1 10 .len [.tm 9],w1 11 (.slice3 2) [.tm 6,.tm 8,.tm 10],Zu 12 0,w1 13 .neg [.tm 12],Zv 14 1 3,w1 15 (.ari .mul) [.tm 13,.tm 14],w1 16 (.build [(.int .i64 0),(.int .i64 0)] [(0,1),(1,1)]) [.cn (.int .i64 2),.tm 15],w1 17 (.buildSlice 2 1 [(.int .i64 0),(.int .i64 0)] [(0,2)]) [.tm 16],w1 18 (.append 2 16 [(.int .i64 0),(.int .i64 0)]) [.tm 11,.tm 17],Zu 5 18]) .ret))⟩
theorem YCu:Yg YCX Tryz.f82=some v82:=by kernel_rfl
def v83:VF:=⟨9,[.tmp 3],(ZR [u1 3 .mov [.cn (.bool false)]] (ZR [Zf 4 1 1,Zm 5 0,u1 6 .callv [.tm 4,.tm 5],Zc 7 80 6,Zq 8 .geq 7 0,Zm 3 8] .ret))⟩
theorem YCv:Yg YCX Tryz.f83=some v83:=by kernel_rfl
def sclT(s:Int)(x:Int×Int):Int×Int:=(x.1,x.2*s)
def atG(all:List (Int×Int))(den m:Int):List (Int×Int):=all++[(2, -m*den)]
def isG(all:List (Int×Int))(den m:Int):Bool:=decide (0<=YlR (atG all den m))
def Ysn(den s:Int):Bool:=decide (den<1) || decide (1000000<den) || decide (s<1) || decide (10000000<s)
def flrG(all:List (Int×Int))(den:Int):Int×Bool×Int:=
 if(isG all den 1000000000001|| !isG all den (-1000000000000))=true then(0,false,7)
 else(bisL 64 (isG all den) (-1000000000000) 1000000000001,oneF (atG all den (bisL 64 (isG all den) (-1000000000000) 1000000000001)),0)
def flrF(l:List (Int×Int))(den s:Int):Int×Bool×Int:=
 if Yf2 l≠0 then(0,false,Yf2 l)else if Ysn den s=true then(0,false,2)else flrG (l.map (sclT s)) den
theorem Yqm{α β:Type}[Inhabited α][Inhabited β]{l:List α}{f:α->β}{k:Nat}(h:k<l.length):(l.map f).getD k default=f (l.getD k default):=by
 rw[YC1,List.getElem?_map,List.getElem?_eq_getElem h,YC1,List.getElem?_eq_getElem h];rfl
theorem Ymk{A:List (Int×Int)}{L:Nat}(hL:A.length=L){q:Int}{hp:List HO}{r:List SV->List SV}:
   lsP 2 enc2 (L+1) 2 (fun k=>YaX false hp r (if k<L then [SV.int .i64 (A.getD k default).fst,SV.int .i64 (A.getD k default).snd]else Yt 2 (Yl ((k-L)*2) [SV.int .i64 2,SV.int .i64 q]))) (A++[(2,q)]):=by
 subst hL
 refine⟨rfl,by simp,fun k hk=>?_⟩
 by_cases h:k<A.length
 . simp only[if_pos h]
   rw[Yal h]
   exact Ye _
 . simp only[if_neg h]
   rw[Yam (by omega),show k-A.length=0 by omega]
   exact Ye _
theorem Yy7{l:List (Int×Int)}{s den m:Int}(hl:∀x,x∈l->okT0 x=false)(hs:1<=s/\s<=10000000)(hd:1<=den/\den<=1000000)(hm: -1000000000001<=m/\m<=1000000000001):∀x,x∈atG (l.map (sclT s)) den m->okT x:=by
 intro x hx
 rw[atG,YDu,List.mem_singleton,YDv]at hx
 rcases hx with⟨y,hy,rfl⟩ |rfl
 . have:=hl y hy
   simp only[okT0,YDb,decide_eq_false_iff_not]at this
   have hb:=Ya4 (x:=y.2) (y:=s) (X:=1000000000) (Y:=10000000) (by omega) (by omega)
   simp only[okT,sclT]
   omega
 . have hb:=Ya4 (x:= -m) (y:=den) (X:=1000000000001) (Y:=1000000) (by omega) (by omega)
   simp only[okT]
   omega
theorem YiY{m den:Int}(hd:1<=den/\den<=1000000)(hm: -1000000000001<=m/\m<=1000000000001):IntKind.i64.wrap (IntKind.i64.wrap (0-m)*den)= -m*den:=by
 have hb:=Ya4 (x:= -m) (y:=den) (X:=1000000000001) (Y:=1000000) (by omega) (by omega)
 rw[YCW (0-m) (by omega),Int.zero_sub,YCW _ (by omega)]
theorem YwQ{A:List (Int×Int)}{L:Nat}{x y:Int}{k a b:Nat}(hk:k<L+1):leL a b (if k<L then [SV.int .i64 (A.getD k default).fst,SV.int .i64 (A.getD k default).snd]else Yt 2 (Yl ((k-L)*2) [SV.int .i64 x,SV.int .i64 y])) (if k<L then [SV.int .i64 (A.getD k default).fst,SV.int .i64 (A.getD k default).snd]else Yt 2 (Yl ((k-L)*2) [SV.int .i64 x,SV.int .i64 y])):=by
 by_cases h:k<L
 . rw[if_pos h];exact⟨⟨rfl,rfl⟩,⟨rfl,rfl⟩,trivial⟩
 . rw[if_neg h,show k-L=0 by omega];exact⟨⟨rfl,rfl⟩,⟨rfl,rfl⟩,trivial⟩
def flrC:Ctr:={ alias:=false,of:=fun l=>match l with
 | [.vs _ _ n sz get,.int .i64 den,.int .i64 s]=> .ex (List (Int×Int)) fun l=> .pre (lsP 2 enc2 n sz get l/\n<=1000000000000) (.fin (.tup [.int .i64 (flrF l den s).1,.bool (flrF l den s).2.1,.int .i64 (flrF l den s).2.2]) [])
 |_=>noC}
def TE0:Env:={ ct:=fun n=>match n with|79=>some chkTC|80=>some signC|85=>some oneC|_=>none,fn:=fun n=>match n with|82=>some v82|83=>some v83|84=>some v84|_=>none,meth:=fun _ _=>none}
theorem YrL:TE0.ct 79=some chkTC:=rfl
theorem YhH:TE0.ct 80=some signC:=rfl
theorem YhK:TE0.ct 85=some oneC:=rfl
theorem YhI:TE0.ct 82=none:=rfl
theorem YhL:TE0.fn 82=some v82:=rfl
theorem YhJ:TE0.ct 83=none:=rfl
theorem YhM:TE0.fn 83=some v83:=rfl
theorem YrM:TE0.ct 84=none:=rfl
theorem YrN:TE0.fn 84=some v84:=rfl
theorem Yyw:Yo YCX TE0:=by
 refine⟨fun f c h=>?_,fun f vf h=>?_,(fun _ _ _ h=>by cases h),by kernel_rfl,(fun _ h=>by cases h)⟩
 . simp only[TE0]at h
   split at h
   . cases h;exact⟨Ypk,Tryz.f79,Tryz.func79,by kernel_rfl,by kernel_rfl⟩
   . cases h;exact⟨Yq4,Tryz.f80,Tryz.func80,by kernel_rfl,by kernel_rfl⟩
   . cases h;exact⟨Yv8,Tryz.f85,Tryz.func85,by kernel_rfl,by kernel_rfl⟩
   . cases h
 . simp only[TE0]at h
   split at h
   . cases h;exact⟨Tryz.f82,Tryz.func82,YCu,Tryz.f82,Tryz.func82,by kernel_rfl,by kernel_rfl⟩
   . cases h;exact⟨Tryz.f83,Tryz.func83,YCv,Tryz.f83,Tryz.func83,by kernel_rfl,by kernel_rfl⟩
   . cases h;exact⟨Tryz.f84,Tryz.func84,Yut,Tryz.f84,Tryz.func84,by kernel_rfl,by kernel_rfl⟩
   . cases h
theorem flr_c:flrC.ok YCX 58:=by
 refine Yb Tryz.func58 YB8 Yyw 800 flrC fun args k h=>?_
 simp only[flrC]at h
 split at h
 . rename_i tt z n sz get den s
   obtain⟨l,⟨⟨rfl,rfl,hg⟩,hnb⟩,h⟩:=h
   refine⟨[.vs tt z l.length 2 (fun k=>enc2 (l.getD k default)),.int .i64 den,.int .i64 s],⟨⟨id,rfl,rfl,rfl,hg⟩,⟨rfl,rfl⟩,⟨rfl,rfl⟩,trivial⟩,?_⟩
   dsimp only[v58,YrL,chkTC,enc2,go_sem,reduceIte,YCS]
   simp only[Yd,YCS,YCU,reduceCtorEq,YCT]
   refine⟨l,⟨⟨rfl,rfl,fun k _=>Ye _⟩,by omega⟩,fun hh=>by rw[flrF,if_pos hh]at h;exact Ydz h,fun hchk=>?_⟩
   obtain⟨hl,hn⟩:=Ylw hchk
   rw[flrF,if_neg (by rw[hchk];decide)]at h
   refine⟨fun hh=>?_,fun hb=>?_⟩
   . rw[if_pos (show Ysn den s=true from hh)]at h
     exact Ydz h
   have hb:Ysn den s=false:=hb
   rw[if_neg (by rw[hb];decide)]at h
   simp only[Ysn,YDb,decide_eq_false_iff_not]at hb
   have hb:(1<=den/\den<=1000000)/\1<=s/\s<=10000000:=by omega
   have hlw:IntKind.i64.wrap ((l.length:Int)+1)=(l.length:Int)+1:=YCW _ (by omega)
   rw[hlw]
   refine⟨⟨by decide,by decide,by omega,by unfold YW;omega⟩,?_⟩
   obtain⟨A,hA⟩:∃A,A=l.map (sclT s):=⟨_,rfl⟩
   have hAl:A.length=l.length:=by rw[hA,List.length_map]
   have hAk:∀k,k<l.length->A.getD k default=sclT s (l.getD k default):=fun k hk=>by rw[hA,Yqm hk]
   rw[<-hA]at h
   refine Loop.keep [2,0,0,1,0,0,1,27,0] Nat (fun i=>[(40,.int .i64 i)]) (fun i=>[(2,.own false 2 i (fun k=>enc2 (A.getD k default))),(3,.box [.own 2 0 i 2])]) [] (fun i=>i<=l.length) (fun i=>l.length-i) ?_ ?_
   . refine⟨0,YDy _,?_⟩
     dsimp only[go_sem,reduceIte,YCS]
     simp only[Ya]
     refine⟨⟨by decide,by decide,by decide,rfl⟩,⟨rfl,fun k hk=>absurd hk (Nat.not_lt_zero _)⟩,rfl,by decide⟩
   . rintro i hi
     dsimp only[YCY,enc2,go_sem,reduceIte,YCS]
     simp only[Yd,YCS,YCU,reduceCtorEq,YCT]
     refine⟨fun hlt=>?_,fun hge=>?_⟩
     . have hil:i<l.length:=by omega
       have hx:=hl _ (YK hil)
       simp only[okT0,YDb,decide_eq_false_iff_not]at hx
       have hm:=Ya4 (x:=(l.getD i default).2) (y:=s) (X:=1000000000) (Y:=10000000) (by omega) (by omega)
       rw[YCW ((l.getD i default).2*s) (by omega),Yfn (i:=i) (n:=l.length) hil (by omega)]
       refine⟨⟨by omega,by omega⟩,by decide,⟨by unfold YW;omega,fun k hk=>one2 hk⟩,i+1,by omega,by omega,?_⟩
       simp only[Ya]
       refine⟨?_,⟨rfl,fun q hq=>?_⟩,?_⟩
       . repeat' apply YC3
         all_goals first|exact trivial|decide|rfl|omega|exact(YDf (by omega)).symm|simp
       . by_cases hqi:q<i
         . rw[if_pos hqi];exact⟨⟨rfl,rfl⟩,⟨rfl,rfl⟩,trivial⟩
         . obtain rfl:q=i:=by omega
           rw[if_neg hqi,hAk _ hil,Nat.sub_self]
           exact⟨⟨rfl,rfl⟩,⟨rfl,rfl⟩,trivial⟩
       . repeat' apply YC3
         all_goals first|exact trivial|decide|rfl|omega|exact(YDf (by omega)).symm|simp
     . obtain rfl:i=l.length:=by omega
       clear hi hge
       dsimp only[YhJ,YhM,v83,YhI,YhL,v82,YhH,YhK,signC,go_sem,reduceIte,YCS]
       simp only[Yd,YCS,YCU,reduceCtorEq,YCT]
       rw[YiY hb.1 (by decide),YiY hb.1 (by decide)]
       simp only[YCY]
       have hok:∀m:Int,(-1000000000001<=m/\m<=1000000000001)->∀x,x∈atG A den m->okT x:=fun m hm=>by rw[hA];exact Yy7 hl hb.2 hb.1 hm
       refine⟨⟨by omega,by omega⟩,by decide,⟨by decide,by unfold YW;omega,fun k hk=>one2 hk⟩,atG A den 1000000000001,⟨Ymk hAl,hok _ (by decide),by omega⟩,?_⟩
       refine⟨fun hs1=>?_,fun hs1=>?_⟩
       . refine⟨⟨by omega,by omega⟩,by decide,⟨by decide,by unfold YW;omega,fun k hk=>one2 hk⟩,atG A den (-1000000000000),⟨Ymk hAl,hok _ (by decide),by omega⟩,fun hc=>?_,fun hc=>?_⟩
         . rw[flrG,if_pos (show(isG A den 1000000000001|| !isG A den (-1000000000000))=true from hc)]at h
           exact Ydz h
         . rw[flrG,if_neg (by rw[show(isG A den 1000000000001|| !isG A den (-1000000000000))=false from hc];decide)]at h
           dsimp only[YrM,YrN,v84,go_sem,reduceIte,YCS]
           simp only[Yd,YCS,YCU,reduceCtorEq,YCT]
           obtain⟨t,ht⟩:∃t,t=isG A den:=⟨_,rfl⟩
           obtain⟨R,hR⟩:∃R,R=bisL 64 t (-1000000000000) 1000000000001:=⟨_,rfl⟩
           rw[<-ht,<-hR]at h
           refine Loop.keep [2] (Nat×Int×Int) (fun s=>[(0,.int .i64 s.2.1),(1,.int .i64 s.2.2)]) (fun _=>[]) [] (fun s=>R=bisL s.1 t s.2.1 s.2.2/\ -1000000000000<=s.2.1/\s.2.1<s.2.2/\s.2.2<=1000000000001/\s.2.2-s.2.1<=2^s.1) (fun s=>s.1) ?_ ?_
           . refine⟨(64, -1000000000000,1000000000001),⟨hR,by decide,by decide,by decide,by decide⟩,?_⟩
             dsimp only[go_sem,reduceIte,YCS]
             simp only[Ya]
             repeat' apply YC3
             all_goals first|decide|rfl| (intro k hk;exact YwQ hk)
           . rintro⟨f,lo,hi⟩ ⟨hf,b0,b1,b2,b3⟩
             dsimp only at hf b0 b1 b2 b3
             dsimp only[YhJ,YhM,v83,YhI,YhL,v82,YhH,YhK,signC,oneC,go_sem,reduceIte,YCS]
             simp only[Yd,YCS,YCU,reduceCtorEq,YCT]
             simp only[YCY]
             have ed:IntKind.i64.wrap (hi-lo)=hi-lo:=YCW _ (by omega)
             have e2:IntKind.i64.wrap ((hi-lo).tdiv 2)=(hi-lo)/2:=by
               rw[Int.tdiv_eq_ediv_of_nonneg (by omega),YCW _ (by omega)]
             have e3:IntKind.i64.wrap (lo+(hi-lo)/2)=lo+(hi-lo)/2:=YCW _ (by omega)
             rw[ed,e2,e3]
             refine⟨fun hc1=>?_,fun hc1=>?_⟩
             . obtain⟨m,hm⟩:∃m,m=lo+(hi-lo)/2:=⟨_,rfl⟩
               rw[<-hm,YiY hb.1 (by omega)]
               obtain⟨g,rfl⟩:∃g,f=g+1:=by
                 cases f with
                 |zero=>simp at b3;omega
                 |succ g=>exact⟨g,rfl⟩
               rw[bisL,if_pos hc1,<-hm]at hf
               have b4:hi-lo<=2^g*2:=by rw[<-Int.pow_succ];exact b3
               refine⟨by decide,⟨by omega,by omega⟩,by decide,⟨by decide,by unfold YW;omega,fun k hk=>one2 hk⟩,atG A den m,⟨Ymk hAl,hok _ (by omega),by omega⟩,fun hd1=>?_,fun hd1=>?_⟩
               . have hd1:t m=true:=by rw[ht];exact decide_eq_true hd1
                 rw[if_pos hd1]at hf
                 refine⟨(g,m,hi),⟨hf,by simp only;omega,by simp only;omega,b2,by simp only;omega⟩,by simp only;omega,?_⟩
                 simp only[Ya]
                 repeat' apply YC3
                 all_goals first|decide|rfl| (intro k hk;exact YwQ hk)
               . have hd1:t m=false:=by rw[ht];exact decide_eq_false hd1
                 rw[if_neg (by rw[hd1];decide)]at hf
                 refine⟨(g,lo,m),⟨hf,by simp only;omega,by simp only;omega,by simp only;omega,by simp only;omega⟩,by simp only;omega,?_⟩
                 simp only[Ya]
                 repeat' apply YC3
                 all_goals first|decide|rfl| (intro k hk;exact YwQ hk)
             . have hRlo:R=lo:=by
                 cases f with
                 |zero=>exact hf
                 |succ g=>rw[hf,bisL,if_neg hc1]
               subst hRlo
               rw[YiY hb.1 (by omega)]
               exact⟨⟨by omega,by omega⟩,by decide,⟨by decide,by unfold YW;omega,fun k hk=>one2 hk⟩,atG A den R,⟨Ymk hAl,hok _ (by omega),by omega⟩,Ydz h⟩
       . refine⟨hs1,.bool false,?_⟩
         dsimp only[YhJ,YhM,v83,YhI,YhL,v82,YhH,YhK,signC,go_sem,reduceIte,YCS]
         simp only[Yd,YCS,YCU,reduceCtorEq,YCT]
         have hw:isG A den 1000000000001=true:=decide_eq_true hs1
         rw[flrG,if_pos (by rw[hw];rfl)]at h
         refine⟨fun _=>Ydz h,fun hc=>?_⟩
         rw[decide_eq_true hs1]at hc
         cases hc
 . exact h.1.elim
def v111:VF:=⟨51,[.cell 2 true 7,.tmp 3,.tmp 4],(ZR [u1 1 .box [.tm 0],u1 2 (.alloc [(.int .i64 0),(.int .i64 0),(.int .i64 0),(.int .i64 0),(.int .i64 0),(.int .i64 0),(.int .i64 0)]) [],Zi 3 0,Zi 4 0] (ZR [Zt 11 7 1,Zc 12 73 11,Zm 10 12,Ze 13 0 10,Ze 14 1 10,Ze 15 2 10,Zm 5 13,Zm 6 14,Zm 4 15] (.seq (ZR [Zm 16 4,Zq 17 .neq 16 0] (ZC 17 (ZR [u1 18 (.build [(.int .i64 0),(.int .i64 0),(.int .i64 0),(.int .i64 0),(.int .i64 0),(.int .i64 0),(.int .i64 0)] []) [],Zm 19 4,Zs 7 2 18,Zi 3 0,Zm 4 19] .ret) .skip)) (ZR [Zm 21 5,Zm 22 6,u1 23 (.call 58) [.tm 21,.tm 22,.cn (.int .i64 1)],Zm 20 23,Ze 24 0 20,Ze 25 1 20,Ze 26 2 20,Zm 7 24,Zm 8 25,Zm 9 26] (ZR [Za 27 0 1,u1 28 (.idxArr 6 1) [.tm 27,.cn (.int .i64 0)],Zf 29 1 28,Zm 30 7,Za 31 6 1,Zf 32 1 31,Zo 33 .mul 30 32,Zo 34 .sub 29 33,Za 35 0 1,u1 36 (.idxArr 6 1) [.tm 35,.cn (.int .i64 0)],Zs 1 36 34] (.seq (ZR [Za 38 0 1,Zt 39 6 38,Za 40 6 1,Zf 41 1 40,Zd 42 115 39 41,Zm 37 42,Ze 43 0 37,Ze 44 1 37,Zs 7 2 43,Zm 4 44] (ZR [Zm 45 4,Zq 46 .neq 45 0] (ZC 46 (ZR [u1 47 (.build [(.int .i64 0),(.int .i64 0),(.int .i64 0),(.int .i64 0),(.int .i64 0),(.int .i64 0),(.int .i64 0)] []) [],Zm 48 4,Zs 7 2 47,Zi 3 0,Zm 4 48] .ret) .skip))) (ZR [Zt 49 7 2,Zm 50 7,Zs 7 2 49,Zm 3 50,Zi 4 0] .ret)))))))⟩
theorem Yxi:Yg YCX Tryz.f111=some v111:=by kernel_rfl
def v88:VF:=⟨14,[.cell 4 true 7],(ZR [u1 4 (.alloc [(.int .i64 0),(.int .i64 0),(.int .i64 0),(.int .i64 0),(.int .i64 0),(.int .i64 0),(.int .i64 0)]) []] (ZR [Zm 8 0,Zm 9 1,Zd 10 108 8 9,Zm 7 10,Ze 11 0 7,Ze 12 1 7,u1 5 (.alloc [(.int .i64 0),(.int .i64 0),(.int .i64 0),(.int .i64 0),(.int .i64 0),(.int .i64 0),(.int .i64 0)]) [],Zs 7 5 11,Zm 6 12] (ZR [Zt 13 7 5,Zs 7 4 13] .ret)))⟩
theorem YCz:Yg YCX Tryz.f88=some v88:=by kernel_rfl
def v91:VF:=⟨14,[.cell 4 true 7],(ZR [u1 2 .box [.tm 0],u1 3 .box [.tm 1],u1 4 (.alloc [(.int .i64 0),(.int .i64 0),(.int .i64 0),(.int .i64 0),(.int .i64 0),(.int .i64 0),(.int .i64 0)]) []] (ZR [Zt 8 7 2,Zt 9 7 3,Zd 10 112 8 9,Zm 7 10,Ze 11 0 7,Ze 12 1 7,u1 5 (.alloc [(.int .i64 0),(.int .i64 0),(.int .i64 0),(.int .i64 0),(.int .i64 0),(.int .i64 0),(.int .i64 0)]) [],Zs 7 5 11,Zm 6 12] (ZR [Zt 13 7 5,Zs 7 4 13] .ret)))⟩
theorem YCC:Yg YCX Tryz.f91=some v91:=by kernel_rfl
def v110:VF:=⟨14,[.cell 4 true 7],(ZR [u1 2 .box [.tm 0],u1 3 .box [.tm 1],u1 4 (.alloc [(.int .i64 0),(.int .i64 0),(.int .i64 0),(.int .i64 0),(.int .i64 0),(.int .i64 0),(.int .i64 0)]) []] (ZR [Zt 8 7 2,Zt 9 7 3,Zd 10 72 8 9,Zm 7 10,Ze 11 0 7,Ze 12 1 7,u1 5 (.alloc [(.int .i64 0),(.int .i64 0),(.int .i64 0),(.int .i64 0),(.int .i64 0),(.int .i64 0),(.int .i64 0)]) [],Zs 7 5 11,Zm 6 12] (ZR [Zt 13 7 5,Zs 7 4 13] .ret)))⟩
theorem Yxh:Yg YCX Tryz.f110=some v110:=by kernel_rfl
def v90:VF:=⟨13,[.cell 2 true 7],(ZR [u1 1 .box [.tm 0],u1 2 (.alloc [(.int .i64 0),(.int .i64 0),(.int .i64 0),(.int .i64 0),(.int .i64 0),(.int .i64 0),(.int .i64 0)]) []] (ZR [Zt 7 7 1,Zc 8 111 7,Zm 6 8,Ze 9 0 6,Ze 10 1 6,Ze 11 2 6,u1 3 (.alloc [(.int .i64 0),(.int .i64 0),(.int .i64 0),(.int .i64 0),(.int .i64 0),(.int .i64 0),(.int .i64 0)]) [],Zs 7 3 9,Zm 4 10,Zm 5 11] (ZR [Zt 12 7 3,Zs 7 2 12] .ret)))⟩
theorem YCB:Yg YCX Tryz.f90=some v90:=by kernel_rfl
theorem YfC{t:Int->Bool}:∀(f:Nat)(a b:Int),a<b->a<=bisL f t a b/\bisL f t a b<b
 |0,a,b,h=>⟨Int.le_refl _,h⟩
 |f+1,a,b,h=>by
   rw[bisL]
   split
   . split
     . have:=YfC (t:=t) f (a+(b-a)/2) b (by omega);omega
     . have:=YfC (t:=t) f a (a+(b-a)/2) (by omega);omega
   . omega
theorem YsF(l:List (Int×Int))(den s:Int): -1000000000000<=(flrF l den s).1/\(flrF l den s).1<=1000000000000:=by
 unfold flrF
 split
 . simp only;omega
 . split
   . simp only;omega
   . unfold flrG
     split
     . simp only;omega
     . have:=YfC (t:=isG (l.map (sclT s)) den) 64 (-1000000000000) 1000000000001 (by decide)
       simp only
       omega
def offR(r:Rt)(k:Int):Rt:=⟨r.a-k*r.n,r.b,r.c,r.d,r.e,r.f,r.n⟩
def Yfq(r:Rt):Rt×Int×Int:=
 if chkR r≠0 then(YaC,0,chkR r)
 else if(YdS (offR r (flrF (Yz r) r.n 1).1)).2≠0 then(YaC,0,(YdS (offR r (flrF (Yz r) r.n 1).1)).2)
 else((YdS (offR r (flrF (Yz r) r.n 1).1)).1,(flrF (Yz r) r.n 1).1,0)
def foldC:Ctr:={ alias:=false,of:=fun l=>match l with
 | [.agg [.int .i64 a,.int .i64 b,.int .i64 c,.int .i64 d,.int .i64 e,.int .i64 f,.int .i64 n]]=> .fin (.tup [.agg (encR (Yfq ⟨a,b,c,d,e,f,n⟩).1),.int .i64 (Yfq ⟨a,b,c,d,e,f,n⟩).2.1,.int .i64 (Yfq ⟨a,b,c,d,e,f,n⟩).2.2]) []
 |_=>noC}
theorem Ylk{k:SV->List HO->Prop}{al:Bool}{hp:List HO}{r:Rt}{o e:Int}(h:k (.tup [.agg (encR r),.int .i64 o,.int .i64 e]) []):YB al k (.tup [.agg (encR r),.int .i64 o,.int .i64 e]) hp:=
 YE (show k _ []from h) (YA (.tup [.agg (encR r),.int .i64 o,.int .i64 e]) ⟨⟨trivial,trivial,trivial,trivial,trivial,trivial,trivial,trivial⟩,trivial,trivial,trivial⟩) (fun _=>by simp [Ym,Yp,encR])
def TF0:Env:={ ct:=fun n=>match n with|73=>some trmC|58=>some flrC|115=>some madeC|_=>none,fn:=fun _=>none,meth:=fun _ _=>none}
theorem YhO:TF0.ct 73=some trmC:=rfl
theorem YhN:TF0.ct 58=some flrC:=rfl
theorem YfT:TF0.ct 115=some madeC:=rfl
theorem Yyx:Yo YCX TF0:=by
 refine⟨fun f c h=>?_,fun f vf h=>?_,(fun _ _ _ h=>by cases h),by kernel_rfl,(fun _ h=>by cases h)⟩
 . simp only[TF0]at h
   split at h
   . cases h;exact⟨Yw4,Tryz.f73,Tryz.func73,by kernel_rfl,by kernel_rfl⟩
   . cases h;exact⟨flr_c,Tryz.f58,Tryz.func58,by kernel_rfl,by kernel_rfl⟩
   . cases h;exact⟨Yqj,Tryz.f115,Tryz.func115,by kernel_rfl,by kernel_rfl⟩
   . cases h
 . cases h
theorem Yzy:foldC.ok YCX 111:=by
 refine Yb Tryz.func111 Yxi Yyx 300 foldC fun args k h=>?_
 simp only[foldC]at h
 split at h
 . rename_i a b c d e f n
   refine⟨[.agg [.int .i64 a,.int .i64 b,.int .i64 c,.int .i64 d,.int .i64 e,.int .i64 f,.int .i64 n]],by simp [leL,le],?_⟩
   obtain⟨r,hr⟩:∃r:Rt,r=⟨a,b,c,d,e,f,n⟩:=⟨_,rfl⟩
   rw[<-hr]at h
   rw[show a=r.a by rw[hr],show b=r.b by rw[hr],show c=r.c by rw[hr],show d=r.d by rw[hr],show e=r.e by rw[hr],show f=r.f by rw[hr],show n=r.n by rw[hr]]
   clear hr
   have h:k (.tup [.agg (encR (Yfq r).1),.int .i64 (Yfq r).2.1,.int .i64 (Yfq r).2.2]) []:=h
   dsimp only[v111,YhO,YhN,YfT,trmC,flrC,madeC,encR,go_sem,reduceIte,YCS]
   simp only[Yd,YCS,YCU,reduceCtorEq,YCT]
   rw[show Rt.mk r.a r.b r.c r.d r.e r.f r.n=r from rfl]
   by_cases hc:chkR r=0
   . rw[if_neg (by rw[hc];decide)]
     rw[Yfq,if_neg (by rw[hc];decide)]at h
     dsimp only[YhO,YhN,YfT,trmC,flrC,madeC,encR,go_sem,reduceIte,YCS]
     simp only[Yd,YCS,YCU,reduceCtorEq,YCT]
     have hk:=YsF (Yz r) r.n 1
     have hn:=Yee hc
     have ha:=Yc4 hc (i:=0) (by decide)
     simp only[Rt.num]at ha
     have hm:=Ya4 (x:=(flrF (Yz r) r.n 1).1) (y:=r.n) (X:=1000000000000) (Y:=1000) hk (by omega)
     refine fun y=>⟨by decide,by decide,by decide,fun hh=>absurd trivial hh,Yz r,⟨⟨rfl,rfl,fun q _=>Ye _⟩,by have:=Ydt r;omega⟩,?_⟩
     rw[YCW ((flrF (Yz r) r.n 1).1*r.n) (by omega),YCW (r.a-(flrF (Yz r) r.n 1).1*r.n) (by omega)]
     refine⟨by decide,by decide,by decide,by decide,by decide,⟨by omega,by omega,fun i hi=>?_⟩,by decide,by decide,fun he=>?_,fun he=>?_⟩
     . have:=Yc4 hc hi
       rcases six hi with rfl|rfl|rfl|rfl|rfl|rfl <;> (simp only[Rt.num]at this⊢;omega)
     . rw[if_pos (show(YdS (offR r (flrF (Yz r) r.n 1).1)).2≠0 from he)]at h
       exact Ylk (r:=YaC) h
     . rw[if_neg (show¬(YdS (offR r (flrF (Yz r) r.n 1).1)).2≠0 from fun hh=>hh he)]at h
       exact(Ylk (r:=(YdS (offR r (flrF (Yz r) r.n 1).1)).1) h)
   . rw[if_pos hc]
     rw[Yfq,if_pos hc]at h
     dsimp only[YhO,YhN,YfT,trmC,flrC,madeC,encR,go_sem,reduceIte,YCS]
     simp only[Yd,YCS,YCU,reduceCtorEq,YCT]
     exact⟨by decide,by decide,by decide,fun _=>Ylk (r:=YaC) h,fun hh=>absurd hh hc⟩
 . exact h.1.elim
def YeR:Ctr:=Yb2 1
def Y5:Ctr:=Yb2 (-1)
def wholeC:Ctr:={ alias:=false,of:=fun l=>match l with
 | [.int .i64 a,.int .i64 b]=> .fin (.agg (encR (ofRF a b).1)) []
 |_=>noC}
def m2C(s:Int):Ctr:={ alias:=false,of:=fun l=>match l with
 | [.agg [.int .i64 a,.int .i64 b,.int .i64 c,.int .i64 d,.int .i64 e,.int .i64 f,.int .i64 n],.agg [.int .i64 a',.int .i64 b',.int .i64 c',.int .i64 d',.int .i64 e',.int .i64 f',.int .i64 n']]=>
   .fin (.agg (encR (Ybe ⟨a,b,c,d,e,f,n⟩ ⟨a',b',c',d',e',f',n'⟩ s).1)) []
 |_=>noC}
def folC:Ctr:={ alias:=false,of:=fun l=>match l with
 | [.agg [.int .i64 a,.int .i64 b,.int .i64 c,.int .i64 d,.int .i64 e,.int .i64 f,.int .i64 n]]=> .fin (.agg (encR (Yfq ⟨a,b,c,d,e,f,n⟩).1)) []
 |_=>noC}
def TF1:Env:={ ct:=fun n=>match n with|108=>some ofRC|112=>some YeR|72=>some Y5|111=>some foldC|_=>none,fn:=fun _=>none,meth:=fun _ _=>none}
theorem YdY:TF1.ct 108=some ofRC:=rfl
theorem Yd0:TF1.ct 112=some YeR:=rfl
theorem Yfy:TF1.ct 72=some Y5:=rfl
theorem YdZ:TF1.ct 111=some foldC:=rfl
theorem Yl9:Yo YCX TF1:=by
 refine⟨fun f c h=>?_,fun f vf h=>?_,(fun _ _ _ h=>by cases h),by kernel_rfl,(fun _ h=>by cases h)⟩
 . simp only[TF1]at h
   split at h
   . cases h;exact⟨of_c,Tryz.f108,Tryz.func108,by kernel_rfl,by kernel_rfl⟩
   . cases h;exact⟨YAa,Tryz.f112,Tryz.func112,by kernel_rfl,by kernel_rfl⟩
   . cases h;exact⟨YpA,Tryz.f72,Tryz.func72,by kernel_rfl,by kernel_rfl⟩
   . cases h;exact⟨Yzy,Tryz.f111,Tryz.func111,by kernel_rfl,by kernel_rfl⟩
   . cases h
 . cases h
theorem Yrl:wholeC.ok YCX 88:=by
 refine Yb Tryz.func88 YCz Yl9 300 wholeC fun args k h=>?_
 simp only[wholeC]at h
 split at h
 . rename_i a b
   refine⟨[.int .i64 a,.int .i64 b],by simp [leL,le],?_⟩
   dsimp only[v88,YdY,Yd0,Yfy,YdZ,ofRC,YeR,Y5,Yb2,foldC,encR,go_sem,reduceIte,YCS]
   simp only[Yd,YCS,YCU,reduceCtorEq,YCT]
   exact⟨by decide,by decide,Ysk (r:=(ofRF a b).1) h⟩
 . exact h.1.elim
theorem Yzx:folC.ok YCX 90:=by
 refine Yb Tryz.func90 YCB Yl9 300 folC fun args k h=>?_
 simp only[folC]at h
 split at h
 . rename_i a b c d e f n
   refine⟨[.agg [.int .i64 a,.int .i64 b,.int .i64 c,.int .i64 d,.int .i64 e,.int .i64 f,.int .i64 n]],by simp [leL,le],?_⟩
   dsimp only[v90,YdY,Yd0,Yfy,YdZ,ofRC,YeR,Y5,Yb2,foldC,encR,go_sem,reduceIte,YCS]
   simp only[Yd,YCS,YCU,reduceCtorEq,YCT]
   exact⟨by decide,by decide,by decide,Ysk (r:=(Yfq ⟨a,b,c,d,e,f,n⟩).1) h⟩
 . exact h.1.elim
theorem YBA:(m2C 1).ok YCX 91:=by
 refine Yb Tryz.func91 YCC Yl9 300 (m2C 1) fun args k h=>?_
 simp only[m2C]at h
 split at h
 . rename_i a b c d e f n a' b' c' d' e' f' n'
   refine⟨[.agg [.int .i64 a,.int .i64 b,.int .i64 c,.int .i64 d,.int .i64 e,.int .i64 f,.int .i64 n],.agg [.int .i64 a',.int .i64 b',.int .i64 c',.int .i64 d',.int .i64 e',.int .i64 f',.int .i64 n']],by simp [leL,le],?_⟩
   dsimp only[v91,YdY,Yd0,Yfy,YdZ,ofRC,YeR,Y5,Yb2,foldC,encR,go_sem,reduceIte,YCS]
   simp only[Yd,YCS,YCU,reduceCtorEq,YCT]
   exact⟨by decide,by decide,Ysk (r:=(Ybe ⟨a,b,c,d,e,f,n⟩ ⟨a',b',c',d',e',f',n'⟩ 1).1) h⟩
 . exact h.1.elim
theorem ovr_c:(m2C (-1)).ok YCX 110:=by
 refine Yb Tryz.func110 Yxh Yl9 300 (m2C (-1)) fun args k h=>?_
 simp only[m2C]at h
 split at h
 . rename_i a b c d e f n a' b' c' d' e' f' n'
   refine⟨[.agg [.int .i64 a,.int .i64 b,.int .i64 c,.int .i64 d,.int .i64 e,.int .i64 f,.int .i64 n],.agg [.int .i64 a',.int .i64 b',.int .i64 c',.int .i64 d',.int .i64 e',.int .i64 f',.int .i64 n']],by simp [leL,le],?_⟩
   dsimp only[v110,YdY,Yd0,Yfy,YdZ,ofRC,YeR,Y5,Yb2,foldC,encR,go_sem,reduceIte,YCS]
   simp only[Yd,YCS,YCU,reduceCtorEq,YCT]
   exact⟨by decide,by decide,Ysk (r:=(Ybe ⟨a,b,c,d,e,f,n⟩ ⟨a',b',c',d',e',f',n'⟩ (-1)).1) h⟩
 . exact h.1.elim
def letF(c:Int):Bool:=(decide (97<=c)&&decide (c<=122)) || (decide (65<=c)&&decide (c<=90))
def digF(c:Int):Bool:=decide (48<=c)&&decide (c<=57)
def okB(b:ByteArray)(i:Nat):Bool:=letF (YO b i) || (decide (i≠0)&&(decide (YO b i=95) || digF (YO b i)))
def Yer(b:ByteArray):Bool:=decide (1<=b.size)&&decide (b.size<=16)&&(YDk b.size).all (okB b)
theorem Yqy(b:ByteArray)(i:Nat):(!letF (YO b i)&&(decide ((i:Int)=0) || !decide (YO b i=95)&& !digF (YO b i)))= !okB b i:=by
 unfold okB
 have e:decide ((i:Int)=0)=decide (i=0):=decide_eq_decide.2 (by omega)
 rw[e,decide_not]
 cases letF (YO b i) <;> cases decide (i=0) <;> cases decide (YO b i=95) <;> cases digF (YO b i) <;> rfl
theorem Yqx{b:ByteArray}(h:∀j,j<b.size->okB b j=true):(YDk b.size).all (okB b)=true:=by
 rw[List.all_eq_true];intro j hj;exact h j (List.mem_range.1 hj)
theorem Yue{b:ByteArray}{i:Nat}(hi:i<b.size)(h:okB b i=false):(YDk b.size).all (okB b)=false:=by
 rw[List.all_eq_false];exact⟨i,List.mem_range.2 hi,by simp [h]⟩
theorem Yqq{b:ByteArray}{i:Nat}(hi:i<b.size)(h:okB b i=false):Yer b=false:=by
 unfold Yer;rw[Yue hi h,Bool.and_false]
theorem Ys2{b:ByteArray}(h:∀j,j<b.size->okB b j=true):Yer b=(decide (1<=(b.size:Int))&&decide ((b.size:Int)<=16)):=by
 unfold Yer
 rw[Yqx h,Bool.and_true,show decide (1<=(b.size:Int))=decide (1<=b.size)from decide_eq_decide.2 (by omega),show decide ((b.size:Int)<=16)=decide (b.size<=16)from decide_eq_decide.2 (by omega)]
def okR(b:ByteArray)(i:Nat):Bool:=letF (YO b i) || (digF (YO b i) || decide (YO b i=95))
theorem Yth{b:ByteArray}(h:(decide ((b.size:Int)<1) || decide (16<(b.size:Int)) || !letF (YO b 0))=true):Yer b=false:=by
 unfold Yer
 by_cases h1:1<=b.size
 . by_cases h2:b.size<=16
   . have h3:letF (YO b 0)=false:=by
       rw[show decide ((b.size:Int)<1)=false from decide_eq_false (by omega),show decide (16<(b.size:Int))=false from decide_eq_false (by omega)]at h
       simpa using h
     rw[Yue (i:=0) (by omega) (by simp [okB,h3]),Bool.and_false]
   . rw[decide_eq_false h2,Bool.and_false,Bool.false_and]
 . rw[decide_eq_false h1];rfl
theorem YqS{b:ByteArray}{i:Nat}(hi:i<b.size)(h:okR b i=false):Yer b=false:=by
 refine Yqq hi ?_
 unfold okR at h
 unfold okB
 simp only[YDb]at h
 rw[h.1,h.2.1,h.2.2]
 simp
theorem YqT{b:ByteArray}(h:(decide ((b.size:Int)<1) || decide (16<(b.size:Int)) || !letF (YO b 0))=false)(ha:∀j,j<b.size->okR b j=true):Yer b=true:=by
 simp only[YDb,decide_eq_false_iff_not,Bool.not_eq_false']at h
 obtain⟨⟨h1,h2⟩,h3⟩:=h
 unfold Yer
 rw[decide_eq_true (by omega),decide_eq_true (by omega),Yqx fun j hj=>?_];rfl
 have:=ha j hj
 unfold okR at this
 unfold okB
 by_cases hj0:j=0
 . subst hj0;rw[h3];rfl
 . rw[decide_eq_true hj0,Bool.true_and]
   revert this
   cases letF (YO b j) <;> cases digF (YO b j) <;> cases decide (YO b j=95) <;> simp
theorem Yqz(b:ByteArray)(i:Nat):(!letF (YO b i)&& !digF (YO b i)&& !decide (YO b i=95))= !okR b i:=by
 unfold okR
 cases letF (YO b i) <;> cases decide (YO b i=95) <;> cases digF (YO b i) <;> rfl
theorem YeH(b:ByteArray)(i:Nat):0<=YO b i/\YO b i<=255:=by
 unfold YO
 have h:=UInt8.toNat_lt (b.data.toList.getD i 0)
 omega
set_option maxRecDepth 100000 in
theorem Yz2{c:Int}(h0:0<=c)(h1:c<=255):(decide (97<=bitI .or .u8 c 32)&&decide (bitI .or .u8 c 32<=122))=letF c:=by
 have key:∀n:Fin 256,(decide (97<=bitI .or .u8 ((n.val:Nat):Int) 32)&&decide (bitI .or .u8 ((n.val:Nat):Int) 32<=122))=letF ((n.val:Nat):Int):=by decide
 have:=key ⟨c.toNat,by omega⟩
 have e:((c.toNat:Nat):Int)=c:=by omega
 simp only[e]at this
 exact this
def v106:VF:=⟨11,[.tmp 2],(ZR [u1 2 .mov [.cn (.bool false)]] (ZR [Zm 3 0,u1 4 (.bit .or) [.tm 3,.cn (.int .u8 32)],u1 5 (.cmp .geq) [.tm 4,.cn (.int .u8 97)],Zm 6 5,Zg 7 6 true 0,u2 8 6 true (.bit .or) [.tm 7,.cn (.int .u8 32)],u2 9 6 true (.cmp .leq) [.tm 8,.cn (.int .u8 122)],u1 10 .and [.tm 6,.tm 9],Zm 2 10] .ret))⟩
theorem Yxd:Yg YCX Tryz.f106=some v106:=by kernel_rfl
def v107:VF:=⟨9,[.tmp 2],(ZR [u1 2 .mov [.cn (.bool false)]] (ZR [Zm 3 0,u1 4 (.cmp .geq) [.tm 3,.cn (.int .u8 48)],Zm 5 4,Zg 6 5 true 0,u2 7 5 true (.cmp .leq) [.tm 6,.cn (.int .u8 57)],u1 8 .and [.tm 5,.tm 7],Zm 2 8] .ret))⟩
theorem Yxe:Yg YCX Tryz.f107=some v107:=by kernel_rfl
def v69:VF:=⟨17,[.tmp 2],(ZR [u1 2 .mov [.cn (.bool false)]] (ZR [Zm 3 0,u1 4 (.cmp .geq) [.tm 3,.cn (.int .u8 97)],Zm 5 4,Zg 6 5 true 0,u2 7 5 true (.cmp .leq) [.tm 6,.cn (.int .u8 122)],u1 8 .and [.tm 5,.tm 7],Zm 9 8,Zg 10 9 false 0,u2 11 9 false (.cmp .geq) [.tm 10,.cn (.int .u8 65)],Zg 12 9 false 11,Zg 13 12 true 0,u2 14 12 true (.cmp .leq) [.tm 13,.cn (.int .u8 90)],u2 15 9 false .and [.tm 12,.tm 14],u1 16 .or [.tm 9,.tm 15],Zm 2 16] .ret))⟩
theorem YCi:Yg YCX Tryz.f69=some v69:=by kernel_rfl
def v70:VF:=⟨9,[.tmp 2],(ZR [u1 2 .mov [.cn (.bool false)]] (ZR [Zm 3 0,u1 4 (.cmp .geq) [.tm 3,.cn (.int .u8 48)],Zm 5 4,Zg 6 5 true 0,u2 7 5 true (.cmp .leq) [.tm 6,.cn (.int .u8 57)],u1 8 .and [.tm 5,.tm 7],Zm 2 8] .ret))⟩
theorem YCj:Yg YCX Tryz.f70=some v70:=by kernel_rfl
def v87:VF:=⟨38,[.tmp 2],(ZR [u1 2 .mov [.cn (.bool false)]] (.seq (ZR [Zm 5 0,u1 6 .lenStr [.tm 5],Zi 7 0] (.block 0 (.loop (ZR [Zr 8 .lss 7 6] (.seq (ZC 8 .skip (.exit 0)) (.seq (.block 1 (ZR [Zm 9 7,Zm 3 9] (ZR [Zm 10 0,Zm 11 3,u1 12 .idxStr [.tm 10,.tm 11],Zm 4 12] (ZR [Zm 13 4,Zc 14 106 13,u1 15 .not [.tm 14],Zm 16 15,Zg 17 16 true 3,u2 18 16 true (.cmp .eql) [.tm 17,.cn (.int .i64 0)],Zg 19 16 true 18,Zg 20 19 false 4,u2 21 19 false (.cmp .neq) [.tm 20,.cn (.int .u8 95)],Zg 22 19 false 21,Zg 23 22 true 4,u2 24 22 true (.call 107) [.tm 23],u2 25 22 true .not [.tm 24],u2 26 19 false .and [.tm 22,.tm 25],u2 27 16 true .or [.tm 19,.tm 26],u1 28 .and [.tm 16,.tm 27]] (ZC 28 (ZR [u1 2 .mov [.cn (.bool false)]] .ret) .skip))))) (.region [Zp 29 7 1,Zm 7 29]))))))) (ZR [Zm 30 0,u1 31 .lenStr [.tm 30],Zq 32 .geq 31 1,Zm 33 32,Zg 34 33 true 0,u2 35 33 true .lenStr [.tm 34],u2 36 33 true (.cmp .leq) [.tm 35,.cn (.int .i64 16)],u1 37 .and [.tm 33,.tm 36],Zm 2 37] .ret)))⟩
theorem YCy:Yg YCX Tryz.f87=some v87:=by kernel_rfl
def v34:VF:=⟨42,[.tmp 2],(ZR [u1 2 .mov [.cn (.bool false)]] (.seq (ZR [Zm 4 0,u1 5 .lenStr [.tm 4],Zq 6 .lss 5 1,Zm 7 6,Zg 8 7 false 0,u2 9 7 false .lenStr [.tm 8],u2 10 7 false (.cmp .gtr) [.tm 9,.cn (.int .i64 16)],u1 11 .or [.tm 7,.tm 10],Zm 12 11,Zg 13 12 false 0,u2 14 12 false .idxStr [.tm 13,.cn (.int .i64 0)],u2 15 12 false (.call 69) [.tm 14],u2 16 12 false .not [.tm 15],u1 17 .or [.tm 12,.tm 16]] (ZC 17 (ZR [u1 2 .mov [.cn (.bool false)]] .ret) .skip)) (.seq (ZR [Zi 3 0] (.block 0 (.loop (.seq (ZR [Zm 18 3,Zm 19 0,u1 20 .lenStr [.tm 19],Zr 21 .lss 18 20] (ZC 21 .skip (.exit 0))) (.seq (.block 1 (ZR [Zm 24 0,Zm 25 3,u1 26 .idxStr [.tm 24,.tm 25],Zc 27 69 26,u1 28 .not [.tm 27],Zm 29 28,Zg 30 29 true 0,Zg 31 29 true 3,u2 32 29 true .idxStr [.tm 30,.tm 31],u2 33 29 true (.call 70) [.tm 32],u2 34 29 true .not [.tm 33],u1 35 .and [.tm 29,.tm 34],Zm 36 35,Zg 37 36 true 0,Zg 38 36 true 3,u2 39 36 true .idxStr [.tm 37,.tm 38],u2 40 36 true (.cmp .neq) [.tm 39,.cn (.int .u8 95)],u1 41 .and [.tm 36,.tm 40]] (ZC 41 (ZR [u1 2 .mov [.cn (.bool false)]] .ret) .skip))) (.region [Zm 22 3,Zp 23 22 1,Zm 3 23])))))) (ZR [u1 2 .mov [.cn (.bool true)]] .ret))))⟩
theorem YBR:Yg YCX Tryz.f34=some v34:=by kernel_rfl
def letC:Ctr:={ alias:=false,of:=fun l=>match l with
 | [.int .u8 c]=> .pre (0<=c/\c<=255) (.fin (.bool (letF c)) [])
 |_=>noC}
def digC:Ctr:={ alias:=false,of:=fun l=>match l with
 | [.int .u8 c]=> .fin (.bool (digF c)) []
 |_=>noC}
def NM0:Env:={ ct:=fun _=>none,fn:=fun _=>none,meth:=fun _ _=>none}
theorem Yl3:Yo YCX NM0:=by
 refine⟨fun f c h=>?_,fun f vf h=>?_,(fun _ _ _ h=>by cases h),by kernel_rfl,(fun _ h=>by cases h)⟩
 . cases h
 . cases h
theorem Yz1:letC.ok YCX 106:=by
 refine Yb Tryz.func106 Yxd Yl3 100 letC fun args k h=>⟨args,?_⟩
 simp only[letC]at h
 split at h
 . refine⟨by simp [leL,le],?_⟩
   dsimp only[v106,go_sem,reduceIte]
   simp only[Yd,YCS,YCU,reduceCtorEq,YCT]
   obtain⟨⟨h0,h1⟩,h⟩:=h
   have h:k _ []:=h
   rw[<-Yz2 h0 h1]at h
   exact Yw h
 . exact h.1.elim
theorem Yzq:digC.ok YCX 107:=by
 refine Yb Tryz.func107 Yxe Yl3 100 digC fun args k h=>⟨args,?_⟩
 simp only[digC]at h
 split at h
 . refine⟨by simp [leL,le],?_⟩
   dsimp only[v107,go_sem,reduceIte]
   simp only[Yd,YCS,YCU,reduceCtorEq,YCT]
   have h:k _ []:=h
   unfold digF at h
   exact Yw h
 . exact h.1.elim
theorem YwJ:letC.ok YCX 69:=by
 refine Yb Tryz.func69 YCi Yl3 100 letC fun args k h=>⟨args,?_⟩
 simp only[letC]at h
 split at h
 . refine⟨by simp [leL,le],?_⟩
   dsimp only[v69,go_sem,reduceIte]
   simp only[Yd,YCS,YCU,reduceCtorEq,YCT]
   obtain⟨⟨h0,h1⟩,h⟩:=h
   have h:k _ []:=h
   unfold letF at h
   exact⟨fun a b=>by rw[a,decide_eq_true b];rfl,Yw h⟩
 . exact h.1.elim
theorem YwE:digC.ok YCX 70:=by
 refine Yb Tryz.func70 YCj Yl3 100 digC fun args k h=>⟨args,?_⟩
 simp only[digC]at h
 split at h
 . refine⟨by simp [leL,le],?_⟩
   dsimp only[v70,go_sem,reduceIte]
   simp only[Yd,YCS,YCU,reduceCtorEq,YCT]
   have h:k _ []:=h
   unfold digF at h
   exact Yw h
 . exact h.1.elim
def nameC:Ctr:={ alias:=false,of:=fun l=>match l with
 | [.val (.string b)]=> .pre (b.size<=9223372036854775807) (.fin (.bool (Yer b)) [])
 |_=>noC}
def NM1:Env:={ ct:=fun n=>match n with|106=>some letC|107=>some digC|_=>none,fn:=fun _=>none,meth:=fun _ _=>none}
theorem Yod:NM1.ct 106=some letC:=rfl
theorem Yoe:NM1.ct 107=some digC:=rfl
theorem Yx5:Yo YCX NM1:=by
 refine⟨fun f c h=>?_,fun f vf h=>?_,(fun _ _ _ h=>by cases h),by kernel_rfl,(fun _ h=>by cases h)⟩
 . simp only[NM1]at h
   split at h
   . cases h;exact⟨Yz1,Tryz.f106,Tryz.func106,by kernel_rfl,by kernel_rfl⟩
   . cases h;exact⟨Yzq,Tryz.f107,Tryz.func107,by kernel_rfl,by kernel_rfl⟩
   . cases h
 . cases h
theorem Yv4:nameC.ok YCX 87:=by
 refine Yb Tryz.func87 YCy Yx5 200 nameC fun args k h=>⟨args,?_⟩
 simp only[nameC]at h
 split at h
 . rename_i b
   refine⟨by simp [leL,le,bnd],?_⟩
   obtain⟨hb,h⟩:=h
   have h:k _ []:=h
   dsimp only[v87,go_sem,reduceIte]
   simp only[Yd,YCS,YCU,reduceCtorEq,YCT]
   refine Loop.keep [0,4,0,0] Nat (fun i=>[(7,.int .i64 i)]) (fun _=>[]) [] (fun i=>i<=b.size/\∀j,j<i->okB b j=true) (fun i=>b.size-i) ?_ ?_
   . refine⟨0,⟨YDy _,fun j h=>by omega⟩,?_⟩
     dsimp only[go_sem,reduceIte]
     simp only[Ya]
     simp
   . rintro i ⟨hi,ha⟩
     dsimp only[Yod,Yoe,letC,digC,go_sem,reduceIte]
     simp only[Yd,YCS,YCU,reduceCtorEq,YCT,YCY]
     refine⟨fun hlt=>⟨⟨by omega,hlt⟩,YeH b i,fun a c=>by rw[a,decide_eq_false c];rfl,fun a c=>by rw[a,decide_eq_false c];rfl,fun hc=>?_,fun hc=>?_⟩,fun hge=>?_⟩
     . rw[Yqy]at hc
       rw[Yqq (by omega:i<b.size) (by simpa using hc)]at h
       exact Yw h
     . rw[Yqy]at hc
       refine⟨i+1,⟨by omega,fun j hj=>?_⟩,by omega,?_⟩
       . rcases YC4 j i with h'|h'
         . exact ha j h'
         . obtain rfl:j=i:=by omega
           simpa using hc
       . simp only[Ya]
         exact Yfn (by omega:i<b.size) (by omega)
     . obtain rfl:i=b.size:=by omega
       rw[Ys2 ha]at h
       exact Yw h
 . exact h.1.elim
def NM2:Env:={ ct:=fun n=>match n with|69=>some letC|70=>some digC|_=>none,fn:=fun _=>none,meth:=fun _ _=>none}
theorem Yl4:NM2.ct 69=some letC:=rfl
theorem Yl5:NM2.ct 70=some digC:=rfl
theorem Yx6:Yo YCX NM2:=by
 refine⟨fun f c h=>?_,fun f vf h=>?_,(fun _ _ _ h=>by cases h),by kernel_rfl,(fun _ h=>by cases h)⟩
 . simp only[NM2]at h
   split at h
   . cases h;exact⟨YwJ,Tryz.f69,Tryz.func69,by kernel_rfl,by kernel_rfl⟩
   . cases h;exact⟨YwE,Tryz.f70,Tryz.func70,by kernel_rfl,by kernel_rfl⟩
   . cases h
 . cases h
theorem Yti:nameC.ok YCX 34:=by
 refine Yb Tryz.func34 YBR Yx6 200 nameC fun args k h=>⟨args,?_⟩
 simp only[nameC]at h
 split at h
 . rename_i b
   refine⟨by simp [leL,le,bnd],?_⟩
   obtain⟨hb,h⟩:=h
   have h:k _ []:=h
   dsimp only[v34,Yl4,Yl5,letC,digC,go_sem,reduceIte]
   simp only[Yd,YCS,YCU,reduceCtorEq,YCT,show Int.toNat 0=0 from rfl]
   have hpos:(decide ((b.size:Int)<1) || decide (16<(b.size:Int)))=false->0<(b.size:Int):=fun h=>by
     simp only[YDb,decide_eq_false_iff_not]at h;omega
   refine⟨fun h=>⟨by omega,hpos h⟩,fun _=>YeH b 0,fun hc=>?_,fun hc=>?_⟩
   . rw[Yth hc]at h;exact Yw h
   refine Loop.keep [0,2] Nat (fun i=>[(3,.int .i64 i)]) (fun _=>[]) [] (fun i=>i<=b.size/\∀j,j<i->okR b j=true) (fun i=>b.size-i) ?_ ?_
   . refine⟨0,⟨YDy _,fun j h=>by omega⟩,?_⟩
     dsimp only[go_sem,reduceIte]
     simp only[Ya]
     simp
   . rintro i ⟨hi,ha⟩
     dsimp only[Yl4,Yl5,letC,digC,go_sem,reduceIte]
     simp only[Yd,YCS,YCU,reduceCtorEq,YCT,YCY]
     refine⟨fun hlt=>⟨⟨by omega,hlt⟩,YeH b i,fun _=>⟨by omega,hlt⟩,fun _=>⟨by omega,hlt⟩,fun hc2=>?_,fun hc2=>?_⟩,fun hge=>?_⟩
     . rw[Yqz]at hc2
       rw[YqS (by omega:i<b.size) (by simpa using hc2)]at h
       exact Yw h
     . rw[Yqz]at hc2
       refine⟨i+1,⟨by omega,fun j hj=>?_⟩,by omega,?_⟩
       . rcases YC4 j i with h'|h'
         . exact ha j h'
         . obtain rfl:j=i:=by omega
           simpa using hc2
       . simp only[Ya]
         exact Yfn (by omega:i<b.size) (by omega)
     . obtain rfl:i=b.size:=by omega
       rw[YqT hc ha]at h
       exact Yw h
 . exact h.1.elim
def v86:VF:=⟨12,[.tmp 4],(ZR [Zi 4 0] (.seq (.block 0 (.loop (.seq (ZR [Zm 5 1,Zq 6 .neq 5 0] (ZC 6 .skip (.exit 0))) (.block 1 (.draw [] [Zu 7 1,Zu 8 0,Zu 9 1,w1 10 .rem [.tm 8,.tm 9],Zu 0 7,Zu 1 10]))))) (ZR [Zm 11 0,Zm 4 11] .ret)))⟩
theorem YCx:Yg YCX Tryz.f86=some v86:=by kernel_rfl
def v62:VF:=⟨90,[.tmp 2],(ZR [u1 1 .box [.tm 0],Zi 2 0] (.seq (ZR [Za 7 2 1,Zf 8 1 7,Zq 9 .lss 8 0,Zm 10 9,Zj 11 10 false 2 1,Zh 12 10 false 1 11,u2 13 10 false (.cmp .gtr) [.tm 12,.cn (.int .i64 11)],u1 14 .or [.tm 10,.tm 13]] (ZC 14 (ZR [Zi 2 2] .ret) .skip)) (ZR [u1 3 .mov [.cn (.bool true)],Zi 4 1] (.seq (ZR [Za 15 3 1,Zt 16 24 15,Zi 17 0] (.block 0 (.loop (ZR [Zq 18 .lss 17 12] (.seq (ZC 18 .skip (.exit 0)) (.seq (.block 1 (ZR [u1 19 (.index true 12 2) [.tm 16,.tm 17],Zn 6,Zs 2 6 19] (.seq (ZR [Za 20 1 6,Zf 21 1 20,Zq 22 .lss 21 1,Zm 23 22,Zj 24 23 false 1 6,Zh 25 23 false 1 24,u2 26 23 false (.cmp .gtr) [.tm 25,.cn (.int .i64 24)],u1 27 .or [.tm 23,.tm 26],Zm 28 27,Zj 29 28 false 0 6,Zh 30 28 false 1 29,Zj 31 28 false 1 6,Zh 32 28 false 1 31,u2 33 28 false (.ari .mul) [.cn (.int .i64 (-2)),.tm 32],u2 34 28 false (.cmp .lss) [.tm 30,.tm 33],u1 35 .or [.tm 28,.tm 34],Zm 36 35,Zj 37 36 false 0 6,Zh 38 36 false 1 37,Zj 39 36 false 1 6,Zh 40 36 false 1 39,u2 41 36 false (.ari .mul) [.cn (.int .i64 2),.tm 40],u2 42 36 false (.cmp .gtr) [.tm 38,.tm 41],u1 43 .or [.tm 36,.tm 42]] (ZC 43 (ZR [Zi 2 2] .ret) .skip)) (ZR [Zm 44 3,Zm 45 44,Zj 46 45 true 0 6,Zh 47 45 true 1 46,Zj 48 45 true 0 6,Zh 49 45 true 1 48,u2 50 45 true .neg [.tm 49],u2 51 45 true .max [.tm 47,.tm 50],Zj 52 45 true 1 6,Zh 53 45 true 1 52,u2 54 45 true (.call 86) [.tm 51,.tm 53],u2 55 45 true (.cmp .eql) [.tm 54,.cn (.int .i64 1)],u1 56 .and [.tm 45,.tm 55],Zm 3 56] (ZR [Zm 57 4,Zq 58 .leq 57 120] (ZC 58 (.draw [] [Zu 59 4,Zu 60 4,Zy 61 1 6,Zv 62 1 61,Zy 65 1 6,Zv 66 1 65,Zz 63 86 60 62,w1 64 .quo [.tm 59,.tm 63],w1 67 (.ari .mul) [.tm 64,.tm 66],Zu 4 67]) .skip)))))) (.region [Zp 68 17 1,Zm 17 68]))))))) (.seq (.block 2 (ZR [Za 70 0 1,Zf 71 1 70,Zc 72 87 71,u1 73 .not [.tm 72],Zm 74 73,Zg 75 74 false 3,u2 76 74 false .not [.tm 75],u1 77 .or [.tm 74,.tm 76],Zm 78 77,Zj 79 78 false 2 1,Zh 80 78 false 1 79,Zj 81 78 false 3 1,u2 82 78 false (.idxArr 12 2) [.tm 81,.tm 80],Zj 83 78 false 0 82,Zh 84 78 false 1 83,u2 85 78 false (.cmp .neq) [.tm 84,.cn (.int .i64 0)],u1 86 .or [.tm 78,.tm 85],Zm 69 86] (ZC 69 (ZR [Zi 2 6] .ret) (ZR [Zm 88 4,Zq 89 .gtr 88 120,Zm 87 89] (ZC 87 (ZR [Zi 2 7] .ret) .skip))))) (ZR [Zi 2 0] .ret))))))⟩
theorem YCb:Yg YCX Tryz.f62=some v62:=by kernel_rfl
structure Tm where
 nm:ByteArray
 syn:Bool
 wolf:Int
 p:Nat->Int×Int
def encP(p:Nat->Int×Int):List SV:=[.int .i64 (p 0).1,.int .i64 (p 0).2,.int .i64 (p 1).1,.int .i64 (p 1).2,.int .i64 (p 2).1,.int .i64 (p 2).2,.int .i64 (p 3).1,.int .i64 (p 3).2,.int .i64 (p 4).1,.int .i64 (p 4).2,.int .i64 (p 5).1,.int .i64 (p 5).2,.int .i64 (p 6).1,.int .i64 (p 6).2,.int .i64 (p 7).1,.int .i64 (p 7).2,.int .i64 (p 8).1,.int .i64 (p 8).2,.int .i64 (p 9).1,.int .i64 (p 9).2,.int .i64 (p 10).1,.int .i64 (p 10).2,.int .i64 (p 11).1,.int .i64 (p 11).2]
def encT(T:Tm):List SV:= .val (.string T.nm):: .bool T.syn:: .int .i64 T.wolf::encP T.p
theorem Yfl{i:Nat}(h:i<12):i=0\/i=1\/i=2\/i=3\/i=4\/i=5\/i=6\/i=7\/i=8\/i=9\/i=10\/i=11:=by omega
theorem YiD(p:Nat->Int×Int){i:Nat}(h:i<12):Yt 2 (Yl (i*2) (encP p))=[.int .i64 (p i).1,.int .i64 (p i).2]:=by
 rcases Yfl h with rfl|rfl|rfl|rfl|rfl|rfl|rfl|rfl|rfl|rfl|rfl|rfl <;> rfl
theorem YsA(T:Tm){i:Nat}(h:i<12):Yt 1 (Yl (3+idxN (i:Int) 2) (encT T))=[.int .i64 (T.p i).1]:=by
 rcases Yfl h with rfl|rfl|rfl|rfl|rfl|rfl|rfl|rfl|rfl|rfl|rfl|rfl <;> rfl
theorem YsB(T:Tm){i:Nat}(h:i<12):1<=lenL (Yl (3+idxN (i:Int) 2) (encT T)):=by
 rcases Yfl h with rfl|rfl|rfl|rfl|rfl|rfl|rfl|rfl|rfl|rfl|rfl|rfl <;> exact Nat.le_of_ble_eq_true rfl
theorem Yu(T:Tm)(m:Nat):bndL m (encT T):=by simp [encT,encP,bndL,bnd]
def badT(x:Int×Int):Bool:=decide (x.2<1) || decide (24<x.2) || decide (x.1< -2*x.2) || decide (2*x.2<x.1)
def gcdT(x:Int×Int):Nat:=YDw x.1.natAbs x.2.toNat
def lowT(T:Tm)(i:Nat):Bool:=(YDk i).all fun j=>decide (gcdT (T.p j)=1)
def allT(T:Tm):Nat->Nat
 |0=>1
 |i+1=>if allT T i<=120 then allT T i/YDw (allT T i) (T.p i).2.toNat*(T.p i).2.toNat else allT T i
def badA(T:Tm):Bool:=(YDk 12).any fun i=>badT (T.p i)
def Ybs(T:Tm):Int:=
 if T.wolf<0\/11<T.wolf then 2 else if badA T=true then 2
 else if Yer T.nm=false\/lowT T 12=false\/(T.p T.wolf.toNat).1≠0 then 6 else if 120<allT T 12 then 7 else 0
theorem Yml{x:Int×Int}(h:badT x=false):(1<=x.2/\x.2<=24)/\ -2*x.2<=x.1/\x.1<=2*x.2:=by
 simp only[badT,YDb,decide_eq_false_iff_not]at h;omega
theorem Yea{T:Tm}:∀{i:Nat},(∀j,j<i->badT (T.p j)=false)->1<=allT T i/\allT T i<=2880
 |0,_=>⟨YC2 _,by simp [allT]⟩
 |i+1,h=>by
   have ih:=Yea (i:=i) fun j hj=>h j (by omega)
   have hb:=Yml (h i (by omega))
   rw[allT]
   split
   . rename_i hle
     have hg:1<=YDw (allT T i) (T.p i).2.toNat:=Nat.gcd_pos_of_pos_left _ (by omega)
     have h1:allT T i/YDw (allT T i) (T.p i).2.toNat<=120:=YDp (Nat.div_le_self _ _) hle
     have h2:1<=allT T i/YDw (allT T i) (T.p i).2.toNat:=Nat.div_pos (Nat.gcd_le_left _ (by omega)) hg
     have h3:(T.p i).2.toNat<=24:=by omega
     have h4:1<=(T.p i).2.toNat:=by omega
     have:=Nat.mul_le_mul h1 h3
     have:=Nat.mul_le_mul h2 h4
     omega
   . exact ih
theorem YtJ(x:Int×Int):(decide (x.2<1) || decide (24<x.2) || decide (x.1<IntKind.i64.wrap (-2*x.2)) || decide (IntKind.i64.wrap (2*x.2)<x.1))=badT x:=by
 unfold badT
 by_cases h1:x.2<1
 . rw[decide_eq_true h1];simp
 . by_cases h2:24<x.2
   . rw[decide_eq_true h2];simp
   . rw[YCW (-2*x.2) (by omega),YCW (2*x.2) (by omega)]
theorem Yqh(T:Tm)(i:Nat):lowT T (i+1)=(lowT T i&&decide (gcdT (T.p i)=1)):=by
 unfold lowT;rw[List.range_succ,List.all_append];simp
theorem Yo1{T:Tm}{i:Nat}(hi:i<12)(h:badT (T.p i)=true):badA T=true:=List.any_eq_true.2 ⟨i,List.mem_range.2 hi,h⟩
theorem Yzd{T:Tm}(h:∀i,i<12->badT (T.p i)=false):badA T=false:=List.any_eq_false.2 fun i hi=>by rw[h i (List.mem_range.1 hi)];decide
def tgcdC:Ctr:={ alias:=false,of:=fun l=>match l with
 | [.int .i64 a,.int .i64 b]=> .ex Nat fun x=> .ex Nat fun y=> .pre (a=x/\b=y/\x<=9223372036854775807/\y<=9223372036854775807) (.fin (.int .i64 (YDw x y)) [])
 |_=>noC}
def TG0:Env:={ ct:=fun _=>none,fn:=fun _=>none,meth:=fun _ _=>none}
theorem Yyy:Yo YCX TG0:=by
 refine⟨fun f c h=>?_,fun f vf h=>?_,(fun _ _ _ h=>by cases h),by kernel_rfl,(fun _ h=>by cases h)⟩
 . cases h
 . cases h
theorem YBx:tgcdC.ok YCX 86:=by
 refine Yb Tryz.func86 YCx Yyy 100 tgcdC fun args k h=>?_
 simp only[tgcdC]at h
 split at h
 . rename_i a b
   obtain⟨x,y,⟨rfl,rfl,hx,hy⟩,h⟩:=h
   refine⟨[.int .i64 x,.int .i64 y],by simp [leL,le],?_⟩
   dsimp only[v86,go_sem,reduceIte,YCS]
   simp only[Yd,YCS,YCU,reduceCtorEq,YCT]
   refine Loop.keep [4] (Nat×Nat) (fun s=>[(0,.int .i64 s.1),(1,.int .i64 s.2)]) (fun _=>[]) [] (fun s=>YDw s.1 s.2=YDw x y/\s.1<=9223372036854775807/\s.2<=9223372036854775807) (fun s=>s.2) ?_ ?_
   . refine⟨(x,y),⟨rfl,hx,hy⟩,?_⟩
     dsimp only[go_sem,reduceIte,YCS]
     simp only[Ya]
   . rintro⟨p,q⟩ ⟨he,hp,hq⟩
     dsimp only at he hp hq
     dsimp only[go_sem,reduceIte,YCS]
     simp only[Yd,YCS,YCU,reduceCtorEq,YCT]
     refine⟨fun hc=>⟨hc,(q,p%q),⟨?_,by simp only;omega,?_⟩,?_,?_⟩,fun hc=>Yj ?_⟩
     . rw[<-he,Nat.gcd_comm p q]
       show YDw q (p%q)=YDw q p
       rw[Nat.gcd_comm q (p%q),<-Nat.gcd_rec]
     . have:=YDs p (by omega:0<q)
       simp only;omega
     . exact YDs p (by omega:0<q)
     . have e:(p:Int).tmod q=((p%q:Nat):Int):=IntWalk.up_tmod rfl rfl
       rw[e]
       simp only[Ya]
     . obtain rfl:q=0:=by omega
       rw[Nat.gcd_zero_right]at he
       rw[he];exact h
 . exact h.1.elim
def chkTmC:Ctr:={ alias:=false,of:=fun l=>match l with
 | [.agg cs]=> .ex Tm fun T=> .pre (cs=encT T/\T.nm.size<=9223372036854775807) (.fin (.int .i64 (Ybs T)) [])
 |_=>noC}
def TG1:Env:={ ct:=fun n=>match n with|86=>some tgcdC|87=>some nameC|_=>none,fn:=fun _=>none,meth:=fun _ _=>none}
theorem Yfz:TG1.ct 86=some tgcdC:=rfl
theorem YfA:TG1.ct 87=some nameC:=rfl
theorem Yyz:Yo YCX TG1:=by
 refine⟨fun f c h=>?_,fun f vf h=>?_,(fun _ _ _ h=>by cases h),by kernel_rfl,(fun _ h=>by cases h)⟩
 . simp only[TG1]at h
   split at h
   . cases h;exact⟨YBx,Tryz.f86,Tryz.func86,by kernel_rfl,by kernel_rfl⟩
   . cases h;exact⟨Yv4,Tryz.f87,Tryz.func87,by kernel_rfl,by kernel_rfl⟩
   . cases h
 . cases h
theorem Ypl:chkTmC.ok YCX 62:=by
 refine Yb Tryz.func62 YCb Yyz 300 chkTmC fun args k h=>?_
 simp only[chkTmC]at h
 split at h
 . rename_i cs
   obtain⟨T,⟨rfl,hnm⟩,h⟩:=h
   refine⟨[.agg (encT T)],⟨Yc _ (Yu T _),trivial⟩,?_⟩
   have h:k (.int .i64 (Ybs T)) []:=h
   dsimp only[v62,encT,encP,Yfz,YfA,tgcdC,nameC,go_sem,reduceIte,YCS]
   simp only[Yd,YCS,YCU,reduceCtorEq,YCT]
   refine⟨rfl,fun hb=>?_,fun hb=>?_⟩
   . rw[Ybs,if_pos (by simpa using hb)]at h;exact Yj h
   have hw:0<=T.wolf/\T.wolf<=11:=by simp only[YDb,decide_eq_false_iff_not]at hb;omega
   rw[Ybs,if_neg (by omega)]at h
   refine Loop.keep [1,0,13] Nat (fun i=>[(3,.bool (lowT T i)),(4,.int .i64 (allT T i:Nat)),(17,.int .i64 i)]) (fun _=>[]) [] (fun i=>i<=12/\∀j,j<i->badT (T.p j)=false) (fun i=>12-i) ?_ ?_
   . refine⟨0,⟨by omega,fun j hj=>by omega⟩,?_⟩
     dsimp only[go_sem,reduceIte,YCS]
     simp only[Ya]
     exact⟨by decide,rfl,rfl,rfl⟩
   . rintro i ⟨hi,hall⟩
     obtain⟨r1,r2⟩:=Yea hall
     dsimp only[Yfz,YfA,tgcdC,nameC,YCY,go_sem,reduceIte,YCS]
     simp only[Yd,YCS,YCU,reduceCtorEq,YCT]
     refine⟨fun hlt=>?_,fun hge=>?_⟩
     . have hi12:i<12:=by omega
       have e:=YiD T.p hi12
       simp only[encP]at e
       rw[e]
       dsimp only[Yfz,YfA,tgcdC,nameC,YCY,go_sem,reduceIte,YCS]
       simp only[Yd,YCS,YCU,reduceCtorEq,YCT]
       simp only[YtJ (T.p i)]
       refine⟨⟨by omega,by omega⟩,fun hb=>?_,fun hb=>?_⟩
       . rw[if_pos (Yo1 hi12 hb)]at h;exact Yj h
       . obtain⟨⟨x1,x2⟩,x3,x4⟩:=Yml hb
         have hsn:(T.p i).2=((T.p i).2.toNat:Int):=by omega
         have hall':∀j,j<i+1->badT (T.p j)=false:=fun j hj=>by
           rcases YC4 j i with h1|h1
           . exact hall j h1
           . obtain rfl:j=i:=by omega
             exact hb
         have hlow:(lowT T i&&decide ((((T.p i).1.natAbs).gcd (T.p i).2.toNat:Int)=1))=lowT T (i+1):=by
           rw[Yqh];congr 1
           exact decide_eq_decide.2 (by unfold gcdT;omega)
         refine⟨(T.p i).1.natAbs,(T.p i).2.toNat,fun _=>⟨YeT _ (by omega),hsn,by omega,by omega⟩,fun hle=>⟨allT T i,(T.p i).2.toNat,⟨rfl,hsn,by omega,by omega⟩,?_,i+1,⟨by omega,hall'⟩,by omega,?_⟩,fun hgt=>⟨i+1,⟨by omega,hall'⟩,by omega,?_⟩⟩
         . have:=Nat.gcd_pos_of_pos_left (T.p i).2.toNat (by omega:0<allT T i)
           omega
         . have r3:=Yea hall'
           have ha:allT T (i+1)=allT T i/YDw (allT T i) (T.p i).2.toNat*(T.p i).2.toNat:=by rw[allT,if_pos (by omega)]
           have e1:((allT T i:Nat):Int).tdiv ((YDw (allT T i) (T.p i).2.toNat:Nat):Int)=((allT T i/YDw (allT T i) (T.p i).2.toNat:Nat):Int):=IntWalk.up_tdiv rfl rfl
           have hd:=Nat.div_le_self (allT T i) (YDw (allT T i) (T.p i).2.toNat)
           have e2:IntKind.i64.wrap ((allT T i/YDw (allT T i) (T.p i).2.toNat:Nat):Int)=((allT T i/YDw (allT T i) (T.p i).2.toNat:Nat):Int):=by
             generalize allT T i/YDw (allT T i) (T.p i).2.toNat=q at hd
             exact YCW _ (by omega)
           have e3:((allT T i/YDw (allT T i) (T.p i).2.toNat:Nat):Int)*(T.p i).2=(allT T (i+1):Nat):=by rw[ha,Int.natCast_mul,<-hsn]
           rw[e1,e2,e3,YCW (allT T (i+1):Int) (by omega),YCW ((i:Int)+1) (by omega)]
           simp only[Ya]
           exact⟨by decide,hlow,by simp⟩
         . have ha:allT T (i+1)=allT T i:=by rw[allT,if_neg (by omega)]
           rw[ha,YCW ((i:Int)+1) (by omega)]
           simp only[Ya]
           exact⟨by decide,hlow,by simp⟩
     . obtain rfl:i=12:=by omega
       rw[if_neg (by rw[Yzd hall];decide)]at h
       obtain⟨w,hwe⟩:∃w:Nat,T.wolf=(w:Int):=⟨T.wolf.toNat,by omega⟩
       have hw12:w<12:=by omega
       have e:=YsA T hw12
       have el:=YsB T hw12
       simp only[encT,encP,hwe]at e el
       rw[hwe,YCY]at h
       simp only[Nat.add_zero,hwe]
       rw[e]
       dsimp only[Yfz,YfA,tgcdC,nameC,YCY,go_sem,reduceIte,YCS]
       simp only[Yd,YCS,YCU,reduceCtorEq,YCT]
       refine⟨hnm,fun _=>⟨by omega,by omega⟩,fun _=>el,fun hc=>?_,fun hc=>?_⟩
       . rw[if_pos (by simpa [or_assoc]using hc)]at h;exact Yj h
       . rw[if_neg (by simpa [or_assoc,and_assoc]using hc)]at h
         refine⟨fun ha=>?_,fun ha=>?_⟩
         . rw[if_pos (by omega)]at h;exact Yj h
         . rw[if_neg (by omega)]at h;exact Yj h
 . exact h.1.elim
end Go.Proofs.YtnfkhknfpaamoaaGreatDoor
