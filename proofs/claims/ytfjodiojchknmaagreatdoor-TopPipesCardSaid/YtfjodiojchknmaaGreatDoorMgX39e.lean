/- Signs of the program, walked: guess. -/
import Derived.Test.YtfjodiojchknmaaGreatDoorMgX39d
open And renaming intro->YHd
open Bool renaming and_eq_true->YG2,false_eq_true->YHm,or_eq_false_iff->YHq
open Int renaming eq_ofNat_of_zero_le->YHL,le_refl->YHS,mul_comm->YH9,mul_le_mul_of_nonneg_left->YHb,mul_le_mul_of_nonneg_right->YHj,mul_nonneg->YG7,natCast_mul->YHZ,toNat_natCast->YG0
open Go.IntWalk renaming i64_in->YGZ,u64_in->YHt
open List renaming foldl_cons->YH5,getD_eq_getElem?_getD->YG9,getElem?_append_left->YHP,getElem?_take->YHV,length_append->YHW,length_cons->YH1,length_take->YHQ,mem_append->YHz,mem_cons->YHx,mem_cons_of_mem->YHg,mem_cons_self->YHh,mem_singleton->YHF
open Nat renaming add_mul->YHr,div_add_mod->YHH,div_div_eq_div_mul->YHK,div_mul_le_self->YHU,eq_zero_or_pos->YHR,gcd->YH6,le_div_iff_mul_le->YHI,le_of_eq->YH2,le_of_mul_le_mul_right->YHp,le_refl->YG8,le_trans->YHc,lt_of_le_of_lt->YHG,lt_of_lt_of_le->YHM,lt_or_ge->YHE,mod_lt->YHT,mul_add->YH7,mul_assoc->YG6,mul_comm->YG4,mul_le_mul->YHi,mul_le_mul_left->YG5,mul_le_mul_right->YG3,mul_left_comm->YHw,mul_one->YH8,mul_pos->YHX,mul_pow->YHy,one_mul->YHN,pow_add->YHa,pow_le_pow_left->YHe,pow_le_pow_right->YHl,pow_mul->YHf,pow_pos->YHO,pow_succ->YHo,reduceAdd->YGU,reduceEqDiff->YGV,reduceLeDiff->YGW,zero_add->YH0
open Go.Proofs.Tryz renaming prog->YGY
set_option linter.all false
namespace Go.Proofs.YtfjodiojchknmaaGreatDoor
open Go Go.Vx
set_option maxRecDepth 100000
set_option maxHeartbeats 4000000
def v103:VF:=⟨72,[.tmp 2,.tmp 3],(ZR [Zi 2 0,u1 3 .mov [.cn (.bool false)]] (ZR [u1 4 (.allocArr 2 2 [(.int .u64 0),(.int .u64 0),(.int .u64 0),(.int .u64 0)]) [],u1 5 (.allocArr 2 2 [(.int .u64 0),(.int .u64 0),(.int .u64 0),(.int .u64 0)]) []] (.seq (ZR [Zm 10 0,Zl 11 10,Zi 12 0] (.block 0 (.loop (ZR [Zr 13 .lss 12 11] (.seq (ZC 13 .skip (.exit 0)) (.seq (.block 1 (ZR [Zx 14 2 10 12,Zt 15 2 14,Zn 7,Zs 2 7 15] (ZR [Za 17 0 7,Zf 18 1 17,Zc 19 116 18,Zm 16 19,Ze 20 0 16,Ze 21 1 16,Zm 8 20,Zm 9 21] (ZR [Za 22 1 7,Zf 23 1 22,Zq 24 .geq 23 0] (ZC 24 (.draw [] [w1 25 (.idxArr 2 2) [.tm 4,.cn (.int .i64 0)],Zw 26 2 25,Zu 27 8,Zy 28 1 7,Zv 29 1 28,w1 30 (.conv .u64) [.tm 29],w1 32 (.idxArr 2 2) [.tm 4,.cn (.int .i64 1)],Zw 33 2 32,Zu 34 9,Zy 35 1 7,Zv 36 1 35,w1 37 (.conv .u64) [.tm 36],w1 31 (.call 117) [.tm 26,.tm 27,.tm 30],w1 39 (.idxArr 2 2) [.tm 4,.cn (.int .i64 0)],w1 38 (.call 117) [.tm 33,.tm 34,.tm 37],ZS 2 39 31,w1 40 (.idxArr 2 2) [.tm 4,.cn (.int .i64 1)],ZS 2 40 38]) (.draw [] [w1 41 (.idxArr 2 2) [.tm 5,.cn (.int .i64 0)],Zw 42 2 41,Zu 43 8,Zy 44 1 7,Zv 45 1 44,w1 46 .neg [.tm 45],w1 47 (.conv .u64) [.tm 46],w1 49 (.idxArr 2 2) [.tm 5,.cn (.int .i64 1)],Zw 50 2 49,Zu 51 9,Zy 52 1 7,Zv 53 1 52,w1 54 .neg [.tm 53],w1 55 (.conv .u64) [.tm 54],w1 48 (.call 117) [.tm 42,.tm 43,.tm 47],w1 57 (.idxArr 2 2) [.tm 5,.cn (.int .i64 0)],w1 56 (.call 117) [.tm 50,.tm 51,.tm 55],ZS 2 57 48,w1 58 (.idxArr 2 2) [.tm 5,.cn (.int .i64 1)],ZS 2 58 56])))))) (.region [Zp 59 12 1,Zm 12 59]))))))) (.seq (.block 2 (ZR [u1 61 (.idxArr 2 2) [.tm 4,.cn (.int .i64 0)],Zt 62 2 61,u1 63 (.idxArr 2 2) [.tm 5,.cn (.int .i64 1)],Zt 64 2 63,Zd 65 118 62 64,Zm 60 65] (ZC 60 (ZR [Zi 2 1,u1 3 .mov [.cn (.bool true)]] .ret) (ZR [u1 67 (.idxArr 2 2) [.tm 5,.cn (.int .i64 0)],Zt 68 2 67,u1 69 (.idxArr 2 2) [.tm 4,.cn (.int .i64 1)],Zt 70 2 69,Zd 71 118 68 70,Zm 66 71] (ZC 66 (ZR [Zi 2 (-1),u1 3 .mov [.cn (.bool true)]] .ret) .skip))))) (ZR [Zi 2 0,u1 3 .mov [.cn (.bool false)]] .ret)))))⟩
theorem YAK:Yf YGY Tryz.f103=some v103:=by kernel_rfl
structure Gss where
 u0:Int×Int
 u1:Int×Int
 d0:Int×Int
 d1:Int×Int
def Gss.ok(s:Gss):Prop:=okL s.u0/\okL s.u1/\okL s.d0/\okL s.d1
def gssS(s:Gss)(x:Int×Int):Gss:=
 if 0<=x.2 then { s with u0:=YeN s.u0 (Ybt x.1).1 x.2,u1:=YeN s.u1 (Ybt x.1).2 x.2}
 else { s with d0:=YeN s.d0 (Ybt x.1).1 (-x.2),d1:=YeN s.d1 (Ybt x.1).2 (-x.2)}
def gss0:Gss:=⟨(0,0),(0,0),(0,0),(0,0)⟩
def YhC(l:List (Int×Int)):Int×Bool:=
 let s:=l.foldl gssS gss0
 if Yil s.u0 s.d1=true then(1,true)else if Yil s.d0 s.u1=true then(-1,true)else(0,false)
theorem YgW(a:Int×Int)(x y:Int)(h:okL a):okL (YeN a x y):=by
 unfold YeN
 exact⟨Yas _,Int.emod_nonneg _ (by decide),by show _%_<=_;omega⟩
theorem Yr4(s:Gss)(x:Int×Int)(h:s.ok):(gssS s x).ok:=by
 obtain⟨h1,h2,h3,h4⟩:=h
 unfold gssS
 split
 . exact⟨YgW _ _ _ h1,YgW _ _ _ h2,h3,h4⟩
 . exact⟨h1,h2,YgW _ _ _ h3,YgW _ _ _ h4⟩
theorem YcG:∀(f:Nat)(S a b:Int),(0<=S/\S<=18446744073709551615)->(0<=(YaU f S a b).1/\(YaU f S a b).1<=18446744073709551615)/\0<=(YaU f S a b).2/\(YaU f S a b).2<=18446744073709551615
 |0,S,a,b,h=>⟨h,Yas _⟩
 |f+1,S,a,b,h=>by
   rw[YaU]
   split
   . split
     . split
       . exact⟨Yas _,Yas _⟩
       . exact YcG f _ _ _ (YeV _ _)
     . split
       . exact⟨Yas _,Yas _⟩
       . exact YcG f _ _ _ (YeV _ _)
   . split
     . split
       . exact⟨Yas _,Yas _⟩
       . exact YcG f _ _ _ (YeV _ _)
     . split
       . exact⟨Yas _,Yas _⟩
       . exact YcG f _ _ _ (YeV _ _)
theorem YpG(n:Int)(hn:n<=4611686018427387904):(0<=(Ybt n).1/\(Ybt n).1<=18446744073709551615)/\0<=(Ybt n).2/\(Ybt n).2<=18446744073709551615:=by
 unfold Ybt
 split
 . exact⟨Yas _,Yas _⟩
 . have hb1:Yq n.toNat<=63:=bitsN_le.2 (by have:(2:Nat)^63=9223372036854775808:=rfl;omega)
   exact YcG _ _ _ _ ⟨by omega,by omega⟩
def guessC:Ctr:={ alias:=false,of:=fun l=>match l with
 | [.vs _ _ n sz get]=> .ex (List (Int×Int)) fun l=> .pre (lsP 2 enc2 n sz get l/\(∀x,x∈l->okT x)/\n<=100) (.fin (.tup [.int .i64 (YhC l).1,.bool (YhC l).2]) [])
 |_=>noC}
def RA7:Env:={ ct:=fun n=>match n with|116=>some quickC|117=>some lpC|118=>some loC|_=>none,fn:=fun _=>none,meth:=fun _ _=>none}
theorem Yqi:RA7.ct 116=some quickC:=rfl
theorem Yqj:RA7.ct 117=some lpC:=rfl
theorem Yqk:RA7.ct 118=some loC:=rfl
theorem YBX:Yl YGY RA7:=by
 refine⟨fun f c h=>?_,fun f vf h=>?_,(fun _ _ _ h=>by cases h),by kernel_rfl,(fun _ h=>by cases h)⟩
 . simp only[RA7]at h
   split at h
   . cases h;exact⟨Yz1,Tryz.f116,Tryz.func116,by kernel_rfl,by kernel_rfl⟩
   . cases h;exact⟨lp_c,Tryz.f117,Tryz.func117,by kernel_rfl,by kernel_rfl⟩
   . cases h;exact⟨lo_c,Tryz.f118,Tryz.func118,by kernel_rfl,by kernel_rfl⟩
   . cases h
 . cases h
theorem YmL{k:SV->List HO->Prop}{al:Bool}{hp:List HO}{κ:IntKind}{x:Int}{b:Bool}(h:k (.tup [.int κ x,.bool b]) []):Yy al k (.tup [.int κ x,.bool b]) hp:=
 YD (show k _ []from h) (Yw (.tup [.int κ x,.bool b]) ⟨trivial,trivial,trivial⟩) (fun _=>by simp [Yj,Yk])
theorem Yy4:guessC.ok YGY 103:=by
 refine Yb Tryz.func103 YAK YBX 500 guessC fun args k h=>?_
 simp only[guessC]at h
 split at h
 . rename_i tt z n sz get
   obtain⟨l,⟨⟨rfl,rfl,hg⟩,hl,hn⟩,h⟩:=h
   refine⟨[.vs tt z l.length 2 (fun k=>enc2 (l.getD k default))],⟨⟨id,rfl,rfl,rfl,hg⟩,trivial⟩,?_⟩
   dsimp only[v103,enc2,go_sem,reduceIte,YGU]
   simp only[Yc,YGU,YGW,reduceCtorEq,YGV]
   refine Loop.keep [0,3,0,4,0] (Nat×Gss) (fun s=>[(12,.int .i64 s.1)]) (fun s=>[(0,.own false 2 2 (YaW 2 [.int .u64 s.2.u0.1,.int .u64 s.2.u0.2,.int .u64 s.2.u1.1,.int .u64 s.2.u1.2])),(1,.own false 2 2 (YaW 2 [.int .u64 s.2.d0.1,.int .u64 s.2.d0.2,.int .u64 s.2.d1.1,.int .u64 s.2.d1.2]))]) [] (fun s=>s.1<=l.length/\s.2=(l.take s.1).foldl gssS gss0/\s.2.ok) (fun s=>l.length-s.1) ?_ ?_
   . refine⟨(0,gss0),⟨by simp only;omega,rfl,by simp [Gss.ok,gss0,okL]⟩,?_⟩
     dsimp only[gss0,go_sem,reduceIte,YGU]
     simp only[Ya]
     exact⟨by decide,by decide,rfl⟩
   . rintro⟨i,G⟩ ⟨hi,hG,hok⟩
     dsimp only at hi hG hok
     dsimp only[Yqi,Yqj,Yqk,quickC,lpC,loC,enc2,YG0,Int.reduceToNat,Nat.reduceMul,Int.toNat_zero,Int.toNat_one,go_sem,reduceIte,YGU]
     simp only[Yc,YGU,YGW,reduceCtorEq,YGV]
     refine⟨fun hlt=>?_,fun hge=>?_⟩
     . have hx:=hl _ (YI (by omega:i<l.length))
       generalize hxe:l.getD i default=x at hx⊢
       obtain⟨q0,q1,q2,q3⟩:=hx
       have hstep:(l.take (i+1)).foldl gssS gss0=gssS G x:=by
         rw[YE (by omega),<-hG,hxe]
       obtain⟨g1,g2⟩:=YpG x.1 (by omega)
       have hok':=Yr4 G x hok
       obtain⟨o1,o2,o3,o4⟩:=hok
       refine⟨⟨by omega,by omega⟩,⟨by omega,by omega⟩,by decide,by decide,fun hc=>?_,fun hc=>?_⟩
       . have ew:IntKind.u64.wrap x.2=x.2:=YHt _ (by omega)
         rw[ew]
         refine⟨by decide,by decide,by decide,by decide,⟨o1,g1,by omega,by omega⟩,by decide,⟨o2,g2,by omega,by omega⟩,by decide,by decide,by decide,(i+1,gssS G x),⟨by simp only;omega,hstep.symm,hok'⟩,by simp only;omega,?_⟩
         rw[YGZ ((i:Int)+1) (by omega)]
         simp only[gssS,if_pos hc]
         simp only[Ya]
         refine⟨⟨by decide,by decide,by simp⟩,fun j hj=>?_⟩
         match j,hj with
         |0,_=>exact⟨⟨rfl,rfl⟩,⟨rfl,rfl⟩,trivial⟩
         |1,_=>exact⟨⟨rfl,rfl⟩,⟨rfl,rfl⟩,trivial⟩
       . have en:IntKind.i64.wrap (0-x.2)= -x.2:=by rw[YGZ _ (by omega)];omega
         rw[en]
         have ew:IntKind.u64.wrap (-x.2)= -x.2:=YHt _ (by omega)
         rw[ew]
         refine⟨by decide,by decide,by decide,by decide,⟨o3,g1,by omega,by omega⟩,by decide,⟨o4,g2,by omega,by omega⟩,by decide,by decide,by decide,(i+1,gssS G x),⟨by simp only;omega,hstep.symm,hok'⟩,by simp only;omega,?_⟩
         rw[YGZ ((i:Int)+1) (by omega)]
         simp only[gssS,if_neg hc]
         simp only[Ya]
         refine⟨⟨by decide,by decide,by simp⟩,fun j hj=>?_⟩
         match j,hj with
         |0,_=>exact⟨⟨rfl,rfl⟩,⟨rfl,rfl⟩,trivial⟩
         |1,_=>exact⟨⟨rfl,rfl⟩,⟨rfl,rfl⟩,trivial⟩
     . obtain rfl:i=l.length:=by omega
       rw[List.take_length]at hG
       rw[YhC,<-hG]at h
       refine⟨by decide,by decide,by decide,by decide,fun hc=>?_,fun hc=>⟨by decide,by decide,by decide,by decide,fun hd=>?_,fun hd=>?_⟩⟩
       . rw[show Yil G.u0 G.d1=true from hc]at h
         exact YmL h
       . rw[show Yil G.u0 G.d1=false from hc,show Yil G.d0 G.u1=true from hd]at h
         exact YmL h
       . rw[show Yil G.u0 G.d1=false from hc,show Yil G.d0 G.u1=false from hd]at h
         exact YmL h
 . exact h.1.elim
def encB(x:Nat):List SV:=[.int .i64 x]
def hitF(out:List Nat)(n:Nat):Nat:=Ycj (fun i=>decide (1<YH6 (out.getD i 0) n)) out.length 0
def Yda:Nat->List Nat->List Nat->List Nat
 |0,_,out=>out
 |f+1,wait,out=>
   if wait.length=0 then out
   else if wait.getD (wait.length-1) 0=1 then Yda f (wait.take (wait.length-1)) out
   else if hitF out (wait.getD (wait.length-1) 0)<out.length then
     Yda f (wait.take (wait.length-1)++[YH6 (out.getD (hitF out (wait.getD (wait.length-1) 0)) 0) (wait.getD (wait.length-1) 0),out.getD (hitF out (wait.getD (wait.length-1) 0)) 0/YH6 (out.getD (hitF out (wait.getD (wait.length-1) 0)) 0) (wait.getD (wait.length-1) 0),wait.getD (wait.length-1) 0/YH6 (out.getD (hitF out (wait.getD (wait.length-1) 0)) 0) (wait.getD (wait.length-1) 0)])
       (out.take (hitF out (wait.getD (wait.length-1) 0))++out.drop (hitF out (wait.getD (wait.length-1) 0)+1))
   else Yda f (wait.take (wait.length-1)) (out++[wait.getD (wait.length-1) 0])
def YbE(out:List Nat)(x:Int×Int):List Nat:=Yda 3000 [x.1.toNat] out
def YjG(l:List (Int×Int)):List Nat:=l.foldl YbE []
def YA:List Nat->Nat
 | []=>1
 |x::l=>x*YA l
theorem YaD:∀(a b:List Nat),YA (a++b)=YA a*YA b
 | [],b=>by simp [YA]
 |x::a,b=>by rw[List.cons_append,YA,YA,YaD a b,YG6]
theorem YhU:∀{l:List Nat},(∀x,x∈l->1<=x)->1<=YA l
 | [],_=>by decide
 |x::l,h=>by
   have h1:=YhU (l:=l) fun y hy=>h y (YHg _ hy)
   have h2:=h x (YHh ..)
   rw[YA]
   exact YHX h2 h1
theorem YeG{w:List Nat}(h:w.length≠0):w=w.take (w.length-1)++[w.getD (w.length-1) 0]:=by
 have:=Yei (l:=w) (i:=w.length-1) (by omega)
 rw[show w.length-1+1=w.length by omega,List.take_length]at this
 exact this
theorem Ypa{w:List Nat}{i:Nat}(h:i<w.length):w=w.take i++w.getD i 0::w.drop (i+1):=by
 have h1:=List.take_append_drop i w
 have h2:w.drop i=w.getD i 0::w.drop (i+1):=by
   rw[List.drop_eq_getElem_cons h,YG9,List.getElem?_eq_getElem h];rfl
 rw[h2]at h1
 exact h1.symm
structure DrOk (B f:Nat) (wait out:List Nat):Prop where
 wp:∀x,x∈wait->1<=x/\x<=1099511627776
 op:∀x,x∈out->2<=x/\x<=1099511627776
 pb:Yq (YA out*YA wait)<=B
 mu:3*Yq (YA out*YA wait)+wait.length<=f
theorem DrOk.pop{B f:Nat}{wait out:List Nat}(h:DrOk B f wait out)(hw:wait.length≠0)(h1:wait.getD (wait.length-1) 0=1):∃g,f=g+1/\DrOk B g (wait.take (wait.length-1)) out:=by
 have hm:=h.mu
 have hpb:=h.pb
 refine⟨f-1,by omega,?_⟩
 have e:=YeG hw
 have e2:YA wait=YA (wait.take (wait.length-1)):=by
   conv=>lhs;rw[e]
   rw[YaD,h1];simp [YA]
 refine⟨fun x hx=>h.wp x (List.mem_of_mem_take hx),h.op,by rw[<-e2];exact hpb,?_⟩
 rw[<-e2,YHQ]
 omega
theorem DrOk.push{B f:Nat}{wait out:List Nat}(h:DrOk B f wait out)(hw:wait.length≠0)(h1:wait.getD (wait.length-1) 0≠1):∃g,f=g+1/\DrOk B g (wait.take (wait.length-1)) (out++[wait.getD (wait.length-1) 0]):=by
 have hm:=h.mu
 have hn:=h.wp _ (YI (l:=wait) (i:=wait.length-1) (by omega))
 have hn':1<=wait.getD (wait.length-1) 0/\wait.getD (wait.length-1) 0<=1099511627776:=hn
 have hpb:=h.pb
 have e:=YeG hw
 have e2:YA out*YA wait=YA (out++[wait.getD (wait.length-1) 0])*YA (wait.take (wait.length-1)):=by
   conv=>lhs;rw[e]
   rw[YaD,YaD]
   simp only[YA,YH8]
   rw[YG4 (YA (wait.take _)),YG6]
 refine⟨f-1,by omega,⟨fun x hx=>h.wp x (List.mem_of_mem_take hx),fun x hx=>?_,by rw[<-e2];exact hpb,?_⟩⟩
 . rcases YHz.1 hx with hx|hx
   . exact h.op x hx
   . rw[YHF]at hx
     subst hx
     omega
 rw[<-e2,YHQ]
 omega
theorem Ypm{a b:Nat}(h:a<=b):Yq a<=Yq b:=bitsN_le.2 (YHG h (Yfm b))
theorem DrOk.hit{B f:Nat}{wait out:List Nat}(h:DrOk B f wait out)(hw:wait.length≠0){i:Nat}(hi:i<out.length)(hg:1<YH6 (out.getD i 0) (wait.getD (wait.length-1) 0)):
   ∃g,f=g+1/\DrOk B g (wait.take (wait.length-1)++[YH6 (out.getD i 0) (wait.getD (wait.length-1) 0),out.getD i 0/YH6 (out.getD i 0) (wait.getD (wait.length-1) 0),wait.getD (wait.length-1) 0/YH6 (out.getD i 0) (wait.getD (wait.length-1) 0)]) (out.take i++out.drop (i+1)):=by
 have hm:=h.mu
 have hn:1<=wait.getD (wait.length-1) 0/\wait.getD (wait.length-1) 0<=1099511627776:=h.wp _ (YI (l:=wait) (i:=wait.length-1) (by omega))
 have hb:2<=out.getD i 0/\out.getD i 0<=1099511627776:=h.op _ (YI (l:=out) (i:=i) hi)
 have e:=YeG hw
 have e':=Ypa hi
 generalize wait.getD (wait.length-1) 0=n at*
 generalize out.getD i 0=b at*
 have d1:=Nat.gcd_dvd_left b n
 have d2:=Nat.gcd_dvd_right b n
 generalize YH6 b n=g at*
 obtain⟨b1,rfl⟩:=d1
 obtain⟨n1,rfl⟩:=d2
 rw[Nat.mul_div_cancel_left _ (by omega),Nat.mul_div_cancel_left _ (by omega)]
 have hb1:1<=b1:=Nat.pos_of_ne_zero fun hh=>by rw[hh,Nat.mul_zero]at hb;omega
 have hn1:1<=n1:=Nat.pos_of_ne_zero fun hh=>by rw[hh,Nat.mul_zero]at hn;omega
 have gb:g<=g*b1:=Nat.le_mul_of_pos_right _ hb1
 have bb:b1<=g*b1:=Nat.le_mul_of_pos_left _ (by omega)
 have nb:n1<=g*n1:=Nat.le_mul_of_pos_left _ (by omega)
 have hpt:1<=YA (out.take i++out.drop (i+1))*YA (wait.take (wait.length-1)):=by
   refine YHX (YhU fun x hx=>?_) (YhU fun x hx=>(h.wp x (List.mem_of_mem_take hx)).1)
   rcases YHz.1 hx with hx|hx
   . have:=(h.op x (List.mem_of_mem_take hx)).1;omega
   . have:=(h.op x (List.mem_of_mem_drop hx)).1;omega
 have eP:YA out*YA wait=g*(YA (out.take i++out.drop (i+1))*YA (wait.take (wait.length-1)++[g,b1,n1])):=by
   conv=>lhs;rw[e,e']
   simp only[YaD,YA,YH8]
   generalize YA (out.take i)=A
   generalize YA (out.drop (i+1))=B
   generalize YA (wait.take (wait.length-1))=C
   simp only[YG6,YHw,YG4]
 have hp1:1<=YA (out.take i++out.drop (i+1))*YA (wait.take (wait.length-1)++[g,b1,n1]):=by
   rw[YaD (wait.take _),<-YG6]
   refine YHX hpt ?_
   simp only[YA,YH8]
   exact YHX (by omega) (YHX hb1 hn1)
 have hP:Yq (YA (out.take i++out.drop (i+1))*YA (wait.take (wait.length-1)++[g,b1,n1]))+1<=Yq (YA out*YA wait):=by
   generalize hQ:YA (out.take i++out.drop (i+1))*YA (wait.take (wait.length-1)++[g,b1,n1])=Q at*
   rw[eP]
   have h2:2*Q<=g*Q:=YG3 _ (by omega)
   have h3:=YiC (a:=g*Q) (by omega)
   have h4:Yq Q<=Yq (g*Q/2):=Ypm (by omega)
   omega
 have hpb:=h.pb
 refine⟨f-1,by omega,⟨fun x hx=>?_,fun x hx=>?_,by omega,?_⟩⟩
 . rcases YHz.1 hx with hx|hx
   . exact h.wp x (List.mem_of_mem_take hx)
   . simp only[YHx,List.not_mem_nil,or_false]at hx
     rcases hx with rfl|rfl|rfl <;> omega
 . rcases YHz.1 hx with hx|hx
   . exact h.op x (List.mem_of_mem_take hx)
   . exact h.op x (List.mem_of_mem_drop hx)
 . rw[YHW,YHQ]
   simp only[YH1,List.length_nil]
   omega
theorem Yre(a b:Nat):Yq (a*b)<=Yq a+Yq b:=by
 rw[bitsN_le,YHa]
 exact Nat.mul_lt_mul_of_lt_of_le (Yfm a) (Nat.le_of_lt (Yfm b)) (YH _)
theorem DrOk.start{i N:Nat}{out:List Nat}(hN0:1<=N)(hN1:N<=1000000000001)(ho:∀x,x∈out->2<=x/\x<=1099511627776)(hb:Yq (YA out)<=40*i+1)(hi:i<20):DrOk (40*(i+1)+1) 3000 [N] out:=by
 have h1:Yq N<=40:=bitsN_le.2 (by omega)
 have h2:Yq (YA out*YA [N])<=40*(i+1)+1:=by
   have:=Yre (YA out) (YA [N])
   have e:YA [N]=N:=by simp [YA]
   rw[e]at this⊢
   omega
 refine⟨fun x hx=>?_,ho,h2,?_⟩
 . rw[YHF]at hx
   subst hx
   omega
 . simp only[YH1,List.length_nil]
   omega
def v106:VF:=⟨73,[.tmp 2],(ZR [u1 2 .mov [.cn .nil]] (ZR [u1 3 .mov [.cn .nil]] (.seq (ZR [Zm 11 0,Zl 12 11,Zi 13 0] (.block 0 (.loop (ZR [Zr 14 .lss 13 12] (.seq (ZC 14 .skip (.exit 0)) (.seq (.block 1 (ZR [Zx 15 2 11 13,Zt 16 2 15,Zn 5,Zs 2 5 16] (.scope (ZR [Za 17 0 5,Zf 18 1 17,u1 19 (.buildSlice 1 1 [(.int .i64 0)] [(0,1)]) [.tm 18],Zm 6 19] (.seq .skip (.block 2 (.loop (.seq (ZR [Zm 20 6,Zl 21 20,Zq 22 .gtr 21 0] (ZC 22 .skip (.exit 2))) (.block 3 (ZR [Zm 23 6,Zm 24 6,Zl 25 24,u1 26 (.ari .sub) [.tm 25,.cn (.int .i64 1)],Zx 27 1 23 26,Zf 28 1 27,Zm 7 28] (ZR [Zm 29 6,Zm 30 6,Zl 31 30,u1 32 (.ari .sub) [.tm 31,.cn (.int .i64 1)],u1 33 (.slice 1 false true) [.tm 29,.tm 32],Zm 6 33] (.seq (ZR [Zm 34 7,Zq 35 .eql 34 1] (ZC 35 (.exit 3) .skip)) (.seq (ZR [Zm 36 3,Zl 37 36,Zi 38 0] (.block 4 (.loop (ZR [Zr 39 .lss 38 37] (.seq (ZC 39 .skip (.exit 4)) (.seq (.block 5 (ZR [Zm 40 38,Zx 41 1 36 38,Zf 42 1 41,Zm 8 40,Zm 9 42] (ZR [Zm 43 9,Zm 44 7,Zd 45 114 43 44,Zm 10 45] (ZR [Zm 46 10,Zq 47 .gtr 46 1] (ZC 47 (.seq (.draw [] [Zu 48 3,Zu 49 8,w1 50 (.slice 1 false true) [.tm 48,.tm 49],Zu 51 3,Zu 52 8,w1 53 (.ari .add) [.tm 52,.cn (.int .i64 1)],w1 54 (.slice 1 true false) [.tm 51,.tm 53],w1 55 (.append 1 8 [(.int .i64 0)]) [.tm 50,.tm 54],Zu 3 55]) (.seq (.draw [] [Zu 56 6,Zu 57 10,Zu 58 9,Zu 59 10,w1 60 .quo [.tm 58,.tm 59],Zu 61 7,Zu 62 10,w1 63 .quo [.tm 61,.tm 62],w1 64 (.buildSlice 1 3 [(.int .i64 0)] [(0,1),(1,1),(2,1)]) [.tm 57,.tm 60,.tm 63],w1 65 (.append 1 8 [(.int .i64 0)]) [.tm 56,.tm 64],Zu 6 65]) (.exit 3))) .skip))))) (.region [Zp 66 38 1,Zm 38 66]))))))) (.region [Zm 67 3,Zm 68 7,u1 69 (.buildSlice 1 1 [(.int .i64 0)] [(0,1)]) [.tm 68],u1 70 (.append 1 8 [(.int .i64 0)]) [.tm 67,.tm 69],Zm 3 70])))))))))))))) (.region [Zp 71 13 1,Zm 13 71]))))))) (ZR [Zm 72 3,Zm 2 72] .ret))))⟩
theorem YAN:Yf YGY Tryz.f106=some v106:=by kernel_rfl
def baseC:Ctr:={ alias:=false,of:=fun l=>match l with
 | [.vs _ _ n sz get]=> .ex (List (Int×Int)) fun l=> .pre (lsP 2 enc2 n sz get l/\(∀x,x∈l->okT x)/\n<=20) (.all Bool fun y=> .fin (.vs true y (YjG l).length 1 (fun k=>encB ((YjG l).getD k 0))) [])
 |_=>noC}
def RA8:Env:={ ct:=fun n=>match n with|114=>some gcdC|_=>none,fn:=fun _=>none,meth:=fun _ _=>none}
theorem YkZ:RA8.ct 114=some gcdC:=rfl
theorem YBY:Yl YGY RA8:=by
 refine⟨fun f c h=>?_,fun f vf h=>?_,(fun _ _ _ h=>by cases h),by kernel_rfl,(fun _ h=>by cases h)⟩
 . simp only[RA8]at h
   split at h
   . cases h;exact⟨Yy1,Tryz.f114,Tryz.func114,by kernel_rfl,by kernel_rfl⟩
   . cases h
 . cases h
structure DSt where
 f:Nat
 W:List Nat
 n:Nat
 out:List Nat
 yw:Bool
 yo:Bool
theorem YrJ{f:Nat}:∀{wait out:List Nat},(Yda f wait out).length<=out.length+f:=by
 induction f with
 |zero=>intro wait out;rw[Yda];omega
 |succ f ih=>
   intro wait out
   rw[Yda]
   split
   . omega
   . split
     . have:= @ih (wait.take (wait.length-1)) out;omega
     . split
       . rename_i hh
         refine YHc ih ?_
         rw[YHW,YHQ,List.length_drop]
         omega
       . refine YHc ih ?_
         rw[YHW]
         simp only[YH1,List.length_nil]
         omega
theorem YCW:baseC.ok YGY 106:=by
 refine Yb Tryz.func106 YAN YBY 800 baseC fun args k h=>?_
 simp only[baseC]at h
 split at h
 . rename_i tt z n sz get
   obtain⟨l,⟨⟨rfl,rfl,hg⟩,hl,hn⟩,h⟩:=h
   refine⟨[.vs tt z l.length 2 (fun k=>enc2 (l.getD k default))],⟨⟨id,rfl,rfl,rfl,hg⟩,trivial⟩,?_⟩
   dsimp only[v106,enc2,go_sem,reduceIte,YGU]
   simp only[Yc,YGU,YGW,reduceCtorEq,YGV]
   refine Loop.keep [0,10,0] (Nat×List Nat×Bool) (fun s=>[(3,.own 0 0 s.2.1.length 1),(13,.int .i64 s.1)]) (fun s=>[(0,.own s.2.2 1 s.2.1.length (fun k=>encB (s.2.1.getD k 0)))]) [.gone] (fun s=>s.1<=l.length/\s.2.1=(l.take s.1).foldl YbE []/\(∀x,x∈s.2.1->2<=x/\x<=1099511627776)/\Yq (YA s.2.1)<=40*s.1+1/\s.2.1.length<=3000*s.1/\(s.2.2=true->s.2.1.length=0)) (fun s=>l.length-s.1) ?_ ?_
   . refine⟨(0,[],true),⟨by simp only;omega,rfl,⟨fun x hx=>absurd hx (by simp),by decide,YG8 _,fun _=>rfl⟩⟩,?_⟩
     dsimp only[List.length_nil,go_sem,reduceIte,YGU]
     simp only[Ya]
     simp
   . rintro⟨i,out,yo⟩ ⟨hi,hG,hok,hbp,hlen,hyo⟩
     dsimp only at hi hG hok hbp hlen hyo
     dsimp only[enc2,YG0,go_sem,reduceIte,YGU]
     simp only[Yc,YGU,YGW,reduceCtorEq,YGV]
     refine⟨fun hlt=>?_,fun hge=>?_⟩
     . have hx:=hl _ (YI (by omega:i<l.length))
       have hstep:(l.take (i+1)).foldl YbE []=YbE out (l.getD i default):=by
         rw[YE (by omega),<-hG]
       generalize l.getD i default=x at hx hstep⊢
       obtain⟨q0,q1,q2,q3⟩:=hx
       obtain⟨N,hN⟩:∃N:Nat,x.1=(N:Int):=⟨x.1.toNat,by omega⟩
       have hR:YbE out x=Yda 3000 [N] out:=by rw[YbE,hN,YG0]
       obtain⟨R,hRR⟩:∃R,R=YbE out x:=⟨_,rfl⟩
       rw[<-hRR]at hR hstep
       rw[hN]
       have hmu:DrOk (40*(i+1)+1) 3000 [N] out:=DrOk.start (by omega) (by omega) hok hbp (by omega)
       refine⟨⟨by omega,by omega⟩,by decide,?_⟩
       refine Loop.keep [0,10,0,0] DSt (fun s=>[(3,.own 0 0 s.out.length 1),(6,.own 2 0 s.n 1)]) (fun s=>[(0,.own s.yo 1 s.out.length (fun k=>encB (s.out.getD k 0))),(2,.own s.yw 1 s.W.length (fun k=>encB (s.W.getD k 0)))]) [] (fun s=>s.n<=s.W.length/\DrOk (40*(i+1)+1) s.f (s.W.take s.n) s.out/\R=Yda s.f (s.W.take s.n) s.out/\s.out.length+s.f<=3000*(i+1)/\(s.yo=true->s.out.length=0)) (fun s=>s.f) ?_ ?_
       . refine⟨⟨3000,[N],1,out,false,yo⟩,⟨YG8 _,hmu,hR,by simp only;omega,hyo⟩,?_⟩
         dsimp only[List.length_nil,YH1,go_sem,reduceIte,YGU]
         simp only[Ya]
         refine⟨by decide,fun k hk=>⟨⟨rfl,rfl⟩,trivial⟩,fun k hk=>?_⟩
         obtain rfl:k=0:=by omega
         exact⟨⟨rfl,rfl⟩,trivial⟩
       . rintro⟨f,W,n,out,yw,yo⟩ ⟨hnW,hmu,hR,hlen,hyo⟩
         dsimp only at hnW hmu hR hlen hyo
         dsimp only[YkZ,gcdC,encB,YG0,go_sem,reduceIte,YGU]
         simp only[Yc,YGU,YGW,reduceCtorEq,YGV]
         have hwl:(W.take n).length=n:=by rw[YHQ];omega
         refine⟨fun hpos=>?_,fun hz=>?_⟩
         . have hwn:(W.take n).length≠0:=by omega
           have hgl:(W.take n).getD ((W.take n).length-1) 0=W.getD (n-1) 0:=by
             rw[hwl,YG9,YG9,YHV,if_pos (by omega)]
           have htl:(W.take n).take ((W.take n).length-1)=W.take (n-1):=by
             rw[hwl,List.take_take];congr 1;omega
           obtain⟨g,rfl⟩:∃g,f=g+1:=⟨f-1,by have:=hmu.mu;omega⟩
           have hnf:n<=70000:=by have:=hmu.mu;omega
           rw[Y0 (by omega) (by omega),YG0]
           rw[Yda,if_neg hwn,hgl,htl]at hR
           obtain⟨v,hv⟩:∃v,v=W.getD (n-1) 0:=⟨_,rfl⟩
           have hvr:1<=v/\v<=1099511627776:=by
             have:=hmu.wp _ (YI (l:=W.take n) (i:=(W.take n).length-1) (by omega))
             rw[show(W.take n).getD ((W.take n).length-1) default=W.getD (n-1) 0 from hgl,<-hv]at this
             exact this
           refine⟨⟨by omega,by omega⟩,by omega,⟨by omega,by omega⟩,fun h1=>?_,fun h1=>?_⟩
           . have h1':W.getD (n-1) 0=1:=by omega
             obtain⟨g',hg',hd⟩:=hmu.pop hwn (by rw[hgl];exact h1')
             obtain rfl:g=g':=by omega
             rw[if_pos h1']at hR
             rw[htl]at hd
             refine⟨⟨g,W,n-1,out,yw,yo⟩,⟨by simp only;omega,hd,hR,by simp only;omega,hyo⟩,by simp only;omega,?_⟩
             simp only[Ya]
             exact⟨by decide,by decide⟩
           . have h1':W.getD (n-1) 0≠1:=by omega
             rw[if_neg h1']at hR
             rw[<-hv]at hR h1'⊢
             refine Loop.keep [0,2,2,0,3,0,0,22,0] Nat (fun t=>[(38,.int .i64 t)]) (fun t=>[]) [] (fun t=>t<=out.length/\∀j,j<t->¬1<YH6 (out.getD j 0) v) (fun t=>out.length-t) ?_ ?_
             . refine⟨0,⟨by omega,fun j hj=>by omega⟩,?_⟩
               dsimp only[go_sem,reduceIte,YGU]
               simp only[Ya]
               exact⟨by decide,by decide,by decide,rfl⟩
             . rintro t ⟨ht,hno⟩
               dsimp only[YkZ,gcdC,encB,YG0,go_sem,reduceIte,YGU]
               simp only[Yc,YGU,YGW,reduceCtorEq,YGV]
               refine⟨fun hlt2=>?_,fun hge2=>?_⟩
               . have hb:2<=out.getD t 0/\out.getD t 0<=1099511627776:=hmu.op _ (YI (l:=out) (i:=t) (by omega))
                 have w1:IntKind.i64.wrap ((t:Int)+1)=((t+1:Nat):Int):=by rw[YGZ _ (by omega)];simp
                 rw[w1,YG0]
                 refine⟨⟨by omega,by omega⟩,by omega,out.getD t 0,v,⟨rfl,rfl,by omega,by omega⟩,fun hgt=>?_,fun hng=>?_⟩
                 . have hgt':1<YH6 (out.getD t 0) v:=by omega
                   have hh:hitF out v=t:=YhI (fun j hj=>decide_eq_false (hno j hj)) (by omega) (fun _=>decide_eq_true hgt')
                   obtain⟨g',hg',hd⟩:=hmu.hit hwn (i:=t) (by omega) (by rw[hgl,<-hv];exact hgt')
                   obtain rfl:g=g':=by omega
                   rw[hh,if_pos (by omega)]at hR
                   rw[hgl,htl,<-hv]at hd
                   obtain⟨b,hbd⟩:∃b,b=out.getD t 0:=⟨_,rfl⟩
                   rw[<-hbd]at hR hd hb hgt hgt'⊢
                   obtain⟨G,hG'⟩:∃G,G=YH6 b v:=⟨_,rfl⟩
                   rw[<-hG']at hR hd hgt hgt'⊢
                   have e1:IntKind.i64.wrap ((b:Int).tdiv (G:Int))=((b/G:Nat):Int):=by
                     have:(b:Int).tdiv (G:Int)=((b/G:Nat):Int):=IntWalk.up_tdiv rfl rfl
                     have h2:b/G<=b:=Nat.div_le_self _ _
                     rw[this]
                     generalize b/G=q at h2⊢
                     exact YGZ _ (by omega)
                   have e2:IntKind.i64.wrap ((v:Int).tdiv (G:Int))=((v/G:Nat):Int):=by
                     have:(v:Int).tdiv (G:Int)=((v/G:Nat):Int):=IntWalk.up_tdiv rfl rfl
                     have h2:v/G<=v:=Nat.div_le_self _ _
                     rw[this]
                     generalize v/G=q at h2⊢
                     exact YGZ _ (by omega)
                   rw[e1,e2]
                   have hsub:YkI out.length (t+1)=out.length-(t+1):=by unfold YkI;rfl
                   rw[hsub]
                   have hWt:(W.take (n-1)++[G,b/G,v/G]).length=n-1+3:=by rw[YHW,YHQ];simp only[YH1,List.length_nil];omega
                   have hol:(out.take t++out.drop (t+1)).length=t+(out.length-(t+1)):=by rw[YHW,YHQ,List.length_drop];omega
                   refine⟨⟨by omega,by omega⟩,⟨by omega,by omega⟩,by unfold Yah;omega,by omega,by omega,by decide,⟨by unfold Yah;omega,fun k hk=>?_⟩,⟨g,W.take (n-1)++[G,b/G,v/G],n-1+3,out.take t++out.drop (t+1),yw&&decide False,yo&&decide (out.length-(t+1)=0)⟩,⟨?_,?_,?_,?_,?_⟩,by simp only;omega,?_⟩
                   . match k,hk with
                     |0,_=>exact⟨rfl,trivial,trivial⟩
                     |1,_=>exact⟨rfl,trivial,trivial⟩
                     |2,_=>exact⟨rfl,trivial,trivial⟩
                   . simp only;omega
                   . simp only;rw[<-hWt,List.take_length];exact hd
                   . simp only;rw[<-hWt,List.take_length];exact hR
                   . simp only;omega
                   . simp only
                     intro hy
                     rw[YG2]at hy
                     have:=hyo hy.1
                     omega
                   . simp only[hol,hWt]
                     simp only[Ya]
                     refine⟨by decide,fun k hk=>?_,fun k hk=>?_⟩
                     . rw[Yek]
                       by_cases hkt:k<t
                       . rw[if_pos hkt,YG9 (l:=_++_),YHP (by rw[YHQ];omega),YHV,if_pos hkt,<-YG9]
                         exact⟨⟨rfl,rfl⟩,trivial⟩
                       . rw[if_neg hkt,YG9 (l:=_++_),List.getElem?_append_right (by rw[YHQ];omega),YHQ,List.getElem?_drop,<-YG9,show t+1+(k-min t out.length)=t+1+(k-t)by omega]
                         exact⟨⟨rfl,rfl⟩,trivial⟩
                     . by_cases hkt:k<n-1
                       . rw[if_pos hkt,YG9 (l:=_++_),YHP (by rw[YHQ];omega),YHV,if_pos hkt,<-YG9]
                         exact⟨⟨rfl,rfl⟩,trivial⟩
                       . rw[if_neg hkt,YG9 (l:=_++_),List.getElem?_append_right (by rw[YHQ];omega),YHQ,show k-min (n-1) W.length=k-(n-1)by omega]
                         obtain⟨q,hq⟩:∃q,q=k-(n-1):=⟨_,rfl⟩
                         rw[<-hq]
                         have hq3:q<3:=by omega
                         match q,hq3 with
                         |0,_=>exact⟨⟨rfl,rfl⟩,trivial⟩
                         |1,_=>exact⟨⟨rfl,rfl⟩,trivial⟩
                         |2,_=>exact⟨⟨rfl,rfl⟩,trivial⟩
                 . refine⟨t+1,⟨by omega,fun j hj=>?_⟩,by omega,?_⟩
                   . rcases YHE j t with h'|h'
                     . exact hno j h'
                     . obtain rfl:j=t:=by omega
                       exact fun hh=>hng (by omega)
                   . simp only[Ya]
                     exact⟨by decide,by decide,by decide⟩
               . obtain rfl:t=out.length:=by omega
                 have hh:hitF out v=out.length:=YhI (fun j hj=>decide_eq_false (hno j hj)) (YG8 _) (fun hlt=>absurd hlt (Nat.lt_irrefl _))
                 obtain⟨g',hg',hd⟩:=hmu.push hwn (by rw[hgl,<-hv];exact h1')
                 obtain rfl:g=g':=by omega
                 rw[hh,if_neg (Nat.lt_irrefl _)]at hR
                 rw[hgl,htl,<-hv]at hd
                 have hol:(out++[v]).length=out.length+1:=by rw[YHW];rfl
                 refine⟨by decide,⟨by unfold Yah;omega,fun k hk=>?_⟩,⟨g,W,n-1,out++[v],yw,yo&&decide False⟩,⟨by simp only;omega,hd,hR,by simp only;omega,?_⟩,by simp only;omega,?_⟩
                 . obtain rfl:k=0:=by omega
                   exact⟨rfl,trivial,trivial⟩
                 . simp
                 . simp only[hol]
                   simp only[Ya]
                   refine⟨by decide,fun k hk=>?_⟩
                   by_cases hkt:k<out.length
                   . rw[if_pos hkt,YG9 (l:=_++_),YHP hkt,<-YG9]
                     exact⟨⟨rfl,rfl⟩,trivial⟩
                   . obtain rfl:k=out.length:=by omega
                     rw[if_neg hkt,YG9 (l:=_++_),List.getElem?_append_right (YG8 _),Nat.sub_self]
                     exact⟨⟨rfl,rfl⟩,trivial⟩
         . obtain rfl:n=0:=by omega
           rw[List.take_zero]at hR hmu
           have hRo:R=out:=by
             rw[hR]
             cases f with
             |zero=>rfl
             |succ f=>rw[Yda,if_pos List.length_nil]
           have hpb:=hmu.pb
           rw[show YA out*YA []=YA out from YH8 _]at hpb
           refine⟨(i+1,out,yo),⟨by simp only;omega,by rw[hstep,hRo],hmu.op,hpb,by simp only;omega,hyo⟩,by simp only;omega,?_⟩
           rw[YGZ ((i:Int)+1) (by omega)]
           simp only[Ya]
           exact⟨by decide,by simp⟩
     . obtain rfl:i=l.length:=by omega
       rw[List.take_length]at hG
       have hG:YjG l=out:=hG.symm
       rw[hG]at h
       refine YD (show k (.vs true yo out.length 1 (fun k=>encB (out.getD k 0))) []from h yo) ?_ (fun _=>by simp [Yj,encB,Yk])
       have e:expo [HO.own yo 1 out.length fun k=>encB (out.getD k 0)] (SV.own 0 0 out.length 1)= .vs true yo out.length 1 (fun k=>encB (out.getD k 0)):=by
         simp [expo,view,Ydv,viewN,getH,YmH,encB]
       rw[e]
       exact Yw _ trivial
 . exact h.1.elim
def v86:VF:=⟨39,[.tmp 2],(ZR [u1 2 .mov [.cn (.bool false)]] (.seq (ZR [Zm 9 0,Zc 10 106 9,Zl 11 10,Zi 12 0] (.block 0 (.loop (ZR [Zr 13 .lss 12 11] (.seq (ZC 13 .skip (.exit 0)) (.seq (.block 1 (ZR [Zx 14 1 10 12,Zf 15 1 14,Zm 4 15] (ZR [Zi 5 0] (.seq (ZR [Zm 16 0,Zl 17 16,Zi 18 0] (.block 2 (.loop (ZR [Zr 19 .lss 18 17] (.seq (ZC 19 .skip (.exit 2)) (.seq (.block 3 (ZR [Zx 20 2 16 18,Zt 21 2 20,Zn 7,Zs 2 7 21] (ZR [Za 22 0 7,Zf 23 1 22,Zm 8 23] (.block 4 (.loop (.seq (ZR [Zm 24 8,Zm 25 4,u1 26 .rem [.tm 24,.tm 25],Zq 27 .eql 26 0] (ZC 27 .skip (.exit 4))) (.seq (.block 5 (.region [Zm 31 5,Za 32 1 7,Zf 33 1 32,Zo 34 .add 31 33,Zm 5 34])) (.region [Zm 28 8,Zm 29 4,u1 30 .quo [.tm 28,.tm 29],Zm 8 30])))))))) (.region [Zp 35 18 1,Zm 18 35]))))))) (ZR [Zm 36 5,Zq 37 .neq 36 0] (ZC 37 (ZR [u1 2 .mov [.cn (.bool false)]] .ret) .skip)))))) (.region [Zp 38 12 1,Zm 12 38]))))))) (ZR [u1 2 .mov [.cn (.bool true)]] .ret)))⟩
theorem YGA:Yf YGY Tryz.f86=some v86:=by kernel_rfl
def divL:Nat->Int->Int->Int->Int->Int
 |0,_,_,_,s=>s
 |f+1,b,n,num,s=>if n.tmod b=0 then divL f b (IntKind.i64.wrap (n.tdiv b)) num (IntKind.i64.wrap (s+num))else s
def sumB(l:List (Int×Int))(b:Nat):Int:=l.foldl (fun s x=>divL 64 b x.1 x.2 s) 0
def oneF(l:List (Int×Int)):Bool:=(YjG l).all fun b=>decide (sumB l b=0)
theorem YdK{B:Nat}:∀{f:Nat}{wait out:List Nat},DrOk B f wait out->(∀x,x∈Yda f wait out->2<=x/\x<=1099511627776)/\Yq (YA (Yda f wait out))<=B
 |0,wait,out,h=>by
   rw[Yda]
   have hw:wait=[]:=List.length_eq_zero_iff.1 (by have:=h.mu;omega)
   have:=h.pb
   rw[hw,show YA out*YA []=YA out from YH8 _]at this
   exact⟨h.op,this⟩
 |f+1,wait,out,h=>by
   rw[Yda]
   by_cases hw:wait.length=0
   . rw[if_pos hw]
     have hw:wait=[]:=List.length_eq_zero_iff.1 hw
     have:=h.pb
     rw[hw,show YA out*YA []=YA out from YH8 _]at this
     exact⟨h.op,this⟩
   . rw[if_neg hw]
     by_cases h1:wait.getD (wait.length-1) 0=1
     . rw[if_pos h1]
       obtain⟨g,hg,hd⟩:=h.pop hw h1
       obtain rfl:f=g:=by omega
       exact YdK hd
     . rw[if_neg h1]
       by_cases h2:hitF out (wait.getD (wait.length-1) 0)<out.length
       . rw[if_pos h2]
         have hs:=(Ydi (f:=fun i=>decide (1<YH6 (out.getD i 0) (wait.getD (wait.length-1) 0))) out.length 0).2.2.2 (by simpa [hitF]using h2)
         obtain⟨g,hg,hd⟩:=h.hit hw h2 (of_decide_eq_true hs)
         obtain rfl:f=g:=by omega
         exact YdK hd
       . rw[if_neg h2]
         obtain⟨g,hg,hd⟩:=h.push hw h1
         obtain rfl:f=g:=by omega
         exact YdK hd
theorem Yhk{l:List (Int×Int)}(hl:∀x,x∈l->okT x)(hn:l.length<=20):∀x,x∈YjG l->2<=x/\x<=1099511627776:=by
 have key:∀i,i<=l.length->(∀x,x∈(l.take i).foldl YbE []->2<=x/\x<=1099511627776)/\Yq (YA ((l.take i).foldl YbE []))<=40*i+1:=fun i=>by
   induction i with
   |zero=>exact fun _=>⟨fun x hx=>absurd hx (by simp),by simp [YA];decide⟩
   |succ i ih=>
     intro hi
     obtain⟨h1,h2⟩:=ih (by omega)
     have hx:=hl _ (YI (by omega:i<l.length))
     rw[YE (by omega)]
     obtain⟨q0,q1,q2,q3⟩:=hx
     exact YdK (DrOk.start (by omega) (by omega) h1 h2 (by omega))
 have:=(key l.length (YG8 _)).1
 rwa [List.take_length]at this
theorem Yra(l:List (Int×Int)):(YjG l).length<=3000*l.length:=by
 have key:∀(l:List (Int×Int))(out:List Nat),(l.foldl YbE out).length<=out.length+3000*l.length:=fun l=>by
   induction l with
   |nil=>intro out;simp
   |cons x l ih=>
     intro out
     have h1:=ih (YbE out x)
     have h2:(YbE out x).length<=out.length+3000:=YrJ
     rw[YH5,YH1]
     omega
 have h:=key l []
 rw[List.length_nil,YH0]at h
 exact h
def oneC:Ctr:={ alias:=false,of:=fun l=>match l with
 | [.vs _ _ n sz get]=> .ex (List (Int×Int)) fun l=> .pre (lsP 2 enc2 n sz get l/\(∀x,x∈l->okT x)/\n<=20) (.fin (.bool (oneF l)) [])
 |_=> .pre False (.fin (.bool false) [])}
def RA9:Env:={ ct:=fun n=>match n with|106=>some baseC|_=>none,fn:=fun _=>none,meth:=fun _ _=>none}
theorem Yk0:RA9.ct 106=some baseC:=rfl
theorem YBZ:Yl YGY RA9:=by
 refine⟨fun f c h=>?_,fun f vf h=>?_,(fun _ _ _ h=>by cases h),by kernel_rfl,(fun _ h=>by cases h)⟩
 . simp only[RA9]at h
   split at h
   . cases h;exact⟨YCW,Tryz.f106,Tryz.func106,by kernel_rfl,by kernel_rfl⟩
   . cases h
 . cases h
theorem YzN:oneC.ok YGY 86:=by
 refine Yb Tryz.func86 YGA YBZ 500 oneC fun args k h=>?_
 simp only[oneC]at h
 split at h
 . rename_i tt z n sz get
   obtain⟨l,⟨⟨rfl,rfl,hg⟩,hl,hn⟩,h⟩:=h
   refine⟨[.vs tt z l.length 2 (fun k=>enc2 (l.getD k default))],⟨⟨id,rfl,rfl,rfl,hg⟩,trivial⟩,?_⟩
   dsimp only[v86,Yk0,baseC,enc2,go_sem,reduceIte,YGU]
   simp only[Yc,YGU,YGW,reduceCtorEq,YGV]
   refine⟨l,⟨⟨rfl,rfl,fun k hk=>Yd _⟩,hl,hn⟩,fun y=>?_⟩
   have hbr:=Yhk hl hn
   have hbl:=Yra l
   obtain⟨B,hB⟩:∃B,B=YjG l:=⟨_,rfl⟩
   rw[<-hB]at hbr hbl⊢
   have hone:oneF l=B.all fun b=>decide (sumB l b=0):=by rw[hB];rfl
   refine Loop.keep [0,9,0] Nat (fun i=>[(12,.int .i64 i)]) (fun _=>[]) [] (fun i=>i<=B.length/\((B.take i).all fun b=>decide (sumB l b=0))=true) (fun i=>B.length-i) ?_ ?_
   . refine⟨0,⟨by omega,rfl⟩,?_⟩
     dsimp only[go_sem,reduceIte,YGU]
     simp only[Ya]
     rfl
   . rintro i ⟨hi,hall⟩
     dsimp only[Yk0,baseC,encB,enc2,YG0,go_sem,reduceIte,YGU]
     simp only[Yc,YGU,YGW,reduceCtorEq,YGV]
     refine⟨fun hlt=>⟨⟨by omega,by omega⟩,?_⟩,fun hge=>?_⟩
     . have hb:2<=B.getD i 0/\B.getD i 0<=1099511627776:=hbr _ (YI (l:=B) (i:=i) (by omega))
       have hsucc:((B.take (i+1)).all fun b=>decide (sumB l b=0))=decide (sumB l (B.getD i 0)=0):=by
         rw[YkL (by omega),hall,Bool.true_and];rfl
       have hmemb:B.getD i 0∈B:=YI (l:=B) (i:=i) (by omega)
       obtain⟨b,hbe⟩:∃b,b=B.getD i 0:=⟨_,rfl⟩
       rw[<-hbe]at hb hsucc hmemb⊢
       refine Loop.keep [0,3,5,0,0,3,0] (Nat×Int) (fun s=>[(5,.int .i64 s.2),(18,.int .i64 s.1)]) (fun _=>[]) [] (fun s=>s.1<=l.length/\s.2=(l.take s.1).foldl (fun s x=>divL 64 b x.1 x.2 s) 0) (fun s=>l.length-s.1) ?_ ?_
       . refine⟨(0,0),⟨by simp only;omega,rfl⟩,?_⟩
         dsimp only[go_sem,reduceIte,YGU]
         simp only[Ya]
         rfl
       . rintro⟨t,S⟩ ⟨ht,hS⟩
         dsimp only at ht hS
         dsimp only[enc2,YG0,go_sem,reduceIte,YGU]
         simp only[Yc,YGU,YGW,reduceCtorEq,YGV]
         refine⟨fun hlt2=>⟨⟨by omega,by omega⟩,?_⟩,fun hge2=>?_⟩
         . have hx:=hl _ (YI (by omega:t<l.length))
           have hst:(l.take (t+1)).foldl (fun s x=>divL 64 b x.1 x.2 s) 0=divL 64 b (l.getD t default).1 (l.getD t default).2 S:=by
             rw[YE (by omega),<-hS]
           generalize l.getD t default=x at hx hst⊢
           obtain⟨q0,q1,q2,q3⟩:=hx
           obtain⟨R,hR⟩:∃R,R=divL 64 b x.1 x.2 S:=⟨_,rfl⟩
           rw[<-hR]at hst
           refine Loop.keep [0,3,2,2,0,0,3,0,0] (Nat×Int×Int) (fun s=>[(5,.int .i64 s.2.2),(8,.int .i64 s.2.1)]) (fun _=>[]) [] (fun s=>R=divL s.1 b s.2.1 x.2 s.2.2/\1<=s.2.1/\s.2.1<2^s.1/\s.2.1<=1000000000001) (fun s=>s.1) ?_ ?_
           . refine⟨(64,x.1,S),⟨hR,q0,by simp only;omega,q1⟩,?_⟩
             dsimp only[go_sem,reduceIte,YGU]
             simp only[Ya]
             decide
           . rintro⟨f,n,S'⟩ ⟨hf,n0,n1,n2⟩
             dsimp only at hf n0 n1 n2
             dsimp only[go_sem,reduceIte,YGU]
             simp only[Yc,YGU,YGW,reduceCtorEq,YGV]
             obtain⟨m,rfl⟩:=YHL (by omega:0<=n)
             obtain⟨g,rfl⟩:∃g,f=g+1:=by
               cases f with
               |zero=>simp at n1;omega
               |succ g=>exact⟨g,rfl⟩
             rw[divL]at hf
             refine⟨by omega,fun hc=>⟨by omega,?_⟩,fun hc=>?_⟩
             . rw[if_pos hc]at hf
               have e1:(m:Int).tmod (b:Int)=((m%b:Nat):Int):=IntWalk.up_tmod rfl rfl
               have e2:(m:Int).tdiv (b:Int)=((m/b:Nat):Int):=IntWalk.up_tdiv rfl rfl
               rw[e1]at hc
               have hdm:=YHH m b
               rw[show m%b=0 by omega,Nat.add_zero]at hdm
               have hq1:1<=m/b:=Nat.pos_of_ne_zero fun hh=>by rw[hh,Nat.mul_zero]at hdm;omega
               have hq2:2*(m/b)<=m:=by
                 have:2*(m/b)<=b*(m/b):=YG3 _ hb.1
                 omega
               rw[e2]at hf⊢
               generalize m/b=q at hq1 hq2 hf⊢
               have eq:IntKind.i64.wrap (q:Int)=(q:Int):=YGZ _ (by omega)
               rw[eq]at hf⊢
               have n1':m<2^g*2:=by rw[<-YHo];exact_mod_cast n1
               refine⟨(g,q,IntKind.i64.wrap (S'+x.2)),⟨hf,by simp only;omega,?_,by simp only;omega⟩,by simp only;omega,?_⟩
               . show(q:Int)<2^g
                 have:q<2^g:=by omega
                 exact_mod_cast this
               . simp only[Ya]
                 decide
             . rw[if_neg hc]at hf
               refine⟨(t+1,S'),⟨by simp only;omega,by rw[hst,hf]⟩,by simp only;omega,?_⟩
               rw[YGZ ((t:Int)+1) (by omega)]
               simp only[Ya]
               simp
         . obtain rfl:t=l.length:=by omega
           rw[List.take_length]at hS
           have hS:S=sumB l b:=hS
           refine⟨fun hc=>?_,fun hc=>⟨i+1,⟨by omega,?_⟩,by omega,?_⟩⟩
           . have:oneF l=false:=by
               rw[hone,List.all_eq_false]
               exact⟨b,hmemb,by rw[<-hS];simpa using hc⟩
             rw[this]at h
             exact Yx h
           . rw[hsucc,<-hS];exact decide_eq_true hc
           . rw[YGZ ((i:Int)+1) (by omega)]
             simp only[Ya]
             simp
     . obtain rfl:i=B.length:=by omega
       rw[List.take_length]at hall
       rw[hone,hall]at h
       exact Yx h
 . exact h.1.elim
def v84:VF:=⟨39,[.tmp 2],(ZR [Zi 2 0] (.seq (ZR [Zm 9 0,Zc 10 103 9,Zm 8 10,Ze 11 0 8,Ze 12 1 8,Zm 3 11,Zm 4 12] (ZR [Zm 13 4] (ZC 13 (ZR [Zm 14 3,Zm 2 14] .ret) .skip))) (.seq (ZR [Zm 15 0,Zc 16 86 15] (ZC 16 (ZR [Zi 2 0] .ret) .skip)) (.seq (ZR [Zi 5 64] (.block 0 (.loop (.seq (ZR [Zm 17 5,Zq 18 .leq 17 2048] (ZC 18 .skip (.exit 0))) (.seq (.block 1 (ZR [Zm 22 0,Zm 23 5,Zd 24 104 22 23,Zm 21 24,Ze 25 0 21,Ze 26 1 21,u1 6 (.alloc [.nil,.nil]) [],u1 7 (.alloc [.nil,.nil]) [],Zs 2 6 25,Zs 2 7 26] (.block 2 (ZR [Za 28 0 6,Zf 29 1 28,Za 30 1 7,Zf 31 1 30,Zd 32 105 29 31,Zm 27 32] (ZC 27 (ZR [Zi 2 1] .ret) (ZR [Za 34 0 7,Zf 35 1 34,Za 36 1 6,Zf 37 1 36,Zd 38 105 35 37,Zm 33 38] (ZC 33 (ZR [Zi 2 (-1)] .ret) .skip))))))) (.region [Zm 19 5,u1 20 (.ari .mul) [.tm 19,.cn (.int .i64 2)],Zm 5 20])))))) (ZR [Zi 2 0] .ret)))))⟩
theorem YGz:Yf YGY Tryz.f84=some v84:=by kernel_rfl
def v81:VF:=⟨33,[.tmp 2],(ZR [Zi 2 0] (.seq (ZR [Zm 5 0,Zl 6 5,Zq 7 .gtr 6 16] (ZC 7 (ZR [Zi 2 3] .ret) .skip)) (.seq (ZR [Zm 8 0,Zl 9 8,Zi 10 0] (.block 0 (.loop (ZR [Zr 11 .lss 10 9] (.seq (ZC 11 .skip (.exit 0)) (.seq (.block 1 (ZR [Zx 12 2 8 10,Zt 13 2 12,Zn 4,Zs 2 4 13] (ZR [Za 14 0 4,Zf 15 1 14,Zq 16 .lss 15 1,Zm 17 16,Zj 18 17 false 0 4,Zh 19 17 false 1 18,u2 20 17 false (.cmp .gtr) [.tm 19,.cn (.int .i64 1000000000000)],u1 21 .or [.tm 17,.tm 20],Zm 22 21,Zj 23 22 false 1 4,Zh 24 22 false 1 23,u2 25 22 false (.cmp .lss) [.tm 24,.cn (.int .i64 (-1000000000))],u1 26 .or [.tm 22,.tm 25],Zm 27 26,Zj 28 27 false 1 4,Zh 29 27 false 1 28,u2 30 27 false (.cmp .gtr) [.tm 29,.cn (.int .i64 1000000000)],u1 31 .or [.tm 27,.tm 30]] (ZC 31 (ZR [Zi 2 2] .ret) .skip)))) (.region [Zp 32 10 1,Zm 10 32]))))))) (ZR [Zi 2 0] .ret))))⟩
theorem YGw:Yf YGY Tryz.f81=some v81:=by kernel_rfl
def YcJ:Nat->List (Int×Int)->Nat->Int
 |0,_,_=>0
 |f+1,l,p=>if(YcK l p).dh<(YcK l p).ul then 1 else if(YcK l p).uh<(YcK l p).dl then -1 else YcJ f l (2*p)
def YdA(l:List (Int×Int)):Int:=if(YhC l).2=true then(YhC l).1 else if oneF l=true then 0 else YcJ 6 l 64
def signC:Ctr:={ alias:=false,of:=fun l=>match l with
 | [.vs _ _ n sz get]=> .ex (List (Int×Int)) fun l=> .pre (lsP 2 enc2 n sz get l/\(∀x,x∈l->okT x)/\n<=20) (.fin (.int .i64 (YdA l)) [])
 |_=> .pre False (.fin (.int .i64 0) [])}
def okT0(x:Int×Int):Bool:=decide (x.1<1) || decide (1000000000000<x.1) || decide (x.2< -1000000000) || decide (1000000000<x.2)
def YeM(l:List (Int×Int)):Int:=if 16<l.length then 3 else if l.any okT0=true then 2 else 0
def chkTC:Ctr:={ alias:=false,of:=fun l=>match l with
 | [.vs _ _ n sz get]=> .ex (List (Int×Int)) fun l=> .pre (lsP 2 enc2 n sz get l/\n<=9223372036854775807) (.fin (.int .i64 (YeM l)) [])
 |_=>noC}
theorem Ywn(l:List (Int×Int))(p:Nat):(YcK l p).ok:=by
 have key:∀(l:List (Int×Int))(s:Bnd),s.ok->(l.foldl (Yeh p) s).ok:=fun l=>by
   induction l with
   |nil=>intro s h;exact h
   |cons x l ih=>intro s h;exact ih _ (YkK p s x h)
 exact key l _ (by simp [Bnd.ok,nl_0])
def RB0:Env:={ ct:=fun n=>match n with|103=>some guessC|86=>some oneC|104=>some sumsC|105=>some aboveC|_=>none,fn:=fun _=>none,meth:=fun _ _=>none}
theorem Yql:RB0.ct 103=some guessC:=rfl
theorem Yug:RB0.ct 86=some oneC:=rfl
theorem Yqm:RB0.ct 104=some sumsC:=rfl
theorem Yqn:RB0.ct 105=some aboveC:=rfl
theorem YB0:Yl YGY RB0:=by
 refine⟨fun f c h=>?_,fun f vf h=>?_,(fun _ _ _ h=>by cases h),by kernel_rfl,(fun _ h=>by cases h)⟩
 . simp only[RB0]at h
   split at h
   . cases h;exact⟨Yy4,Tryz.f103,Tryz.func103,by kernel_rfl,by kernel_rfl⟩
   . cases h;exact⟨YzN,Tryz.f86,Tryz.func86,by kernel_rfl,by kernel_rfl⟩
   . cases h;exact⟨YFC,Tryz.f104,Tryz.func104,by kernel_rfl,by kernel_rfl⟩
   . cases h;exact⟨YmG,Tryz.f105,Tryz.func105,by kernel_rfl,by kernel_rfl⟩
   . cases h
 . cases h
theorem Yxo:signC.ok YGY 84:=by
 refine Yb Tryz.func84 YGz YB0 500 signC fun args k h=>?_
 simp only[signC]at h
 split at h
 . rename_i tt z n sz get
   obtain⟨l,⟨⟨rfl,rfl,hg⟩,hl,hn⟩,h⟩:=h
   refine⟨[.vs tt z l.length 2 (fun k=>enc2 (l.getD k default))],⟨⟨id,rfl,rfl,rfl,hg⟩,trivial⟩,?_⟩
   dsimp only[v84,Yql,Yug,guessC,oneC,enc2,go_sem,reduceIte,YGU]
   simp only[Yc,YGU,YGW,reduceCtorEq,YGV]
   have hself:lsP 2 enc2 l.length 2 (fun k=>[SV.int IntKind.i64 (l.getD k default).fst,SV.int IntKind.i64 (l.getD k default).snd]) l:=⟨rfl,rfl,fun k _=>Yd _⟩
   refine⟨l,⟨hself,hl,by omega⟩,by decide,by decide,fun hc=>?_,fun hc=>⟨l,⟨hself,hl,hn⟩,fun hd=>?_,fun hd=>?_⟩⟩
   . rw[YdA,if_pos hc]at h;exact Yi h
   . rw[YdA,if_neg (by rw[hc];decide),if_pos hd]at h;exact Yi h
   . rw[YdA,if_neg (by rw[hc];decide),if_neg (by rw[hd];decide)]at h
     obtain⟨R,hR⟩:∃R,R=YcJ 6 l 64:=⟨_,rfl⟩
     rw[<-hR]at h
     refine Loop.keep [0] (Nat×Nat) (fun s=>[(5,.int .i64 s.2)]) (fun _=>[]) [] (fun s=>R=YcJ s.1 l s.2/\s.2*2^s.1=4096/\64<=s.2) (fun s=>s.1) ?_ ?_
     . refine⟨(6,64),⟨hR,by decide,by decide⟩,?_⟩
       dsimp only[go_sem,reduceIte,YGU]
       simp only[Ya]
       rfl
     . rintro⟨f,p⟩ ⟨hf,hp,hp64⟩
       dsimp only at hf hp hp64
       dsimp only[Yqm,Yqn,sumsC,aboveC,natS,go_sem,reduceIte,YGU]
       simp only[Yc,YGU,YGW,reduceCtorEq,YGV]
       obtain⟨k1,k2,k3,k4⟩:=Ywn l p
       have hfd:p<=2048->∃g,f=g+1:=fun hpl=>by
         rcases YHR f with h0|h0
         . rw[h0,Nat.pow_zero,YH8]at hp;omega
         . exact⟨f-1,by omega⟩
       have hf0:¬p<=2048->f=0:=fun hpl=>by
         rcases YHR f with h0|h0
         . exact h0
         . obtain⟨g,rfl⟩:∃g,f=g+1:=⟨f-1,by omega⟩
           rw[YHo]at hp
           have:1<=2^g:=YH g
           have:p*2<=p*(2^g*2):=YG5 _ (by omega)
           omega
       refine⟨fun hc=>⟨l,p,⟨hself,hl,by omega,rfl,by omega⟩,fun y1 y2 y3 y4=>⟨by decide,by decide,(YcK l p).ul,(YcK l p).dh,⟨Yn k1,Yn k4⟩,fun hd=>?_,fun hd=>⟨(YcK l p).dl,(YcK l p).uh,⟨Yn k3,Yn k2⟩,fun he=>?_,fun he=>?_⟩⟩⟩,fun hc=>?_⟩
       . obtain⟨g,rfl⟩:=hfd (by omega)
         rw[YcJ,if_pos hd]at hf
         rw[hf]at h;exact Yi h
       . obtain⟨g,rfl⟩:=hfd (by omega)
         rw[YcJ,if_neg hd,if_pos he]at hf
         rw[hf]at h;exact Yi h
       . obtain⟨g,rfl⟩:=hfd (by omega)
         rw[YcJ,if_neg hd,if_neg he]at hf
         rw[YHo]at hp
         have hp2:2*p*2^g=4096:=by rw[<-hp,YG4 2 p,YG6,YG4 2]
         refine⟨(g,2*p),⟨hf,hp2,by simp only;omega⟩,by simp only;omega,?_⟩
         rw[show IntKind.i64.wrap ((p:Int)*2)=((2*p:Nat):Int)by rw[YGZ _ (by omega)];omega]
         simp only[Ya]
       . obtain rfl:=hf0 (by omega)
         rw[YcJ]at hf
         rw[hf]at h;exact Yi h
 . exact h.1.elim
def RB1:Env:={ ct:=fun _=>none,fn:=fun _=>none,meth:=fun _ _=>none}
theorem YB1:Yl YGY RB1:=by
 refine⟨fun f c h=>?_,fun f vf h=>?_,(fun _ _ _ h=>by cases h),by kernel_rfl,(fun _ h=>by cases h)⟩
 . cases h
 . cases h
theorem YwK:chkTC.ok YGY 81:=by
 refine Yb Tryz.func81 YGw YB1 500 chkTC fun args k h=>?_
 simp only[chkTC]at h
 split at h
 . rename_i tt z n sz get
   obtain⟨l,⟨⟨rfl,rfl,hg⟩,hn⟩,h⟩:=h
   refine⟨[.vs tt z l.length 2 (fun k=>enc2 (l.getD k default))],⟨⟨id,rfl,rfl,rfl,hg⟩,trivial⟩,?_⟩
   dsimp only[v81,enc2,go_sem,reduceIte,YGU]
   simp only[Yc,YGU,YGW,reduceCtorEq,YGV]
   refine⟨fun hc=>?_,fun hc=>?_⟩
   . rw[YeM,if_pos (by omega)]at h;exact Yi h
   . rw[YeM,if_neg (by omega)]at h
     refine Loop.keep [0,7,0] Nat (fun i=>[(10,.int .i64 i)]) (fun _=>[]) [] (fun i=>i<=l.length/\(l.take i).any okT0=false) (fun i=>l.length-i) ?_ ?_
     . refine⟨0,⟨by omega,rfl⟩,?_⟩
       dsimp only[go_sem,reduceIte,YGU]
       simp only[Ya]
       rfl
     . rintro i ⟨hi,hall⟩
       dsimp only[enc2,YG0,go_sem,reduceIte,YGU]
       simp only[Yc,YGU,YGW,reduceCtorEq,YGV]
       refine⟨fun hlt=>⟨⟨by omega,by omega⟩,fun hc=>?_,fun hc=>⟨i+1,⟨by omega,?_⟩,by omega,?_⟩⟩,fun hge=>?_⟩
       . have:l.any okT0=true:=List.any_eq_true.2 ⟨_,YI (by omega:i<l.length),hc⟩
         rw[if_pos this]at h
         exact Yi h
       . rw[YkM (by omega),hall,Bool.false_or];exact hc
       . rw[YGZ ((i:Int)+1) (by omega)]
         simp only[Ya]
         simp
       . obtain rfl:i=l.length:=by omega
         rw[List.take_length]at hall
         rw[if_neg (by rw[hall];decide)]at h
         exact Yi h
 . exact h.1.elim
def v74:VF:=⟨54,[.tmp 6,.tmp 7,.tmp 8],(ZR [u1 5 .box [.tm 2],Zi 6 0,u1 7 .mov [.cn (.bool false)],Zi 8 0] (.seq (ZR [Zm 13 1,Zc 14 81 13,Zm 9 14] (ZR [Zm 15 9,Zq 16 .neq 15 0] (ZC 16 (ZR [Zm 17 9,Zi 6 0,u1 7 .mov [.cn (.bool false)],Zm 8 17] .ret) .skip))) (.seq (ZR [Zf 18 1 5,Zq 19 .lss 18 1,Zm 20 19,Zh 21 20 false 1 5,u2 22 20 false (.cmp .gtr) [.tm 21,.cn (.int .i64 1000000)],u1 23 .or [.tm 20,.tm 22],Zm 24 23,Zg 25 24 false 0,u2 26 24 false (.cmp .lss) [.tm 25,.cn (.int .i64 1)],u1 27 .or [.tm 24,.tm 26],Zm 28 27,Zg 29 28 false 0,u2 30 28 false (.cmp .gtr) [.tm 29,.cn (.int .i64 1000000000000)],u1 31 .or [.tm 28,.tm 30]] (ZC 31 (ZR [Zi 6 0,u1 7 .mov [.cn (.bool false)],Zi 8 2] .ret) .skip)) (.seq (.drawT [(10,.box [.nil])] (.ops [Zu 32 1] (.ops [Zu 34 0] (.ops [Zv 35 1 5] (.ops [w1 36 (.build [(.int .i64 0),(.int .i64 0)] [(0,1),(1,1)]) [.tm 34,.tm 35]] (.ops [] (.br (.ops [⟨u1 33 (.append 2 16 [(.int .i64 0),(.int .i64 0)]) [.cn .nil,.tm 32],[.tm 0,.tm 34,.tm 5,.tm 35,.tm 34,.tm 35,.tm 36]⟩] (.ops [w1 37 (.buildSlice 2 1 [(.int .i64 0),(.int .i64 0)] [(0,2)]) [.tm 36]] (.ops [w1 38 (.append 2 16 [(.int .i64 0),(.int .i64 0)]) [.tm 33,.tm 37]] (.ops [ZS 1 10 38] .leaf)))) (.ops [w1 37 (.buildSlice 2 1 [(.int .i64 0),(.int .i64 0)] [(0,2)]) [.tm 36]] (.ops [⟨u1 33 (.append 2 16 [(.int .i64 0),(.int .i64 0)]) [.cn .nil,.tm 32],[.tm 0,.tm 34,.tm 5,.tm 35,.tm 34,.tm 35,.tm 36]⟩] (.ops [w1 38 (.append 2 16 [(.int .i64 0),(.int .i64 0)]) [.tm 33,.tm 37]] (.ops [ZS 1 10 38] .leaf))))))))))) (ZR [u1 39 (.mkfn (.func 96) 0) [.tm 10,.tm 5],u1 11 (.alloc [(.val .nilFunc)]) [],Zs 1 11 39] (ZR [u1 40 (.mkfn (.func 97) 0) [.tm 11],Zm 12 40] (.seq (ZR [Zm 41 12,u1 42 .callv [.tm 41,.cn (.int .i64 1000000000001)]] (ZC 42 (ZR [Zi 6 0,u1 7 .mov [.cn (.bool false)],Zi 8 7] .ret) .skip)) (ZR [Zm 43 12,u1 44 (.call 85) [.cn (.int .i64 0),.cn (.int .i64 1000000000001),.tm 43],Zm 6 44] (ZR [Zm 45 6,Zm 46 6,Zq 47 .gtr 46 0,Zm 48 47,Zh 49 48 true 1 11,Zg 50 48 true 6,u2 51 48 true .callv [.tm 49,.tm 50],u2 52 48 true (.call 86) [.tm 51],u1 53 .and [.tm 48,.tm 52],Zm 6 45,Zm 7 53,Zi 8 0] .ret)))))))))⟩
theorem YGt:Yf YGY Tryz.f74=some v74:=by kernel_rfl
def v96:VF:=⟨17,[.tmp 4],(ZR [u1 4 .mov [.cn .nil]] (.seq (.draw [] [Zv 5 1 1,Zv 6 1 1,w1 7 .len [.tm 6],Zv 8 1 1,w1 9 .len [.tm 8],w1 10 (.slice3 2) [.tm 5,.tm 7,.tm 9],Zu 11 0,Zv 12 1 2,w1 13 .neg [.tm 12],w1 14 (.build [(.int .i64 0),(.int .i64 0)] [(0,1),(1,1)]) [.tm 11,.tm 13],w1 15 (.buildSlice 2 1 [(.int .i64 0),(.int .i64 0)] [(0,2)]) [.tm 14],w1 16 (.append 2 16 [(.int .i64 0),(.int .i64 0)]) [.tm 10,.tm 15],Zu 4 16]) .ret))⟩
theorem YGJ:Yf YGY Tryz.f96=some v96:=by kernel_rfl
def v97:VF:=⟨13,[.tmp 3],(ZR [u1 3 .mov [.cn (.bool false)]] (ZR [Zm 4 0,Zq 5 .eql 4 0,Zm 6 5,Zh 7 6 false 1 1,Zg 8 6 false 0,u2 9 6 false .callv [.tm 7,.tm 8],u2 10 6 false (.call 84) [.tm 9],u2 11 6 false (.cmp .geq) [.tm 10,.cn (.int .i64 0)],u1 12 .or [.tm 6,.tm 11],Zm 3 12] .ret))⟩
theorem YGK:Yf YGY Tryz.f97=some v97:=by kernel_rfl
def v85:VF:=⟨24,[.tmp 6],(ZR [Zi 6 0] (.seq (.block 0 (.loop (.seq (ZR [Zm 8 1,Zm 9 0,Zo 10 .sub 8 9,Zq 11 .gtr 10 1] (ZC 11 .skip (.exit 0))) (.block 1 (ZR [Zm 12 0,Zm 13 1,Zm 14 0,Zo 15 .sub 13 14,u1 16 .quo [.tm 15,.cn (.int .i64 2)],Zo 17 .add 12 16,Zm 7 17] (ZR [Zm 18 2,Zm 19 7,u1 20 .callv [.tm 18,.tm 19]] (ZC 20 (.region [Zm 21 7,Zm 0 21]) (.region [Zm 22 7,Zm 1 22])))))))) (ZR [Zm 23 0,Zm 6 23] .ret)))⟩
theorem Yxz:Yf YGY Tryz.f85=some v85:=by kernel_rfl
def bisL:Nat->(Int->Bool)->Int->Int->Int
 |0,_,a,_=>a
 |f+1,t,a,b=>if 1<b-a then(if t (a+(b-a)/2)=true then bisL f t (a+(b-a)/2) b else bisL f t a (a+(b-a)/2))else a
def atF(all:List (Int×Int))(den k:Int):List (Int×Int):=all++[(k, -den)]
def isF(all:List (Int×Int))(den k:Int):Bool:=decide (k=0) || decide (0<=YdA (atF all den k))
def Ytd(s:Int)(l:List (Int×Int))(den:Int):Int×Bool×Int:=
 if isF (l++[(s,den)]) den 1000000000001=true then(0,false,7)
 else(bisL 64 (isF (l++[(s,den)]) den) 0 1000000000001,decide (0<bisL 64 (isF (l++[(s,den)]) den) 0 1000000000001)&&oneF (atF (l++[(s,den)]) den (bisL 64 (isF (l++[(s,den)]) den) 0 1000000000001)),0)
def YjF(s den:Int):Bool:=decide (den<1) || (decide (1000000<den) || (decide (s<1) || decide (1000000000000<s)))
def Yb9(s:Int)(l:List (Int×Int))(den:Int):Int×Bool×Int:=
 if YeM l≠0 then(0,false,YeM l)else if YjF s den=true then(0,false,2)else Ytd s l den
theorem Yyi{s den:Int}(h:YjF s den=false):(1<=s/\s<=1000000000000)/\1<=den/\den<=1000000:=by
 simp only[YjF,YHq,decide_eq_false_iff_not]at h;omega
theorem YmT{l:List (Int×Int)}(h:YeM l=0):(∀x,x∈l->okT0 x=false)/\l.length<=16:=by
 unfold YeM at h
 split at h
 . cases h
 . split at h
   . cases h
   . rename_i h1 h2
     rw[Bool.not_eq_true,List.any_eq_false]at h2
     exact⟨fun x hx=>by simpa using h2 x hx,by omega⟩
def prodC:Ctr:={ alias:=false,of:=fun l=>match l with
 | [.int .i64 s,.vs _ _ n sz get,.int .i64 den]=> .ex (List (Int×Int)) fun l=> .pre (lsP 2 enc2 n sz get l/\1<=n/\n<=1000000000000) (.fin (.tup [.int .i64 (Yb9 s l den).1,.bool (Yb9 s l den).2.1,.int .i64 (Yb9 s l den).2.2]) [])
 |_=>noC}
theorem YCP{l:List (Int×Int)}{s den kk:Int}{hp:List HO}{r:List SV->List SV}{i k:Nat}(hk:k<l.length+1+1):
   leXL (Ydv false hp r (if k<l.length+1 then if k<l.length then [SV.int IntKind.i64 (l.getD k default).fst,SV.int IntKind.i64 (l.getD k default).snd]else Ym i (YC 2 (Yu ((k-l.length)*2) [SV.int IntKind.i64 s,SV.int IntKind.i64 den]))else YC 2 (Yu ((k-(l.length+1))*2) [SV.int IntKind.i64 kk,SV.int IntKind.i64 (-den)]))) (enc2 ((atF (l++[(s,den)]) den kk).getD k default)):=by
 unfold atF
 rw[List.append_assoc]
 by_cases h1:k<l.length
 . rw[if_pos (by omega),if_pos h1,YG9 (l:=_++_),YHP h1,<-YG9]
   exact Yd _
 . rw[YG9 (l:=_++_),List.getElem?_append_right (by omega),if_neg h1]
   by_cases h2:k<l.length+1
   . rw[if_pos h2,show k-l.length=0 by omega]
     exact Yd _
   . rw[if_neg h2,show k-(l.length+1)=0 by omega,show k-l.length=1 by omega]
     exact Yd _
theorem Ywd{l:List (Int×Int)}{s den:Int}{i k a b:Nat}(hk:k<l.length+1):leL a b (if k<l.length then [SV.int IntKind.i64 (l.getD k default).fst,SV.int IntKind.i64 (l.getD k default).snd]else Ym i (YC 2 (Yu ((k-l.length)*2) [SV.int IntKind.i64 s,SV.int IntKind.i64 den]))) (if k<l.length then [SV.int IntKind.i64 (l.getD k default).fst,SV.int IntKind.i64 (l.getD k default).snd]else Ym i (YC 2 (Yu ((k-l.length)*2) [SV.int IntKind.i64 s,SV.int IntKind.i64 den]))):=by
 by_cases h1:k<l.length
 . rw[if_pos h1];exact⟨⟨rfl,rfl⟩,⟨rfl,rfl⟩,trivial⟩
 . rw[if_neg h1,show k-l.length=0 by omega];exact⟨⟨rfl,rfl⟩,⟨rfl,rfl⟩,trivial⟩
theorem YAw{s den:Int}{i k a b:Nat}(hk:k<1):leL a b (Ym i (YC 2 (Yu (k*2) [SV.int IntKind.i64 s,SV.int IntKind.i64 den]))) (Ym i (YC 2 (Yu (k*2) [SV.int IntKind.i64 s,SV.int IntKind.i64 den]))):=by
 obtain rfl:k=0:=by omega
 exact⟨⟨rfl,rfl⟩,⟨rfl,rfl⟩,trivial⟩
theorem YAx{l:List (Int×Int)}{s den kk dd:Int}{i k a b:Nat}(hk:k<l.length+1+1):leL a b (if k<l.length+1 then if k<l.length then [SV.int IntKind.i64 (l.getD k default).fst,SV.int IntKind.i64 (l.getD k default).snd]else Ym i (YC 2 (Yu ((k-l.length)*2) [SV.int IntKind.i64 s,SV.int IntKind.i64 den]))else YC 2 (Yu ((k-(l.length+1))*2) [SV.int IntKind.i64 kk,SV.int IntKind.i64 dd])) (if k<l.length+1 then if k<l.length then [SV.int IntKind.i64 (l.getD k default).fst,SV.int IntKind.i64 (l.getD k default).snd]else Ym i (YC 2 (Yu ((k-l.length)*2) [SV.int IntKind.i64 s,SV.int IntKind.i64 den]))else YC 2 (Yu ((k-(l.length+1))*2) [SV.int IntKind.i64 kk,SV.int IntKind.i64 dd])):=by
 by_cases h1:k<l.length+1
 . rw[if_pos h1];exact Ywd h1
 . rw[if_neg h1,show k-(l.length+1)=0 by omega];exact⟨⟨rfl,rfl⟩,⟨rfl,rfl⟩,trivial⟩
theorem Yyg{l:List (Int×Int)}{s den kk:Int}{hp:List HO}{r:List SV->List SV}{i:Nat}:
   lsP 2 enc2 (l.length+1+1) 2 (fun k=>Ydv false hp r (if k<l.length+1 then if k<l.length then [SV.int IntKind.i64 (l.getD k default).fst,SV.int IntKind.i64 (l.getD k default).snd]else Ym i (YC 2 (Yu ((k-l.length)*2) [SV.int IntKind.i64 s,SV.int IntKind.i64 den]))else YC 2 (Yu ((k-(l.length+1))*2) [SV.int IntKind.i64 kk,SV.int IntKind.i64 (-den)]))) (atF (l++[(s,den)]) den kk):=
 ⟨rfl,by simp [atF],fun k hk=>YCP hk⟩
theorem Yyh{l:List (Int×Int)}{s den kk:Int}(hl:∀x,x∈l->okT0 x=false)(hs:1<=s/\s<=1000000000000)(hd:1<=den/\den<=1000000)(hk:1<=kk/\kk<=1000000000001):∀x,x∈atF (l++[(s,den)]) den kk->okT x:=by
 intro x hx
 unfold atF at hx
 rw[YHz,YHz,YHF,YHF]at hx
 rcases hx with(hx|rfl) |rfl
 . have:=hl x hx
   unfold okT0 at this
   simp only[YHq,decide_eq_false_iff_not]at this
   unfold okT
   omega
 . simp only[okT];omega
 . simp only[okT];omega
theorem Yq7{l:List (Int×Int)}{s den:Int}{i k:Nat}(hk:k<l.length+1):lenL (if k<l.length then [SV.int IntKind.i64 (l.getD k default).fst,SV.int IntKind.i64 (l.getD k default).snd]else Ym i (YC 2 (Yu ((k-l.length)*2) [SV.int IntKind.i64 s,SV.int IntKind.i64 den])))=2/\ones (if k<l.length then [SV.int IntKind.i64 (l.getD k default).fst,SV.int IntKind.i64 (l.getD k default).snd]else Ym i (YC 2 (Yu ((k-l.length)*2) [SV.int IntKind.i64 s,SV.int IntKind.i64 den]))):=by
 by_cases h1:k<l.length
 . rw[if_pos h1];exact⟨rfl,trivial,trivial,trivial⟩
 . rw[if_neg h1,show k-l.length=0 by omega];exact⟨rfl,trivial,trivial,trivial⟩
theorem Yks{a b:Int}{k:Nat}(hk:k<1):lenL (YC 2 (Yu (k*2) [SV.int IntKind.i64 a,SV.int IntKind.i64 b]))=2/\ones (YC 2 (Yu (k*2) [SV.int IntKind.i64 a,SV.int IntKind.i64 b])):=by
 obtain rfl:k=0:=by omega
 exact⟨rfl,trivial,trivial,trivial⟩
def RB2:Env:={ ct:=fun n=>match n with|81=>some chkTC|84=>some signC|86=>some oneC|_=>none,fn:=fun n=>match n with|96=>some v96|97=>some v97|85=>some v85|_=>none,meth:=fun _ _=>none}
theorem Yuh:RB2.ct 81=some chkTC:=rfl
theorem YnB:RB2.ct 84=some signC:=rfl
theorem Yuj:RB2.ct 86=some oneC:=rfl
theorem YnC:RB2.ct 96=none:=rfl
theorem YnE:RB2.fn 96=some v96:=rfl
theorem YnD:RB2.ct 97=none:=rfl
theorem YnF:RB2.fn 97=some v97:=rfl
theorem Yui:RB2.ct 85=none:=rfl
theorem Yuk:RB2.fn 85=some v85:=rfl
theorem YB2:Yl YGY RB2:=by
 refine⟨fun f c h=>?_,fun f vf h=>?_,(fun _ _ _ h=>by cases h),by kernel_rfl,(fun _ h=>by cases h)⟩
 . simp only[RB2]at h
   split at h
   . cases h;exact⟨YwK,Tryz.f81,Tryz.func81,by kernel_rfl,by kernel_rfl⟩
   . cases h;exact⟨Yxo,Tryz.f84,Tryz.func84,by kernel_rfl,by kernel_rfl⟩
   . cases h;exact⟨YzN,Tryz.f86,Tryz.func86,by kernel_rfl,by kernel_rfl⟩
   . cases h
 . simp only[RB2]at h
   split at h
   . cases h;exact⟨Tryz.f96,Tryz.func96,YGJ,Tryz.f96,Tryz.func96,by kernel_rfl,by kernel_rfl⟩
   . cases h;exact⟨Tryz.f97,Tryz.func97,YGK,Tryz.f97,Tryz.func97,by kernel_rfl,by kernel_rfl⟩
   . cases h;exact⟨Tryz.f85,Tryz.func85,Yxz,Tryz.f85,Tryz.func85,by kernel_rfl,by kernel_rfl⟩
   . cases h
theorem YeP{k:SV->List HO->Prop}{al:Bool}{hp:List HO}{κ κ':IntKind}{x e:Int}{b:Bool}(h:k (.tup [.int κ x,.bool b,.int κ' e]) []):Yy al k (.tup [.int κ x,.bool b,.int κ' e]) hp:=
 YD (show k _ []from h) (Yw (.tup [.int κ x,.bool b,.int κ' e]) ⟨trivial,trivial,trivial,trivial⟩) (fun _=>by simp [Yj,Yk])
theorem Yxe:prodC.ok YGY 74:=by
 refine Yb Tryz.func74 YGt YB2 800 prodC fun args k h=>?_
 simp only[prodC]at h
 split at h
 . rename_i s tt z n sz get den
   obtain⟨l,⟨⟨rfl,rfl,hg⟩,hn1,hnb⟩,h⟩:=h
   refine⟨[.int .i64 s,.vs tt z l.length 2 (fun k=>enc2 (l.getD k default)),.int .i64 den],⟨⟨rfl,rfl⟩,⟨id,rfl,rfl,rfl,hg⟩,⟨rfl,rfl⟩,trivial⟩,?_⟩
   dsimp only[v74,Yuh,chkTC,enc2,go_sem,reduceIte,YGU]
   simp only[Yc,YGU,YGW,reduceCtorEq,YGV]
   refine⟨l,⟨⟨rfl,rfl,fun k _=>Yd _⟩,by omega⟩,fun hh=>by rw[Yb9,if_pos hh]at h;exact YeP h,fun hchk=>?_⟩
   obtain⟨hl,hn⟩:=YmT hchk
   rw[Yb9,if_neg (by rw[hchk];decide)]at h
   refine⟨fun hh=>?_,fun hb=>?_⟩
   . rw[if_pos (show YjF s den=true by rw[YjF];simpa [Bool.or_assoc]using hh)]at h
     exact YeP h
   have hb:YjF s den=false:=by rw[YjF];simpa [Bool.or_assoc]using hb
   rw[if_neg (by rw[hb];decide)]at h
   obtain⟨hs,hd⟩:=Yyi hb
   have hnd:IntKind.i64.wrap (0-den)= -den:=by rw[YGZ _ (by omega)];omega
   refine⟨⟨by unfold Yah;omega,by decide,⟨by unfold Yah;omega,fun k hk=>?_⟩,?_⟩,by decide,by unfold Yah;omega,⟨by unfold Yah;omega,fun k hk=>?_⟩,?_⟩
   all_goals (try exact Yks hk)
   all_goals
     dsimp only[YnD,YnF,v97,YnC,YnE,v96,YnB,signC,go_sem,reduceIte,YGU]
     simp only[Yc,YGU,YGW,reduceCtorEq,YGV]
     rw[hnd]
     simp only[YG0]
     have hK:(1:Int)<=1000000000001/\(1000000000001:Int)<=1000000000001:=by decide
     refine⟨fun _=>⟨⟨by omega,by omega⟩,by decide,⟨by decide,by unfold Yah;omega,fun k hk=>Yq7 hk,fun k hk=>Yks hk⟩,atF (l++[(s,den)]) den 1000000000001,fun _=>⟨Yyg,Yyh hl hs ⟨hd.1,hd.2⟩ hK,by omega⟩,fun hc=>?_,fun hc=>?_⟩,fun hh=>absurd hh (by decide)⟩
     . have hc:isF (l++[(s,den)]) den 1000000000001=true:=hc
       rw[Ytd,if_pos hc]at h
       exact YeP h
     . have hc:isF (l++[(s,den)]) den 1000000000001=false:=hc
       rw[Ytd,if_neg (by rw[hc];decide)]at h
       dsimp only[Yui,Yuk,v85,go_sem,reduceIte,YGU]
       simp only[Yc,YGU,YGW,reduceCtorEq,YGV]
       obtain⟨t,ht⟩:∃t,t=isF (l++[(s,den)]) den:=⟨_,rfl⟩
       obtain⟨R,hR⟩:∃R,R=bisL 64 t 0 1000000000001:=⟨_,rfl⟩
       rw[<-ht,<-hR]at h
       refine Loop.keep [2] (Nat×Int×Int) (fun s=>[(0,.int .i64 s.2.1),(1,.int .i64 s.2.2)]) (fun _=>[]) [] (fun s=>R=bisL s.1 t s.2.1 s.2.2/\0<=s.2.1/\s.2.1<s.2.2/\s.2.2<=1000000000001/\s.2.2-s.2.1<=2^s.1) (fun s=>s.1) ?_ ?_
       . refine⟨(64,0,1000000000001),⟨hR,by decide,by decide,by decide,by decide⟩,?_⟩
         dsimp only[go_sem,reduceIte,YGU]
         simp only[Ya]
         repeat' apply YHd
         all_goals first|decide| (intro k hk;first|exact Ywd hk|exact YAw hk|exact YAx hk)
       . rintro⟨f,lo,hi⟩ ⟨hf,b0,b1,b2,b3⟩
         dsimp only at hf b0 b1 b2 b3
         dsimp only[YnD,YnF,v97,YnC,YnE,v96,YnB,Yuj,signC,oneC,go_sem,reduceIte,YGU]
         simp only[Yc,YGU,YGW,reduceCtorEq,YGV]
         rw[hnd]
         simp only[YG0]
         have ed:IntKind.i64.wrap (hi-lo)=hi-lo:=YGZ _ (by omega)
         have e2:IntKind.i64.wrap ((hi-lo).tdiv 2)=(hi-lo)/2:=by
           rw[Int.tdiv_eq_ediv_of_nonneg (by omega),YGZ _ (by omega)]
         have e3:IntKind.i64.wrap (lo+(hi-lo)/2)=lo+(hi-lo)/2:=YGZ _ (by omega)
         rw[ed,e2,e3]
         refine⟨fun hc1=>?_,fun hc1=>?_⟩
         . obtain⟨m,hm⟩:∃m,m=lo+(hi-lo)/2:=⟨_,rfl⟩
           rw[<-hm]
           obtain⟨g,rfl⟩:∃g,f=g+1:=by
             cases f with
             |zero=>simp at b3;omega
             |succ g=>exact⟨g,rfl⟩
           rw[bisL,if_pos hc1,<-hm]at hf
           have b4:hi-lo<=2^g*2:=by rw[<-Int.pow_succ];exact b3
           have hm0:¬m=0:=by omega
           refine⟨by decide,fun _=>⟨⟨by omega,by omega⟩,by decide,⟨by decide,by unfold Yah;omega,fun k hk=>Yq7 hk,fun k hk=>Yks hk⟩,atF (l++[(s,den)]) den m,fun _=>⟨Yyg,Yyh hl hs ⟨hd.1,hd.2⟩ (by omega),by omega⟩,fun hd1=>?_,fun hd1=>?_⟩,fun hh=>absurd hh hm0⟩
           . have hd1:t m=true:=by rw[ht];exact hd1
             rw[if_pos hd1]at hf
             refine⟨(g,m,hi),⟨hf,by simp only;omega,by simp only;omega,b2,by simp only;omega⟩,by simp only;omega,?_⟩
             simp only[Ya]
             repeat' apply YHd
             all_goals first|decide| (intro k hk;first|exact Ywd hk|exact YAw hk|exact YAx hk)
           . have hd1:t m=false:=by rw[ht];exact hd1
             rw[if_neg (by rw[hd1];decide)]at hf
             refine⟨(g,lo,m),⟨hf,by simp only;omega,by simp only;omega,by simp only;omega,by simp only;omega⟩,by simp only;omega,?_⟩
             simp only[Ya]
             repeat' apply YHd
             all_goals first|decide| (intro k hk;first|exact Ywd hk|exact YAw hk|exact YAx hk)
         . have hRlo:R=lo:=by
             cases f with
             |zero=>exact hf
             |succ g=>rw[hf,bisL,if_neg hc1]
           subst hRlo
           refine⟨fun hp=>⟨⟨by omega,by omega⟩,by decide,⟨by decide,by unfold Yah;omega,fun k hk=>Yq7 hk,fun k hk=>Yks hk⟩,atF (l++[(s,den)]) den R,fun _=>⟨Yyg,Yyh hl hs ⟨hd.1,hd.2⟩ (by omega),by omega⟩,YeP h⟩,fun hp=>⟨fun hh=>absurd hh hp,?_⟩⟩
           rw[decide_eq_false hp,Bool.false_and]at h⊢
           exact YeP h
 . exact h.1.elim
def v55:VF:=⟨9,[.tmp 2],(ZR [u1 2 .mov [.cn (.bool false)]] (ZR [Zm 3 0,Zq 4 .geq 3 (-20000),Zm 5 4,Zg 6 5 true 0,u2 7 5 true (.cmp .leq) [.tm 6,.cn (.int .i64 50000)],u1 8 .and [.tm 5,.tm 7],Zm 2 8] .ret))⟩
theorem Yxx:Yf YGY Tryz.f55=some v55:=by kernel_rfl
def v52:VF:=⟨9,[.cell 4 true 2],(ZR [Zn 4] (ZR [Zm 5 0,u1 6 (.ari .add) [.cn (.int .i64 273150),.tm 5],Zm 7 1,u1 8 (.build [(.int .i64 0),(.int .i64 0)] [(0,1),(1,1)]) [.tm 6,.tm 7],Zs 2 4 8] .ret))⟩
theorem Yxw:Yf YGY Tryz.f52=some v52:=by kernel_rfl
def v50:VF:=⟨26,[.cell 6 true 2],(ZR [Zn 6] (ZR [Zm 11 0,Zm 12 2,Zm 13 1,u1 14 (.call 74) [.tm 11,.tm 12,.tm 13],Zm 10 14,Ze 15 0 10,Ze 16 1 10,Ze 17 2 10,Zm 7 15,Zm 8 16,Zm 9 17] (.seq (ZR [Zm 18 8] (ZC 18 (ZR [Zm 19 7,Zm 20 7,u1 21 (.build [(.int .i64 0),(.int .i64 0)] [(0,1),(1,1)]) [.tm 19,.tm 20],Zs 2 6 21] .ret) .skip)) (ZR [Zm 22 7,Zm 23 7,Zp 24 23 1,u1 25 (.build [(.int .i64 0),(.int .i64 0)] [(0,1),(1,1)]) [.tm 22,.tm 24],Zs 2 6 25] .ret))))⟩
theorem YGe:Yf YGY Tryz.f50=some v50:=by kernel_rfl
def v21:VF:=⟨13,[.cell 2 true 2,.tmp 3],(ZR [Zn 2,Zi 3 0] (.seq (ZR [Zm 4 0,Zc 5 55 4,u1 6 .not [.tm 5]] (ZC 6 (ZR [u1 7 (.build [(.int .i64 0),(.int .i64 0)] []) [],Zs 2 2 7,Zi 3 2] .ret) .skip)) (ZR [Zm 8 0,u1 9 (.call 52) [.tm 8,.cn (.int .i64 1)],u1 10 (.call 52) [.cn (.int .i64 0),.cn (.int .i64 (-1))],u1 11 (.buildSlice 2 2 [(.int .i64 0),(.int .i64 0)] [(0,2),(2,2)]) [.tm 9,.tm 10],u1 12 (.call 50) [.cn (.int .i64 331300000),.cn (.int .i64 2),.tm 11],Zs 2 2 12,Zi 3 0] .ret)))⟩
theorem YFS:Yf YGY Tryz.f21=some v21:=by kernel_rfl
def pspF(s:Int)(l:List (Int×Int))(den:Int):Int×Int:=if(Yb9 s l den).2.1=true then((Yb9 s l den).1,(Yb9 s l den).1)else((Yb9 s l den).1,IntKind.i64.wrap ((Yb9 s l den).1+1))
def pspC:Ctr:={ alias:=false,of:=fun l=>match l with
 | [.int .i64 s,.int .i64 den,.vs _ _ n sz get]=> .ex (List (Int×Int)) fun l=> .pre (lsP 2 enc2 n sz get l/\1<=n/\n<=1000000000000) (.fin (.agg [.int .i64 (pspF s l den).1,.int .i64 (pspF s l den).2]) [])
 |_=>noC}
def Yam(t:Int):Bool:=decide (-20000<=t)&&decide (t<=50000)
def Yal(t:Int):(Int×Int)×Int:=if Yam t=true then(pspF 331300000 [(273150+t,1),(273150, -1)] 2,0)else((0,0),2)
def speedC:Ctr:={ alias:=false,of:=fun l=>match l with
 | [.int .i64 t]=> .fin (.tup [.agg [.int .i64 (Yal t).1.1,.int .i64 (Yal t).1.2],.int .i64 (Yal t).2]) []
 |_=>noC}
theorem YfV{k:SV->List HO->Prop}{al:Bool}{hp:List HO}{x y:Int}(h:k (.agg [.int .i64 x,.int .i64 y]) []):Yy al k (.agg [.int .i64 x,.int .i64 y]) hp:=
 YD (show k _ []from h) (Yw (.agg [.int .i64 x,.int .i64 y]) ⟨trivial,trivial,trivial⟩) (fun _=>by simp [Yj,Yk])
theorem YdE{k:SV->List HO->Prop}{al:Bool}{hp:List HO}{x y e:Int}(h:k (.tup [.agg [.int .i64 x,.int .i64 y],.int .i64 e]) []):Yy al k (.tup [.agg [.int .i64 x,.int .i64 y],.int .i64 e]) hp:=
 YD (show k _ []from h) (Yw (.tup [.agg [.int .i64 x,.int .i64 y],.int .i64 e]) ⟨⟨trivial,trivial,trivial⟩,trivial,trivial⟩) (fun _=>by simp [Yj,Yk])
def RP0:Env:={ ct:=fun n=>match n with|74=>some prodC|_=>none,fn:=fun _=>none,meth:=fun _ _=>none}
theorem Yul:RP0.ct 74=some prodC:=rfl
theorem YB3:Yl YGY RP0:=by
 refine⟨fun f c h=>?_,fun f vf h=>?_,(fun _ _ _ h=>by cases h),by kernel_rfl,(fun _ h=>by cases h)⟩
 . simp only[RP0]at h
   split at h
   . cases h;exact⟨Yxe,Tryz.f74,Tryz.func74,by kernel_rfl,by kernel_rfl⟩
   . cases h
 . cases h
theorem YEy:pspC.ok YGY 50:=by
 refine Yb Tryz.func50 YGe YB3 200 pspC fun args k h=>?_
 simp only[pspC]at h
 split at h
 . rename_i s den tt z n sz get
   obtain⟨l,⟨⟨rfl,rfl,hg⟩,hn1,hn⟩,h⟩:=h
   refine⟨[.int .i64 s,.int .i64 den,.vs tt z l.length 2 (fun k=>enc2 (l.getD k default))],⟨⟨rfl,rfl⟩,⟨rfl,rfl⟩,⟨id,rfl,rfl,rfl,hg⟩,trivial⟩,?_⟩
   dsimp only[v50,Yul,prodC,enc2,go_sem,reduceIte,YGU]
   simp only[Yc,YGU,YGW,reduceCtorEq,YGV]
   refine⟨l,⟨⟨rfl,rfl,fun k _=>Yd _⟩,hn1,hn⟩,by decide,by decide,by decide,fun hc=>?_,fun hc=>?_⟩
   . rw[pspF,if_pos hc]at h;exact YfV h
   . rw[pspF,if_neg (by rw[hc];decide)]at h;exact YfV h
 . exact h.1.elim
def RP1:Env:={ ct:=fun n=>match n with|50=>some pspC|_=>none,fn:=fun n=>match n with|55=>some v55|52=>some v52|_=>none,meth:=fun _ _=>none}
theorem Yum:RP1.ct 50=some pspC:=rfl
theorem Yuo:RP1.ct 55=none:=rfl
theorem Yuq:RP1.fn 55=some v55:=rfl
theorem Yun:RP1.ct 52=none:=rfl
theorem Yup:RP1.fn 52=some v52:=rfl
theorem YB4:Yl YGY RP1:=by
 refine⟨fun f c h=>?_,fun f vf h=>?_,(fun _ _ _ h=>by cases h),by kernel_rfl,(fun _ h=>by cases h)⟩
 . simp only[RP1]at h
   split at h
   . cases h;exact⟨YEy,Tryz.f50,Tryz.func50,by kernel_rfl,by kernel_rfl⟩
   . cases h
 . simp only[RP1]at h
   split at h
   . cases h;exact⟨Tryz.f55,Tryz.func55,Yxx,Tryz.f55,Tryz.func55,by kernel_rfl,by kernel_rfl⟩
   . cases h;exact⟨Tryz.f52,Tryz.func52,Yxw,Tryz.f52,Tryz.func52,by kernel_rfl,by kernel_rfl⟩
   . cases h
theorem YAB:speedC.ok YGY 21:=by
 refine Yb Tryz.func21 YFS YB4 300 speedC fun args k h=>?_
 simp only[speedC]at h
 split at h
 . rename_i t
   refine⟨[.int .i64 t],by simp [leL,le],?_⟩
   dsimp only[v21,Yum,Yuo,Yuq,v55,Yun,Yup,v52,pspC,go_sem,reduceIte,YGU]
   simp only[Yc,YGU,YGW,reduceCtorEq,YGV]
   refine⟨fun hc=>?_,fun hc=>⟨by decide,[(273150+t,1),(273150, -1)],?_,?_⟩⟩
   . rw[Yal,if_neg (show¬Yam t=true from by rw[show Yam t=false from hc];decide)]at h
     exact YdE h
   . rw[YG2,decide_eq_true_eq,decide_eq_true_eq]at hc
     have e1:IntKind.i64.wrap (273150+t)=273150+t:=YGZ _ (by omega)
     have e2:IntKind.i64.wrap (273150+0)=273150:=by decide
     rw[e1,e2]
     refine⟨rfl,rfl,fun k hk=>?_⟩
     match k,hk with
     |0,_=>exact Yd _
     |1,_=>exact Yd _
   . rw[Yal,if_pos (show Yam t=true from hc)]at h
     exact YdE h
 . exact h.1.elim
abbrev Iv:=Int×Int
def YcD(x:Int):Bool:=decide (-4611686018427387904<=x)&&decide (x<=4611686018427387904)
def ivE(l:List Iv):Int:=if l.all (fun a=>YcD a.1&&YcD a.2)then(if l.all (fun a=>decide (a.1<=a.2))then 0 else 2)else 7
theorem Yzd{l:List Iv}{i:Nat}(h:i<l.length)(hb:(YcD (l.getD i default).1&&YcD (l.getD i default).2)=false):ivE l=7:=by
 rw[ivE,if_neg]
 intro hall
 have:=List.all_eq_true.1 hall _ (YI h)
 rw[hb]at this;cases this
theorem ivE_2{l:List Iv}(ha:∀j,j<l.length->(YcD (l.getD j default).1&&YcD (l.getD j default).2)=true){i:Nat}(h:i<l.length)(hb:(l.getD i default).2<(l.getD i default).1):ivE l=2:=by
 rw[ivE,if_pos,if_neg]
 . intro hall
   have:=List.all_eq_true.1 hall _ (YI h)
   simp only[decide_eq_true_eq]at this;omega
 . refine List.all_eq_true.2 fun x hx=>?_
   obtain⟨j,hj,rfl⟩:=YgU hx
   exact ha j hj
theorem ivE_0{l:List Iv}(ha:∀j,j<l.length->(YcD (l.getD j default).1&&YcD (l.getD j default).2)=true)(hb:∀j,j<l.length->(l.getD j default).1<=(l.getD j default).2):ivE l=0:=by
 rw[ivE,if_pos,if_pos]
 . refine List.all_eq_true.2 fun x hx=>?_
   obtain⟨j,hj,rfl⟩:=YgU hx
   simpa using hb j hj
 . refine List.all_eq_true.2 fun x hx=>?_
   obtain⟨j,hj,rfl⟩:=YgU hx
   exact ha j hj
theorem numOk_iff{x:Int}:YcD x=true↔ -4611686018427387904<=x/\x<=4611686018427387904:=by
 simp [YcD]
theorem ivE1{a:Iv}(h:ivE [a]=0):(-4611686018427387904<=a.1/\a.1<=4611686018427387904)/\(-4611686018427387904<=a.2/\a.2<=4611686018427387904)/\a.1<=a.2:=by
 unfold ivE at h
 split at h
 . rename_i h1
   split at h
   . rename_i h2
     simp only[List.all_cons,List.all_nil,Bool.and_true,YG2,decide_eq_true_eq]at h1 h2
     exact⟨numOk_iff.1 h1.1,numOk_iff.1 h1.2,h2⟩
   . cases h
 . cases h
theorem ivE2{a b:Iv}(h:ivE [a,b]=0):((-4611686018427387904<=a.1/\a.1<=4611686018427387904)/\(-4611686018427387904<=a.2/\a.2<=4611686018427387904)/\a.1<=a.2)/\(-4611686018427387904<=b.1/\b.1<=4611686018427387904)/\(-4611686018427387904<=b.2/\b.2<=4611686018427387904)/\b.1<=b.2:=by
 unfold ivE at h
 split at h
 . rename_i h1
   split at h
   . rename_i h2
     simp only[List.all_cons,List.all_nil,Bool.and_true,YG2,decide_eq_true_eq]at h1 h2
     exact⟨⟨numOk_iff.1 h1.1.1,numOk_iff.1 h1.1.2,h2.1⟩,numOk_iff.1 h1.2.1,numOk_iff.1 h1.2.2,h2.2⟩
   . cases h
 . cases h
def rndT(up:Bool)(x d:Int):Int:=if up then -((-x)/d)else x/d
def rndB(t:Int):Int×Bool:=if -4611686018427387904<=t/\t<=4611686018427387904 then(t,true)else(0,false)
def rndF(up:Bool)(x d:Int):Int×Bool:=rndB (rndT up x d)
def YaN(a b:Int×Bool):Iv×Int:=if a.2&&b.2 then((a.1,b.1),0)else((0,0),7)
def lowI(x:Int)(r:List Int):Int:=r.foldl (fun low y=>if y<low then y else low) x
def YbK(x:Int)(r:List Int):Int:=r.foldl (fun high y=>if high<y then y else high) x
def YdC(d:Int)(x:Int)(r:List Int):Iv×Int:=YaN (rndF false (lowI x r) d) (rndF true (YbK x r) d)
theorem YsH(x:Int):∀(r:List Int),lowI x r∈x::r/\∀y∈x::r,lowI x r<=y:=by
 intro r
 induction r generalizing x with
 |nil=>exact⟨YHh,fun y hy=>by simp at hy;subst hy;exact YHS _⟩
 |cons a r ih=>
   have e:lowI x (a::r)=lowI (if a<x then a else x) r:=rfl
   rw[e]
   obtain⟨h1,h2⟩:=ih (if a<x then a else x)
   have h3:=h2 _ YHh
   generalize lowI (if a<x then a else x) r=L at*
   refine⟨?_,fun y hy=>?_⟩
   . rcases YHx.1 h1 with h|h
     . rw[h];split <;> simp
     . simp [h]
   . rcases YHx.1 hy with rfl|hy
     . split at h3 <;> omega
     . rcases YHx.1 hy with rfl|hy
       . split at h3 <;> omega
       . exact h2 _ (YHg _ hy)
theorem Ypu(x:Int):∀(r:List Int),YbK x r∈x::r/\∀y∈x::r,y<=YbK x r:=by
 intro r
 induction r generalizing x with
 |nil=>exact⟨YHh,fun y hy=>by simp at hy;subst hy;exact YHS _⟩
 |cons a r ih=>
   have e:YbK x (a::r)=YbK (if x<a then a else x) r:=rfl
   rw[e]
   obtain⟨h1,h2⟩:=ih (if x<a then a else x)
   have h3:=h2 _ YHh
   generalize YbK (if x<a then a else x) r=L at*
   refine⟨?_,fun y hy=>?_⟩
   . rcases YHx.1 h1 with h|h
     . rw[h];split <;> simp
     . simp [h]
   . rcases YHx.1 hy with rfl|hy
     . split at h3 <;> omega
     . rcases YHx.1 hy with rfl|hy
       . split at h3 <;> omega
       . exact h2 _ (YHg _ hy)
def bump(up neg:Bool)(r:Nat):Nat:=if decide (r≠0)&&(up !=neg)then 1 else 0
theorem YAo{up:Bool}{x:Int}{d:Nat}(hd:0<d):rndT up x d=nsg (decide (x<0)) (x.natAbs/d+bump up (decide (x<0)) (x.natAbs%d)):=by
 have hm:=YHT x.natAbs hd
 have e:=YHH x.natAbs d
 have pos:∀n:Nat,(n:Int)/(d:Int)=((n/d:Nat):Int):=fun n=>(Int.natCast_ediv n d).symm
 have neg:∀n:Nat,(-(n:Int))/(d:Int)= -(((n/d+if n%d=0 then 0 else 1:Nat)):Int):=fun n=>by
   have e:=YHH n d
   have hm:=YHT n hd
   by_cases h0:n%d=0
   . rw[if_pos h0]
     have:(n:Int)=((n/d:Nat):Int)*(d:Int):=by
       have:n=n/d*d:=by rw[YG4];omega
       exact_mod_cast this
     conv=>lhs;rw[this,<-Int.neg_mul]
     rw[Int.mul_ediv_cancel _ (by omega)];simp
   . rw[if_neg h0]
     have hq:(n:Int)=(d:Int)*((n/d:Nat):Int)+((n%d:Nat):Int):=by exact_mod_cast e.symm
     apply Int.le_antisymm
     . apply Int.le_of_lt_add_one
       rw[Int.ediv_lt_iff_lt_mul (by omega)]
       conv=>lhs;rw[hq]
       have hm:((n%d:Nat):Int)>0:=by omega
       generalize n%d=m at*
       generalize n/d=q at*
       push_cast
       grind
     . rw[Int.le_ediv_iff_mul_le (by omega)]
       conv=>rhs;rw[hq]
       have hm:((n%d:Nat):Int)<d:=by omega
       generalize n%d=m at*
       generalize n/d=q at*
       push_cast
       grind
 obtain⟨n,hn⟩:∃n:Nat,n=x.natAbs:=⟨_,rfl⟩
 rw[<-hn]
 unfold rndT bump nsg
 by_cases hx:x<0
 . have ex:x= -(n:Int):=by omega
   cases up
   . simp only[hx,decide_true,if_true,YHm,if_false]
     rw[ex,neg n]
     by_cases h0:n%d=0 <;> simp [h0]
   . simp only[hx,decide_true,if_true,bne_self_eq_false,Bool.and_false,YHm,if_false]
     rw[ex,Int.neg_neg,pos n];simp
 . have ex:x=(n:Int):=by omega
   cases up
   . simp only[hx,decide_false,YHm,if_false,bne_self_eq_false,Bool.and_false]
     rw[ex,pos n];simp
   . simp only[hx,decide_false,YHm,if_false,if_true]
     rw[ex,neg n]
     by_cases h0:n%d=0 <;> simp [h0]
def YfC(v:Int):List SV:=[.bool (decide (v<0)),.int .u64 ((v.natAbs/18446744073709551616:Nat):Int),.int .u64 ((v.natAbs%18446744073709551616:Nat):Int)]
def YvL(x:Int)(n:Bool)(h l:Int):Prop:=n=decide (x<0)/\h=((x.natAbs/18446744073709551616:Nat):Int)/\l=((x.natAbs%18446744073709551616:Nat):Int)
theorem Yo(x:Int):YvL x (decide (x<0)) ((x.natAbs/18446744073709551616:Nat):Int) ((x.natAbs%18446744073709551616:Nat):Int):=⟨rfl,rfl,rfl⟩
def big(x:Int):Prop:=x.natAbs<340282366920938463463374607431768211456
def fitF(lo hi:Int):Iv×Int:=if YcD lo&&YcD hi then((lo,hi),0)else((0,0),7)
def errI(e:Int):Iv×Int:=((0,0),e)
def addF(a b:Iv):Iv×Int:=if ivE [a,b]≠0 then errI (ivE [a,b])else fitF (a.1+b.1) (a.2+b.2)
def subF(a b:Iv):Iv×Int:=if ivE [a,b]≠0 then errI (ivE [a,b])else addF a (-b.2, -b.1)
def mulF(a b:Iv):Iv×Int:=if ivE [a,b]≠0 then errI (ivE [a,b])else YdC 1 (a.1*b.1) [a.1*b.2,a.2*b.1,a.2*b.2]
def YiL(a b:Iv):Iv×Int:=YaN (rndF false a.1 (if a.1<0 then b.1 else b.2)) (rndF true a.2 (if a.2<0 then b.2 else b.1))
def quoF(a b:Iv):Iv×Int:=if ivE [a,b]≠0 then errI (ivE [a,b])else if b.1<=0/\0<=b.2 then errI 9 else if b.2<0 then YiL (-a.2, -a.1) (-b.2, -b.1)else YiL a b
def sclF(a:Iv)(num den:Int):Iv×Int:=if ivE [a]≠0 then errI (ivE [a])else if den<1\/4611686018427387904<den\/num< -4611686018427387904\/4611686018427387904<num then errI 2 else YdC den (a.1*num) [a.2*num]
def piF(a:Iv):Iv×Int:=if ivE [a]≠0 then errI (ivE [a])else YdC 1000000000000000000 (a.1*3141592653589793238) [a.1*3141592653589793239,a.2*3141592653589793238,a.2*3141592653589793239]
def YeO(n k:Nat):Nat:=Ycj (fun r=>decide (n<(r+1)^k)) (n+1) 0
def Yxm(n k:Nat):Nat:=if YeO n k^k<n then YeO n k+1 else YeO n k
def Ykw(a:Iv)(k:Int):Iv×Int:=if ivE [a]≠0 then errI (ivE [a])else if k<1\/62<k then errI 2 else if a.1<0 then errI 9 else(((YeO a.1.toNat k.toNat:Int),(Yxm a.2.toNat k.toNat:Int)),0)
theorem Ykx{n k r:Nat}(hk:0<k)(h1:r^k<=n)(h2:n<(r+1)^k):YeO n k=r:=by
 unfold YeO
 have hr:r<=n:=YHc (by
   cases r with
   |zero=>exact Nat.zero_le _
   |succ r=>exact YHc (YH2 (Nat.pow_one _).symm) (YHl (by omega) hk)) h1
 refine YhI (fun j hj=>?_) (by omega) fun _=>decide_eq_true h2
 refine decide_eq_false ?_
 have:=YHe (show j+1<=r by omega) k
 omega
theorem Ygc{n k:Nat}(hk:0<k):YeO n k^k<=n/\n<(YeO n k+1)^k:=by
 have ex:∀m:Nat,∃r,r^k<=m/\m<(r+1)^k:=by
   intro m
   induction m with
   |zero=>exact⟨0,by rw[Nat.zero_pow hk];omega,by simp⟩
   |succ m ih=>
     obtain⟨r,h1,h2⟩:=ih
     rcases YHE (m+1) ((r+1)^k)with h|h
     . exact⟨r,by omega,h⟩
     . refine⟨r+1,h,?_⟩
       have:(r+1)^k<(r+1+1)^k:=Nat.pow_lt_pow_left (by omega) (by omega)
       omega
 obtain⟨r,h1,h2⟩:=ex n
 rw[Ykx hk h1 h2]
 exact⟨h1,h2⟩
structure Bdy where
 kind:Int
 bottom:Int
 top:Int
 mouth:Int
 cut:Int
def inF(n a b:Int):Bool:=decide (a<=n)&&decide (n<=b)
def Yo7(b:Bdy):Bool:=if b.kind=3 then decide (b.top<b.bottom)else decide (b.top=b.bottom)
def chkB(b:Bdy):Int:=
 if(inF b.kind 1 3&&Yo7 b)=true then
   if(inF b.bottom 1000 500000&&inF b.top 1000 500000&&inF b.mouth 1 (IntKind.i64.wrap (4*b.bottom))&&inF b.cut 1 (IntKind.i64.wrap (4*b.bottom)))=true then 0 else 2
 else 2
def YhH(a b:Int):Int:=if a=0 then b else a
def Yiy(b:Bdy):Iv:=(Ykw (mulF (b.mouth,b.mouth) (b.cut,b.cut)).1 2).1
def YaB(b:Bdy):Iv:=(quoF (sclF (mulF (b.bottom,b.bottom) (b.bottom,b.bottom)).1 575 1000).1 (Yiy b)).1
def endF(b:Bdy):Iv:=if b.kind=2 then(0,0)else(sclF (b.top,b.top) 30665 100000).1
def Yao(b:Bdy):Iv:=(addF (YaB b) (endF b)).1
def YfF(b:Bdy):Int:=if b.kind=2 then 250 else 500
def wayF(b:Bdy)(t:Int):Iv×Int:=sclF (Yal t).1 (YfF b) 1
def begE(b:Bdy)(x:Iv)(least most t:Int):Int:=
 if chkB b≠0 then chkB b else if(Yal t).2≠0\/x.1<least\/x.2<x.1\/most<x.2 then 2 else 0
def Ycy(x:Iv)(e most:Int):Iv×Int:=if e≠0\/x.1<1\/most<x.2 then((0,0),7)else(x,0)
def lenF(b:Bdy)(x:Iv)(t:Int):Iv×Int:=
 if begE b x 1000 20000000 t≠0 then((0,0),begE b x 1000 20000000 t)
 else Ycy (subF (quoF (wayF b t).1 x).1 (Yao b)).1 (YhH (YhH (wayF b t).2 (quoF (wayF b t).1 x).2) (subF (quoF (wayF b t).1 x).1 (Yao b)).2) 12000000
def pitF(b:Bdy)(x:Iv)(t:Int):Iv×Int:=
 if begE b x 1 12000000 t≠0 then((0,0),begE b x 1 12000000 t)
 else Ycy (quoF (wayF b t).1 (addF x (Yao b)).1).1 (YhH (wayF b t).2 (quoF (wayF b t).1 (addF x (Yao b)).1).2) 200000000
theorem leE2{a b:Iv}(h:ivE [a,b]=0):a.1<=a.2/\b.1<=b.2:=by
 unfold ivE at h
 split at h
 . split at h
   . rename_i h2
     simp only[List.all_cons,List.all_nil,Bool.and_true,YG2,decide_eq_true_eq]at h2
     exact h2
   . cases h
 . cases h
theorem leE1{a:Iv}(h:ivE [a]=0):a.1<=a.2:=by
 unfold ivE at h
 split at h
 . split at h
   . rename_i h2
     simpa using h2
   . cases h
 . cases h
theorem Ye9{t:Int}(h:(rndB t).2=true):(rndB t).1=t:=by
 unfold rndB at h⊢
 split
 . rfl
 . rename_i hc;rw[if_neg hc]at h;cases h
theorem Yg1{a b:Int×Bool}(h:(YaN a b).2=0):(YaN a b).1=(a.1,b.1)/\a.2=true/\b.2=true:=by
 unfold YaN at h⊢
 split
 . rename_i hc
   rw[YG2]at hc
   exact⟨rfl,hc⟩
 . rename_i hc;rw[if_neg hc]at h;cases h
theorem YFs{a:Iv}{n:Int}(hn:0<=n)(h:(sclF a n 1).2=0):(sclF a n 1).1=(a.1*n,a.2*n)/\a.1<=a.2:=by
 unfold sclF at h⊢
 by_cases h1:ivE [a]≠0
 . rw[if_pos h1]at h;exact absurd h h1
 . rw[if_neg h1]at h⊢
   have hle:=leE1 (by simpa using h1)
   by_cases h2:(1:Int)<1\/4611686018427387904<(1:Int)\/n< -4611686018427387904\/4611686018427387904<n
   . rw[if_pos h2]at h;cases h
   . rw[if_neg h2]at h⊢
     unfold YdC at h⊢
     obtain⟨e,k1,k2⟩:=Yg1 h
     rw[e]
     have hm:a.1*n<=a.2*n:=YHj hle hn
     unfold rndF at k1 k2⊢
     rw[Ye9 k1,Ye9 k2]
     refine⟨?_,hle⟩
     simp only[rndT,lowI,YbK,YH5,List.foldl_nil,if_true,YHm,if_false,Int.ediv_one,Int.neg_neg]
     congr 1
     . split <;> omega
     . split <;> omega
theorem Ytk{a b:Iv}(ha:0<=a.1)(hb:0<b.1)(h:(quoF a b).2=0):(quoF a b).1=(a.1/b.2, -((-a.2)/b.1))/\a.1<=a.2/\b.1<=b.2:=by
 unfold quoF at h⊢
 by_cases h1:ivE [a,b]≠0
 . rw[if_pos h1]at h;exact absurd h h1
 . rw[if_neg h1]at h⊢
   obtain⟨l1,l2⟩:=leE2 (by simpa using h1)
   rw[if_neg (by omega),if_neg (by omega)]at h⊢
   unfold YiL at h⊢
   rw[if_neg (by omega),if_neg (by omega)]at h⊢
   obtain⟨e,k1,k2⟩:=Yg1 h
   rw[e]
   unfold rndF at k1 k2⊢
   rw[Ye9 k1,Ye9 k2]
   exact⟨rfl,l1,l2⟩
theorem YqU{a b:Iv}(h:(addF a b).2=0):(addF a b).1=(a.1+b.1,a.2+b.2)/\a.1<=a.2/\b.1<=b.2:=by
 unfold addF at h⊢
 by_cases h1:ivE [a,b]≠0
 . rw[if_pos h1]at h;exact absurd h h1
 . rw[if_neg h1]at h⊢
   obtain⟨l1,l2⟩:=leE2 (by simpa using h1)
   unfold fitF at h⊢
   split
   . exact⟨rfl,l1,l2⟩
   . rename_i hc;rw[if_neg hc]at h;cases h
theorem YFA{a b:Iv}(h:(subF a b).2=0):(subF a b).1=(a.1-b.2,a.2-b.1)/\a.1<=a.2/\b.1<=b.2:=by
 unfold subF at h⊢
 by_cases h1:ivE [a,b]≠0
 . rw[if_pos h1]at h;exact absurd h h1
 . rw[if_neg h1]at h⊢
   obtain⟨l1,l2⟩:=leE2 (by simpa using h1)
   obtain⟨e,_,_⟩:=YqU h
   rw[e]
   exact⟨by simp only[Prod.mk.injEq];omega,l1,l2⟩
theorem YwH(a b:Iv):(addF a b).1.1<=(addF a b).1.2/\(0<=a.1->0<=b.1->0<=(addF a b).1.1)/\((addF a b).2≠0->(addF a b).1=(0,0)):=by
 by_cases h:(addF a b).2=0
 . obtain⟨e,l1,l2⟩:=YqU h
   rw[e]
   exact⟨by simp only;omega,fun _ _=>by simp only;omega,fun hh=>absurd h hh⟩
 . have e:(addF a b).1=(0,0):=by
     unfold addF at h⊢
     split
     . rfl
     . rename_i h1;rw[if_neg h1]at h
       unfold fitF at h⊢
       split
       . rename_i h2;rw[if_pos h2]at h;exact absurd rfl h
       . rfl
   rw[e]
   exact⟨YHS _,fun _ _=>YHS _,fun _=>rfl⟩
theorem YtE{d x:Int}{r:List Int}(hd:0<d)(hx:0<=x)(hr:∀y,y∈r->0<=y):0<=(YdC d x r).1.1:=by
 by_cases h:(YdC d x r).2=0
 . unfold YdC at h⊢
   obtain⟨e,k1,k2⟩:=Yg1 h
   rw[e]
   unfold rndF at k1⊢
   rw[Ye9 k1]
   have key:∀(r:List Int)(x:Int),0<=x->(∀y,y∈r->0<=y)->0<=lowI x r:=fun r=>by
     induction r with
     |nil=>intro x hx _;exact hx
     |cons y r ih=>
       intro x hx hr
       unfold lowI
       rw[YH5]
       refine ih _ ?_ fun z hz=>hr z (YHg _ hz)
       split
       . exact hr y (YHh ..)
       . exact hx
   exact Int.ediv_nonneg (key r x hx hr) (Int.le_of_lt hd)
 . unfold YdC YaN at h⊢
   split
   . rename_i hc;rw[if_pos hc]at h;exact absurd rfl h
   . exact YHS _
theorem Yew{x:Int}(h0: -4611686018427387904<=x)(h1:x<=4611686018427387904):YcD x=true:=by
 unfold YcD;rw[decide_eq_true h0,decide_eq_true h1];rfl
theorem okE1{a:Iv}(h0: -4611686018427387904<=a.1)(h1:a.1<=a.2)(h2:a.2<=4611686018427387904):ivE [a]=0:=by
 rw[ivE,if_pos (by simp [Yew (x:=a.1) h0 (by omega),Yew (x:=a.2) (by omega) h2]),if_pos (by simpa using h1)]
theorem okE2{a b:Iv}(h0: -4611686018427387904<=a.1)(h1:a.1<=a.2)(h2:a.2<=4611686018427387904)(k0: -4611686018427387904<=b.1)(k1:b.1<=b.2)(k2:b.2<=4611686018427387904):ivE [a,b]=0:=by
 rw[ivE,if_pos (by simp [Yew (x:=a.1) h0 (by omega),Yew (x:=a.2) (by omega) h2,Yew (x:=b.1) k0 (by omega),Yew (x:=b.2) (by omega) k2]),if_pos (by simp [h1,k1])]
theorem Yds{t:Int}(h0: -4611686018427387904<=t)(h1:t<=4611686018427387904):rndB t=(t,true):=by rw[rndB,if_pos ⟨h0,h1⟩]
theorem Yl3{x y:Int}(hx:0<=x)(hx1:x<=2000000)(hy:0<=y)(hy1:y<=2000000):mulF (x,x) (y,y)=((x*y,x*y),0):=by
 have h0:0<=x*y:=YG7 hx hy
 have h1:x*y<=2000000*2000000:=YaG hx1 hy1 hx (by decide)
 rw[mulF,if_neg (by rw[okE2 (by simp only;omega) (YHS _) (by simp only;omega) (by simp only;omega) (YHS _) (by simp only;omega)];decide)]
 simp only[YdC,lowI,YbK,YH5,List.foldl_nil,Int.lt_irrefl,if_false,ite_self,rndF,rndT,if_true,YHm,Int.ediv_one,Int.neg_neg]
 rw[Yds (by omega) (by omega)]
 rfl
theorem Ytt{a:Iv}{n d:Int}(h0:0<=a.1)(h1:a.1<=a.2)(h2:a.2<=4000000000000)(hn:0<=n)(hn1:n<=100000)(hd:1<=d)(hd1:d<=100000):(sclF a n d).2=0:=by
 rw[sclF,if_neg (by rw[okE1 (by omega) h1 (by omega)];decide),if_neg (by omega)]
 have k1:a.1*n<=a.2*n:=YHj h1 hn
 have k0:0<=a.1*n:=YG7 h0 hn
 have k2:a.2*n<=4000000000000*100000:=YaG h2 hn1 (by omega) (by decide)
 have q:∀x:Int,0<=x->x<=400000000000000000->rndB (x/d)=(x/d,true)/\rndB (-((-x)/d))=(-((-x)/d),true):=fun x hx hx1=>by
   have m1:x/d<=x:=Int.ediv_le_self _ hx
   have m0:0<=x/d:=Int.ediv_nonneg hx (by omega)
   have m2: -x<=(-x)/d:=by
     rw[Int.le_ediv_iff_mul_le (by omega)]
     have:x*1<=x*d:=YHb hd hx
     rw[Int.neg_mul];omega
   have m3:(-x)/d<=0:=Int.ediv_nonpos_of_nonpos_of_neg (by omega) (by omega)
   exact⟨Yds (by omega) (by omega),Yds (by omega) (by omega)⟩
 unfold YdC rndF rndT
 simp only[lowI,YbK,YH5,List.foldl_nil,if_true,YHm,if_false]
 rw[(q _ (by split <;> omega) (by split <;> omega)).1,(q _ (by split <;> omega) (by split <;> omega)).2]
 rfl
theorem Yhq{b:Bdy}(h:chkB b=0):(1<=b.kind/\b.kind<=3)/\(1000<=b.bottom/\b.bottom<=500000)/\(1000<=b.top/\b.top<=500000)/\(1<=b.mouth/\b.mouth<=2000000)/\1<=b.cut/\b.cut<=2000000:=by
 unfold chkB at h
 split at h
 . rename_i h1
   split at h
   . rename_i h2
     simp only[inF,YG2,decide_eq_true_eq]at h1 h2
     obtain⟨⟨⟨b1,b2⟩,b3⟩,b4⟩:=h2
     rw[YGZ _ (by omega)]at b3 b4
     exact⟨h1.1,b1,b2,⟨b3.1,by omega⟩,b4.1,by omega⟩
   . cases h
 . cases h
theorem Yhm{t:Int->Bool}:∀(f:Nat)(a b:Int),a<b->a<=bisL f t a b/\bisL f t a b<b
 |0,a,b,h=>⟨YHS _,h⟩
 |f+1,a,b,h=>by
   rw[bisL]
   split
   . split
     . have:=Yhm (t:=t) f (a+(b-a)/2) b (by omega);omega
     . have:=Yhm (t:=t) f a (a+(b-a)/2) (by omega);omega
   . exact⟨YHS _,h⟩
theorem Yv1(s:Int)(l:List (Int×Int))(den:Int):0<=(Yb9 s l den).1/\(Yb9 s l den).1<=1000000000000:=by
 unfold Yb9
 split
 . exact⟨YHS _,by simp⟩
 . split
   . exact⟨YHS _,by simp⟩
   . unfold Ytd
     split
     . exact⟨YHS _,by simp⟩
     . have:=Yhm (t:=isF (l++[(s,den)]) den) 64 0 1000000000001 (by decide)
       simp only;omega
theorem YzX(s:Int)(l:List (Int×Int))(den:Int):0<=(pspF s l den).1/\(pspF s l den).1<=(pspF s l den).2/\(pspF s l den).2<=1000000000001:=by
 obtain⟨h0,h1⟩:=Yv1 s l den
 unfold pspF
 split
 . exact⟨h0,YHS _,by simp only;omega⟩
 . rw[YGZ _ (by omega)]
   simp only;omega
theorem Ymu(t:Int):0<=(Yal t).1.1/\(Yal t).1.1<=(Yal t).1.2/\(Yal t).1.2<=1000000000001:=by
 unfold Yal
 split
 . exact YzX _ _ _
 . decide
theorem Ymd(b:Bdy):0<=YfF b/\YfF b<=100000:=by unfold YfF;split <;> decide
theorem Yt2(b:Bdy)(t:Int):(wayF b t).2=0:=by
 obtain⟨h0,h1,h2⟩:=Ymu t
 obtain⟨p0,p1⟩:=Ymd b
 exact Ytt h0 h1 (by omega) p0 p1 (by decide) (by decide)
theorem Ypg(b:Bdy)(t:Int):0<=(wayF b t).1.1/\(wayF b t).1.1<=(wayF b t).1.2/\(wayF b t).1.2<=1000000000001*500:=by
 obtain⟨h0,h1,h2⟩:=Ymu t
 obtain⟨p0,p1⟩:=Ymd b
 have e:=(YFs p0 (Yt2 b t)).1
 have e:(wayF b t).1=((Yal t).1.1*YfF b,(Yal t).1.2*YfF b):=e
 rw[e]
 have hp:YfF b<=500:=by unfold YfF;split <;> decide
 exact⟨YG7 h0 p0,YHj h1 p0,YaG h2 hp (by omega) (by decide)⟩
theorem YER{a b:Iv}(h0:0<=a.1)(h1:a.1<=a.2)(h2:a.2<=4000000000000000)(k0:1<=b.1)(k1:b.1<=b.2)(k2:b.2<=4000000000000000):(quoF a b).2=0:=by
 have q:∀x d:Int,1<=d->0<=x->x<=400000000000000000->rndB (x/d)=(x/d,true)/\rndB (-((-x)/d))=(-((-x)/d),true):=fun x d hd hx hx1=>by
   have m1:x/d<=x:=Int.ediv_le_self _ hx
   have m0:0<=x/d:=Int.ediv_nonneg hx (by omega)
   have m2: -x<=(-x)/d:=by
     rw[Int.le_ediv_iff_mul_le (by omega)]
     have:x*1<=x*d:=YHb hd hx
     rw[Int.neg_mul];omega
   have m3:(-x)/d<=0:=Int.ediv_nonpos_of_nonpos_of_neg (by omega) (by omega)
   exact⟨Yds (by omega) (by omega),Yds (by omega) (by omega)⟩
 rw[quoF,if_neg (by rw[okE2 (by omega) h1 (by omega) (by omega) k1 (by omega)];decide),if_neg (by omega),if_neg (by omega)]
 unfold YiL rndF rndT
 rw[if_neg (show¬a.1<0 by omega),if_neg (show¬a.2<0 by omega)]
 simp only[if_true,YHm,if_false]
 rw[(q a.1 b.2 (by omega) h0 (by omega)).1,(q a.2 b.1 k0 (by omega) (by omega)).2]
 rfl
def Ynw(a b:Iv):Bool:=decide (b.1<=a.1)&&decide (a.2<=b.2)
theorem YlS{a b:Int}(h:YhH a b=0):a=0/\b=0:=by
 unfold YhH at h
 split at h
 . exact⟨‹_›,h⟩
 . exact absurd h ‹_›
theorem YrU{x:Iv}{e m:Int}(h:(Ycy x e m).2=0):e=0/\1<=x.1/\x.2<=m/\(Ycy x e m).1=x:=by
 unfold Ycy at h⊢
 split at h
 . cases h
 . rename_i hc
   rw[if_neg hc]
   exact⟨by omega,by omega,by omega,rfl⟩
theorem YDr(x:Iv)(e m:Int):(Ycy x e m).2≠2:=by
 unfold Ycy
 split <;> simp
theorem YCX{b:Bdy}{x:Iv}{least most t:Int}(h:begE b x least most t=0):chkB b=0/\(Yal t).2=0/\least<=x.1/\x.1<=x.2/\x.2<=most:=by
 unfold begE at h
 split at h
 . exact absurd h ‹_›
 . rename_i h1
   split at h
   . cases h
   . exact⟨by omega,by omega,by omega,by omega,by omega⟩
theorem YCZ{b:Bdy}{x:Iv}{least most t:Int}(h1:chkB b=0)(h2:(Yal t).2=0)(h3:least<=x.1)(h4:x.1<=x.2)(h5:x.2<=most):begE b x least most t=0:=by
 unfold begE
 rw[if_neg (by omega),if_neg (by omega)]
theorem YD1{b:Bdy}{x:Iv}{t:Int}(h:(lenF b x t).2=0):begE b x 1000 20000000 t=0/\lenF b x t=Ycy (subF (quoF (wayF b t).1 x).1 (Yao b)).1 (YhH (YhH (wayF b t).2 (quoF (wayF b t).1 x).2) (subF (quoF (wayF b t).1 x).1 (Yao b)).2) 12000000:=by
 unfold lenF at h⊢
 by_cases hb:begE b x 1000 20000000 t≠0
 . rw[if_pos hb]at h;exact absurd h hb
 . rw[if_neg hb];exact⟨by simpa using hb,rfl⟩
theorem Yri{b:Bdy}(h:chkB b=0):0<=(Yao b).1/\(Yao b).1<=(Yao b).2:=by
 obtain⟨_,⟨b0,b1⟩,⟨c0,c1⟩,⟨d0,d1⟩,e0,e1⟩:=Yhq h
 obtain⟨h1,h2,_⟩:=YwH (YaB b) (endF b)
 refine⟨h2 ?_ ?_,h1⟩
 . unfold YaB
   have hs:0<=(sclF (mulF (b.bottom,b.bottom) (b.bottom,b.bottom)).1 575 1000).1.1:=by
     unfold sclF
     split
     . exact YHS _
     . split
       . exact YHS _
       . rw[Yl3 (by omega) (by omega) (by omega) (by omega)]
         have hb0:0<=b.bottom*b.bottom:=YG7 (by omega) (by omega)
         refine YtE (by decide) (YG7 hb0 (by decide)) fun y hy=>?_
         rw[YHF]at hy
         rw[hy];exact YG7 hb0 (by decide)
   generalize(sclF (mulF (b.bottom,b.bottom) (b.bottom,b.bottom)).1 575 1000).1=A at hs⊢
   have ha:0<=(Yiy b).1:=by
     unfold Yiy Ykw
     split
     . exact YHS _
     . split
       . exact YHS _
       . split
         . exact YHS _
         . exact Int.natCast_nonneg _
   generalize Yiy b=B at ha⊢
   by_cases hq:(quoF A B).2=0
   . rcases Int.lt_or_le 0 B.1 with hB|hB
     . obtain⟨e,l1,l2⟩:=Ytk hs hB hq
       rw[e]
       exact Int.ediv_nonneg hs (by omega)
     . unfold quoF at hq⊢
       split
       . exact YHS _
       . rename_i h0
         obtain⟨l1,l2⟩:=leE2 (by simpa using h0)
         rw[if_pos (by omega)]
         exact YHS _
   . have:(quoF A B).1=(0,0):=by
       unfold quoF at hq⊢
       split
       . rfl
       . rename_i h0
         rw[if_neg h0]at hq
         split
         . rfl
         . rename_i h1'
           rw[if_neg h1']at hq
           have key:∀p q:Int×Bool,(YaN p q).2≠0->(YaN p q).1=(0,0):=fun p q hpq=>by
             unfold YaN at hpq⊢
             split
             . rename_i hc;rw[if_pos hc]at hpq;exact absurd rfl hpq
             . rfl
           split
           . rename_i h2';rw[if_pos h2']at hq;exact key _ _ hq
           . rename_i h2';rw[if_neg h2']at hq;exact key _ _ hq
     rw[this];exact YHS _
 . unfold endF
   split
   . exact YHS _
   . unfold sclF
     split
     . exact YHS _
     . split
       . exact YHS _
       . refine YtE (by decide) (YG7 (by omega) (by decide)) fun y hy=>?_
         rw[YHF]at hy
         rw[hy];exact YG7 (by simp only;omega) (by decide)
theorem YCR{b:Bdy}{x:Iv}{t:Int}(h:(lenF b x t).2=0):(pitF b (lenF b x t).1 t).2≠2/\((pitF b (lenF b x t).1 t).2=0->Ynw x (pitF b (lenF b x t).1 t).1=true):=by
 obtain⟨hb,e⟩:=YD1 h
 obtain⟨hc,hs,hx0,hx1,hx2⟩:=YCX hb
 rw[e]at h⊢
 obtain⟨he,l0,l1,e2⟩:=YrU h
 rw[e2]
 obtain⟨he,hsub⟩:=YlS he
 obtain⟨_,hquo⟩:=YlS he
 obtain⟨w0,w1,w2⟩:=Ypg b t
 obtain⟨k0,k1⟩:=Yri hc
 obtain⟨eq,_,_⟩:=Ytk w0 (by omega:0<x.1) hquo
 obtain⟨es,s1,s2⟩:=YFA hsub
 rw[es]at l0 l1⊢
 rw[eq]at l0 l1 s1⊢
 have hpit:∀y:Iv,begE b y 1 12000000 t=0->pitF b y t=Ycy (quoF (wayF b t).1 (addF y (Yao b)).1).1 (YhH (wayF b t).2 (quoF (wayF b t).1 (addF y (Yao b)).1).2) 200000000:=fun y hy=>by
   unfold pitF;rw[if_neg (by rw[hy];decide)]
 have hbeg:∀y:Iv,1<=y.1->y.1<=y.2->y.2<=12000000->begE b y 1 12000000 t=0:=fun y g1 g2 g3=>YCZ hc hs g1 g2 g3
 generalize wayF b t=W at*
 obtain⟨⟨W0,W1⟩,We⟩:=W
 generalize Yao b=B at*
 obtain⟨B1,B2⟩:=B
 obtain⟨x0,x1⟩:=x
 dsimp only at*
 have p1:=Int.ediv_mul_le W0 (by omega:x1≠0)
 have q1:=Int.ediv_mul_le (-W1) (by omega:x0≠0)
 obtain⟨p,hp⟩:∃p,p=W0/x1:=⟨_,rfl⟩
 obtain⟨q,hq⟩:∃q,q= -(-W1/x0):=⟨_,rfl⟩
 have q2:W1<=q*x0:=by rw[hq,Int.neg_mul];omega
 rw[<-hp]at p1 l0 s1⊢
 rw[<-hq]at l1 s1⊢
 have hb':=hbeg (p-B2,q-B1) l0 (by simp only;omega) l1
 rw[hpit _ hb']
 refine⟨YDr _ _ _,fun h0=>?_⟩
 obtain⟨he',f0,f1,e3⟩:=YrU h0
 rw[e3]
 obtain⟨_,hq'⟩:=YlS he'
 by_cases ha:(addF (p-B2,q-B1) (B1,B2)).2=0
 . obtain⟨ea,a1,a2⟩:=YqU ha
   rw[ea]at hq'⊢
   obtain⟨er,_,_⟩:=Ytk w0 (by simp only;omega) hq'
   rw[er]
   unfold Ynw
   simp only
   have hD:0<=B2-B1:=by omega
   have r1:W0/(q-B1+B2)<=x0:=by
     refine Int.ediv_le_of_le_mul (by omega) ?_
     have:x0*(q-B1+B2)=q*x0+x0*(B2-B1):=by rw[YH9 q,<-Int.mul_add];congr 1;omega
     have h2:0<=x0*(B2-B1):=YG7 (by omega) hD
     omega
   have r2: -W1/(p-B2+B1)<= -x1:=by
     refine Int.ediv_le_of_le_mul (by omega) ?_
     have: -x1*(p-B2+B1)= -(p*x1)+x1*(B2-B1):=by rw[show p-B2+B1=p-(B2-B1)by omega,Int.neg_mul,Int.mul_sub,YH9 x1 p];omega
     have h2:0<=x1*(B2-B1):=YG7 (by omega) hD
     omega
   rw[decide_eq_true r1,decide_eq_true (by omega:x1<= -(-W1/(p-B2+B1)))]
   rfl
 . have e0:=(YwH (p-B2,q-B1) (B1,B2)).2.2 ha
   rw[e0]at hq'
   have:(quoF (W0,W1) (0,0)).2≠0:=by
     unfold quoF
     split
     . rename_i h9;exact h9
     . rw[if_pos (by simp)];decide
   exact absurd hq' this
def cdiv(x d:Nat):Nat:=if x/d*d<x then x/d+1 else x/d
theorem YbI(x d:Nat)(hd:0<d):x<=cdiv x d*d:=by
 have h:=YHH x d
 have h2:=YHT x hd
 rw[YG4]at h
 unfold cdiv
 split
 . rw[YHr,YHN];omega
 . omega
theorem YaV{x d k:Nat}(h:x<=k*d):cdiv x d<=k:=by
 unfold cdiv
 rcases YHR d with h0|h0
 . subst h0
   simp only[Nat.mul_zero,Nat.div_zero]at*
   split <;> omega
 split
 . rename_i h1
   rw[Nat.lt_iff_add_one_le]at*
   refine Nat.lt_of_mul_lt_mul_right (a:=d) ?_
   omega
 . exact Nat.div_le_of_le_mul (by rw[YG4];exact h)
theorem Yst(x d:Nat):x/d<=cdiv x d:=by
 unfold cdiv
 split <;> omega
theorem Yeo{x y d:Nat}(h:x<=y):x/d<=cdiv y d:=YHc (Nat.div_le_div_right h) (Yst y d)
theorem Yrn{x d:Nat}(hd:0<d):cdiv (cdiv x d) 2=cdiv x (d*2):=by
 refine Nat.le_antisymm (YaV (YaV ?_)) (YaV ?_)
 . have:=YbI x (d*2) (by omega)
   rw[YG6,YG4 2 d];exact this
 . have h1:=YbI x d hd
   have h2:=YG3 d (YbI (cdiv x d) 2 (by decide))
   rw[YG4 d 2,<-YG6];omega
def gl(M:Nat)(t:Bool):Nat->Nat->Nat->Nat->Nat×Nat
 |0,_,_,S=>(S,S+1)
 |f+1,A,B,S=>
   if A*A/M<2*M then
     if cdiv (B*B) M<2*M then gl M t f (A*A/M) (cdiv (B*B) M) (2*S)
     else(S*2^(f+1),(S+1)*2^(f+1))
   else
     if(t&&decide (2*M<=cdiv (cdiv (B*B) M) 2))=true then(S*2^(f+1),(S+1)*2^(f+1))
     else gl M t f (A*A/M/2) (cdiv (cdiv (B*B) M) 2) (2*S+1)
theorem YhB(M:Nat)(t:Bool):∀(f A B S:Nat),S*2^f<=(gl M t f A B S).1/\(gl M t f A B S).2<=(S+1)*2^f
 |0,A,B,S=>by simp [gl]
 |f+1,A,B,S=>by
   have e1:∀x,x*2^(f+1)=x*2*2^f:=fun x=>by rw[YHo,YG6,YG4 2 (2^f)]
   have m:∀x y,x<=y->x*2^f<=y*2^f:=fun x y h=>YG3 _ h
   rw[gl]
   split
   . split
     . obtain⟨h1,h2⟩:=YhB M t f (A*A/M) (cdiv (B*B) M) (2*S)
       rw[e1,e1]
       exact⟨YHc (m _ _ (by omega)) h1,YHc h2 (m _ _ (by omega))⟩
     . exact⟨YG8 _,YG8 _⟩
   . split
     . exact⟨YG8 _,YG8 _⟩
     . obtain⟨h1,h2⟩:=YhB M t f (A*A/M/2) (cdiv (cdiv (B*B) M) 2) (2*S+1)
       rw[e1,e1]
       exact⟨YHc (m _ _ (by omega)) h1,YHc h2 (m _ _ (by omega))⟩
theorem Yxq{P A N M A1:Nat}(hM:0<M)(h:P*A<=N*M)(h1:A1*M<=A*A):P*P*A1<=N*N*M:=by
 refine YHp (c:=M) ?_ hM
 have k1:P*P*(A1*M)<=P*P*(A*A):=YG5 _ h1
 have k2:(P*A)*(P*A)<=(N*M)*(N*M):=YHi h h
 have e1:P*P*A1*M=P*P*(A1*M):=YG6 ..
 have e2:P*P*(A*A)=(P*A)*(P*A):=by simp only[YG6,YHw]
 have e3:(N*M)*(N*M)=N*N*M*M:=by simp only[YG6,YHw]
 omega
theorem YtI{P B N M B1:Nat}(hM:0<M)(h:N*M<=P*B)(h1:B*B<=B1*M):N*N*M<=P*P*B1:=by
 refine YHp (c:=M) ?_ hM
 have k1:P*P*(B*B)<=P*P*(B1*M):=YG5 _ h1
 have k2:(N*M)*(N*M)<=(P*B)*(P*B):=YHi h h
 have e1:P*P*B1*M=P*P*(B1*M):=YG6 ..
 have e2:P*P*(B*B)=(P*B)*(P*B):=by simp only[YG6,YHw]
 have e3:(N*M)*(N*M)=N*N*M*M:=by simp only[YG6,YHw]
 omega
theorem Yd7(S:Nat):2^(2*S)=2^S*2^S:=by rw[<-YHa];congr 1;omega
theorem YoL(N f:Nat):N^(2^(f+1))=(N*N)^(2^f):=by
 rw[YHo,YG4 (2^f) 2,YHf,Nat.pow_two]
theorem Yj5(M:Nat)(t:Bool)(hM:0<M):∀(f A B S N:Nat),2^S*A<=N*M->N*M<=2^S*B->M<=A->B<=2*M->2^(gl M t f A B S).1<=N^(2^f)/\N^(2^f)<=2^(gl M t f A B S).2:=by
 have stop:∀(f A B S N:Nat),2^S*A<=N*M->N*M<=2^S*B->M<=A->B<=2*M->2^S<=N/\N<=2^(S+1):=by
   intro f A B S N h1 h2 ha hb
   constructor
   . refine YHp (c:=M) ?_ hM
     have:=YG5 (2^S) ha
     omega
   . refine YHp (c:=M) ?_ hM
     have:=YG5 (2^S) hb
     rw[YHo,YG6]
     omega
 have stop2:∀(f S N:Nat),2^S<=N/\N<=2^(S+1)->2^(S*2^f)<=N^(2^f)/\N^(2^f)<=2^((S+1)*2^f):=fun f S N h=>by
   rw[YHf,YHf]
   exact⟨YHe h.1 _,YHe h.2 _⟩
 intro f
 induction f with
 |zero=>
   intro A B S N h1 h2 ha hb
   have:=stop 0 A B S N h1 h2 ha hb
   simpa [gl]using this
 |succ f ih=>
   intro A B S N h1 h2 ha hb
   have hs:=stop2 (f+1) S N (stop f A B S N h1 h2 ha hb)
   have hA:A*A/M*M<=A*A:=YHU _ _
   have hB:B*B<=cdiv (B*B) M*M:=YbI _ _ hM
   have k1:=Yxq hM h1 hA
   have k2:=YtI hM h2 hB
   have hA1:M<=A*A/M:=(YHI hM).2 (YHi ha ha)
   have hB1:cdiv (B*B) M<=4*M:=YaV (by
     have:=YHi hb hb
     have e:4*M*M=2*M*(2*M):=by rw[Nat.mul_mul_mul_comm,YG6]
     omega)
   rw[gl,YoL]
   rw[YoL]at hs
   split
   . split
     . refine ih _ _ _ _ ?_ ?_ hA1 (by omega)
       . rw[Yd7];exact k1
       . rw[Yd7];exact k2
     . exact hs
   . rename_i hge
     split
     . exact hs
     . have hB2:cdiv (B*B) M<=cdiv (cdiv (B*B) M) 2*2:=YbI _ _ (by decide)
       have hA2:A*A/M/2*2<=A*A/M:=YHU _ _
       have e3:∀x,2^(2*S+1)*x=2^S*2^S*(x*2):=fun x=>by rw[YHo,Yd7,YG6,YG4 2 x]
       refine ih _ _ _ _ ?_ ?_ (by omega) (YaV (by omega))
       . rw[e3]
         exact YHc (YG5 _ hA2) k1
       . rw[e3]
         exact YHc k2 (YG5 _ hB2)
theorem YlI(M E:Nat)(t:Bool)(hM:0<M)(hE:0<E)(g:Nat):∀(f A B S A' B':Nat),E*A<=A'->A'<=B'->B'<=E*B->
   (gl M t f A B S).1*2^g<=(gl (M*E) false (f+g) A' B' S).1/\(gl (M*E) false (f+g) A' B' S).2<=(gl M t f A B S).2*2^g:=by
 intro f
 induction f with
 |zero=>
   intro A B S A' B' _ _ _
   have:=YhB (M*E) false (0+g) A' B' S
   simpa [gl]using this
 |succ f ih=>
   intro A B S A' B' ha hab hb
   have stop:S*2^(f+1)*2^g<=(gl (M*E) false (f+1+g) A' B' S).1/\(gl (M*E) false (f+1+g) A' B' S).2<=(S+1)*2^(f+1)*2^g:=by
     have:=YhB (M*E) false (f+1+g) A' B' S
     rw[YG6,YG6,<-YHa]
     exact this
   have hME:0<M*E:=YHX hM hE
   have q1:E*(A*A/M)<=A'*A'/(M*E):=by
     rw[YHI hME]
     have h1:A*A/M*M<=A*A:=YHU _ _
     have h2:=YG5 (E*E) h1
     have h3:=YHi ha ha
     have e1:E*(A*A/M)*(M*E)=E*E*(A*A/M*M):=by simp only[YG6,YHw,YG4]
     have e2:E*A*(E*A)=E*E*(A*A):=by simp only[YG6,YHw,YG4]
     omega
   have q2:cdiv (B'*B') (M*E)<=E*cdiv (B*B) M:=YaV (by
     have h1:B*B<=cdiv (B*B) M*M:=YbI _ _ hM
     have h2:=YG5 (E*E) h1
     have h3:=YHi hb hb
     have e1:E*cdiv (B*B) M*(M*E)=E*E*(cdiv (B*B) M*M):=by simp only[YG6,YHw,YG4]
     have e2:E*B*(E*B)=E*E*(B*B):=by simp only[YG6,YHw,YG4]
     omega)
   have q3:A'*A'/(M*E)<=cdiv (B'*B') (M*E):=Yeo (YHi hab hab)
   have e2M:2*(M*E)=E*(2*M):=by rw[<-YG6,YG4]
   by_cases c1:A*A/M<2*M
   . by_cases c2:cdiv (B*B) M<2*M
     . have d2:cdiv (B'*B') (M*E)<2*(M*E):=by
         rw[e2M]
         exact YHG q2 (Nat.mul_lt_mul_of_pos_left c2 hE)
       have d1:A'*A'/(M*E)<2*(M*E):=by omega
       rw[show f+1+g=(f+g)+1 by omega,gl,if_pos c1,if_pos c2,gl,if_pos d1,if_pos d2]
       exact ih _ _ _ _ _ q1 q3 q2
     . rw[gl.eq_def M t (f+1)]
       simp only
       rw[if_pos c1,if_neg c2]
       exact stop
   . have d1:¬A'*A'/(M*E)<2*(M*E):=by
       have:E*(2*M)<=E*(A*A/M):=YG5 _ (by omega)
       omega
     by_cases c2:(t&&decide (2*M<=cdiv (cdiv (B*B) M) 2))=true
     . rw[gl.eq_def M t (f+1)]
       simp only
       rw[if_neg c1,if_pos c2]
       exact stop
     . rw[show f+1+g=(f+g)+1 by omega,gl,if_neg c1,if_neg c2,gl,if_neg d1,if_neg (by simp)]
       refine ih _ _ _ _ _ ?_ (Yeo q3) (YaV ?_)
       . rw[YHI (by decide)]
         have h1:A*A/M/2*2<=A*A/M:=YHU _ _
         have h2:=YG5 E h1
         rw[YG6];omega
       . have h1:cdiv (B*B) M<=cdiv (cdiv (B*B) M) 2*2:=YbI _ _ (by decide)
         have h2:=YG5 E h1
         rw[YG6];omega
theorem YhF(a:Nat):hiW (a:Int)=((a*a/18446744073709551616:Nat):Int):=by
 show(a:Int)*a/18446744073709551616=_
 rw[Int.natCast_ediv,YHZ];rfl
theorem Ym3(a:Nat):loW (a:Int)=((a*a%18446744073709551616:Nat):Int):=by
 show(a:Int)*a%18446744073709551616=_
 rw[Int.natCast_emod,YHZ];rfl
theorem YkG(x:Nat):sr63 (x:Int)=((x/9223372036854775808:Nat):Int):=Ycr (s:=63) (by decide)
theorem Yni(x:Nat):sl1 (x:Int)=((x*2%18446744073709551616:Nat):Int):=by
 show IntKind.u64.wrap ((x:Int)*2^min (Int.toNat 1) 64)=_
 rw[show(2:Int)^min (Int.toNat 1) 64=2 from rfl,Yno,Int.natCast_emod,YHZ];rfl
theorem YyH{M x:Nat}(hM:0<M):x/(2*M)*2+x%(2*M)/M=x/M:=by
 have e1:x/(2*M)=x/M/2:=by rw[YG4,YHK]
 have e2:x%(2*M)/M=x/M%2:=by
   rw[YG4,Nat.mod_mul_right_div_self]
 rw[e1,e2];omega
theorem Yxa{h b:Nat}(hb:b<2):(h*2||| b)=h*2+b:=by
 have:=Nat.two_pow_add_eq_or_of_lt (i:=1) (b:=b) (by simpa using hb) h
 rw[Nat.pow_one]at this
 rw[YG4 h 2,this]
theorem Yoa{a:Nat}(ha:a*a<18446744073709551616*9223372036854775808):dblW (hiW (a:Int)) (loW (a:Int))=((a*a/9223372036854775808:Nat):Int):=by
 show bitI .or .u64 (sl1 (hiW (a:Int))) (sr63 (loW (a:Int)))=_
 rw[YhF,Ym3,Yni,YkG]
 generalize a*a=x at*
 have h1:x/18446744073709551616<9223372036854775808:=Nat.div_lt_of_lt_mul ha
 have h2:x%18446744073709551616/9223372036854775808<2:=Nat.div_lt_of_lt_mul (YHT _ (by decide))
 have h3:=YyH (M:=9223372036854775808) (x:=x) (by decide)
 rw[show 2*9223372036854775808=18446744073709551616 from rfl]at h3
 generalize x/18446744073709551616=h at*
 generalize x%18446744073709551616/9223372036854775808=l at*
 rw[Nat.mod_eq_of_lt (by omega),YuY (by omega) (by omega),Yxa h2,h3]
theorem YiE{x d:Nat}(hd:0<d)(h:x%d=0):cdiv x d=x/d:=by
 unfold cdiv
 rw[if_neg]
 have:=YHH x d
 rw[YG4]at this
 omega
theorem Ylm{x d:Nat}(hd:0<d)(h:x%d≠0):cdiv x d=x/d+1:=by
 unfold cdiv
 rw[if_pos]
 have:=YHH x d
 rw[YG4]at this
 omega
theorem YvS{x M:Nat}(hM:0<M):x%(2*M)*2%(2*M)=x%M*2:=by
 have e:x%(2*M)%M=x%M:=Nat.mod_mul_left_mod ..
 rw[<-e]
 generalize x%(2*M)=y at*
 rw[YG4 y 2,Nat.mul_mod_mul_left,YG4]
theorem YtB(b:Nat):(0<sl1 (loW (b:Int)))↔b*b%9223372036854775808≠0:=by
 rw[Ym3,Yni]
 have h:=YvS (x:=b*b) (M:=9223372036854775808) (by decide)
 rw[show 2*9223372036854775808=18446744073709551616 from rfl]at h
 rw[h]
 omega
theorem YFJ{z:Nat}(h:z<18446744073709551616):(IntKind.u64.wrap ((z:Int)+1)=0↔z+1=18446744073709551616)/\(z+1<18446744073709551616->IntKind.u64.wrap ((z:Int)+1)=((z+1:Nat):Int)):=by
 rw[Yno]
 constructor <;> omega
theorem bitS{S b:Nat}(hS:S<9223372036854775808)(hb:b<2):bitI .or .u64 (sl1 (S:Int)) ((b:Nat):Int)=((2*S+b:Nat):Int):=by
 rw[Yni,Nat.mod_eq_of_lt (by omega),YuY (by omega) (by omega),Yxa hb,YG4]
theorem YkD{S f:Nat}(hf:f<=64)(h:S*2^f<18446744073709551616):shW (S:Int) f=((S*2^f:Nat):Int):=Yge hf h
theorem uS{S:Nat}(hS:S<18446744073709551615):IntKind.u64.wrap ((S:Int)+1)=((S+1:Nat):Int):=by rw[YHt _ (by omega)];rfl
def Yrm(p:Nat×Nat):Int×Int:=((p.1:Int),(p.2:Int))
theorem Ytj:∀(f S a b:Nat),f<=28->S<2^(34-f)->9223372036854775808<=a->a<=b->b<18446744073709551616->
   YaU f (S:Int) (a:Int) (b:Int)=Yrm (gl 9223372036854775808 true f a b S):=by
 intro f
 induction f with
 |zero=>
   intro S a b _ hS _ _ _
   rw[show(2:Nat)^(34-0)=17179869184 from rfl]at hS
   rw[YaU,gl,Yrm,uS (by omega)]
 |succ f ih=>
   intro S a b hf hS ha hab hb
   have e34:(2:Nat)^(34-f)=2*2^(34-(f+1)):=by rw[show 34-f=34-(f+1)+1 by omega,YHo,YG4]
   have hS2:S<17179869184:=YHM hS (by rw[show 17179869184=2^34 from rfl];exact YHl (by decide) (by omega))
   have stop:(shW (S:Int) (f+1),shW (IntKind.u64.wrap ((S:Int)+1)) (f+1))=Yrm (S*2^(f+1),(S+1)*2^(f+1)):=by
     have hp:(2:Nat)^(34-(f+1))*2^(f+1)=17179869184:=by rw[<-YHa,show 34-(f+1)+(f+1)=34 by omega]
     have h1:S*2^(f+1)<=2^(34-(f+1))*2^(f+1):=YG3 _ (Nat.le_of_lt hS)
     have h2:(S+1)*2^(f+1)<=2^(34-(f+1))*2^(f+1):=YG3 _ hS
     rw[uS (by omega),YkD (by omega) (by omega),YkD (by omega) (by omega)];rfl
   have haa:9223372036854775808*9223372036854775808<=a*a:=YHi ha ha
   have hbb:b*b<18446744073709551616*18446744073709551616:=Nat.mul_lt_mul_of_lt_of_le hb (Nat.le_of_lt hb) (by decide)
   have hab2:a*a<=b*b:=YHi hab hab
   have kA:sr63 (hiW (a:Int))=((a*a/170141183460469231731687303715884105728:Nat):Int):=by rw[YhF,YkG,YHK]
   have kB:sr63 (hiW (b:Int))=((b*b/170141183460469231731687303715884105728:Nat):Int):=by rw[YhF,YkG,YHK]
   have hS0:=bitS (S:=S) (b:=0) (by omega) (by decide)
   have hS1:=bitS (S:=S) (b:=1) (by omega) (by decide)
   have eb:IntKind.u64.wrap (dblW (hiW (b:Int)) (loW (b:Int))+1)=IntKind.u64.wrap (dblW (hiW (b:Int)) (loW (b:Int))+1):=rfl
   rw[YaU,gl,kA,kB]
   by_cases c1:a*a<170141183460469231731687303715884105728
   . have z1:a*a/170141183460469231731687303715884105728=0:=Nat.div_eq_of_lt c1
     have c1':a*a/9223372036854775808<2*9223372036854775808:=Nat.div_lt_of_lt_mul c1
     have la:9223372036854775808<=a*a/9223372036854775808:=(YHI (by decide)).2 haa
     rw[if_pos c1',z1,if_pos (by rfl),Yoa c1,hS0]
     by_cases c2:b*b<170141183460469231731687303715884105728
     . have z2:b*b/170141183460469231731687303715884105728=0:=Nat.div_eq_of_lt c2
       have c2':b*b/9223372036854775808<18446744073709551616:=Nat.div_lt_of_lt_mul c2
       have hq:a*a/9223372036854775808<=b*b/9223372036854775808:=Nat.div_le_div_right hab2
       rw[z2,Yoa c2]
       obtain⟨u1,u2⟩:=YFJ c2'
       by_cases c3:b*b%9223372036854775808≠0
       . rw[if_pos ((YtB b).2 c3),Ylm (by decide) c3]
         by_cases c4:b*b/9223372036854775808+1=18446744073709551616
         . rw[if_pos (by rw[decide_eq_true (u1.2 c4)];simp),if_neg (by omega)]
           exact stop
         . rw[if_neg (by rw[decide_eq_false (fun h=>c4 (u1.1 h))];simp),if_pos (by omega),u2 (by omega)]
           exact ih _ _ _ (by omega) (by omega) la (by omega) (by omega)
       . rw[if_neg (fun h=>c3 ((YtB b).1 h)),YiE (by decide) (by omega)]
         rw[if_neg (by rw[decide_eq_false (show¬((b*b/9223372036854775808:Nat):Int)=0 by omega)];simp),if_pos (by omega)]
         exact ih _ _ _ (by omega) (by omega) la (by omega) (by omega)
     . have hz2:1<=b*b/170141183460469231731687303715884105728:=(YHI (by decide)).2 (by omega)
       have hc:¬cdiv (b*b) 9223372036854775808<2*9223372036854775808:=by
         have h1:=Yst (b*b) 9223372036854775808
         have h2:2*9223372036854775808<=b*b/9223372036854775808:=(YHI (by decide)).2 (by omega)
         omega
       have hk:(!decide (((0:Nat):Int)=((b*b/170141183460469231731687303715884105728:Nat):Int)))=true:=by
         rw[decide_eq_false (by omega)];rfl
       rw[if_neg hc,hk]
       simp only[Bool.true_or,if_true,ite_self]
       exact stop
   . have e1:a*a/170141183460469231731687303715884105728=1:=by
       have h1:1<=a*a/170141183460469231731687303715884105728:=(YHI (by decide)).2 (by omega)
       have h2:a*a/170141183460469231731687303715884105728<2:=Nat.div_lt_of_lt_mul (by omega)
       omega
     have e2:b*b/170141183460469231731687303715884105728=1:=by
       have h1:1<=b*b/170141183460469231731687303715884105728:=(YHI (by decide)).2 (by omega)
       have h2:b*b/170141183460469231731687303715884105728<2:=Nat.div_lt_of_lt_mul (by omega)
       omega
     have c1':¬a*a/9223372036854775808<2*9223372036854775808:=by
       have h2:2*9223372036854775808<=a*a/9223372036854775808:=(YHI (by decide)).2 (by omega)
       omega
     have ea:a*a/9223372036854775808/2=a*a/18446744073709551616:=by rw[YHK]
     have hal:9223372036854775808<=a*a/18446744073709551616:=(YHI (by decide)).2 (by omega)
     have hbl:9223372036854775808<=b*b/18446744073709551616:=(YHI (by decide)).2 (by omega)
     have hq:a*a/18446744073709551616<=b*b/18446744073709551616:=Nat.div_le_div_right hab2
     have hbu:b*b/18446744073709551616<18446744073709551616:=Nat.div_lt_of_lt_mul hbb
     rw[if_neg c1',e1,e2,if_neg (by decide),hS1,ea,Yrn (by decide),show 9223372036854775808*2=18446744073709551616 from rfl,YhF,YhF,Ym3]
     obtain⟨u1,u2⟩:=YFJ hbu
     by_cases c3:b*b%18446744073709551616≠0
     . rw[if_pos (by omega),Ylm (by decide) c3]
       by_cases c4:b*b/18446744073709551616+1=18446744073709551616
       . rw[if_pos (by rw[decide_eq_true (u1.2 c4)];simp),if_pos (by rw[decide_eq_true (show 18446744073709551616<=b*b/18446744073709551616+1 by omega)];rfl)]
         exact stop
       . rw[if_neg (by rw[decide_eq_false (fun h=>c4 (u1.1 h))];simp),if_neg (by rw[decide_eq_false (show¬18446744073709551616<=b*b/18446744073709551616+1 by omega)];simp),u2 (by omega)]
         exact ih _ _ _ (by omega) (by omega) hal (by omega) (by omega)
     . rw[if_neg (by omega),YiE (by decide) (by omega)]
       rw[if_neg (by rw[decide_eq_false (show¬((b*b/18446744073709551616:Nat):Int)=0 by omega)];simp),if_neg (by rw[decide_eq_false (show¬18446744073709551616<=b*b/18446744073709551616 by omega)];simp)]
       exact ih _ _ _ (by omega) (by omega) hal (by omega) (by omega)
def lgK(n:Nat):Nat:=Yq n-1
theorem YlX{n:Nat}(h:1<=n):2^lgK n<=n/\n<2^(lgK n+1):=by
 have h0:Yq n≠0:=fun e=>by have:=bitsN_eq0.1 e;omega
 unfold lgK
 constructor
 . refine Nat.le_of_not_lt fun hh=>?_
   have:=bitsN_le.2 hh
   omega
 . rw[show Yq n-1+1=Yq n by omega];exact Yfm n
theorem YdX{n m:Nat}(hm:0<m)(h:n<2^m):lgK n<m:=by
 have:=bitsN_le.2 h
 unfold lgK;omega
theorem Ykb{n:Nat}(h1:1<=n)(h2:n<4611686018427387904):YaY (n:Int)=true->n=2^lgK n:=by
 intro h
 unfold YaY at h
 have h:=of_decide_eq_true h
 have e:IntKind.i64.wrap ((n:Int)-1)=((n-1:Nat):Int):=by rw[YGZ _ (by omega)];omega
 rw[e]at h
 have h3:IntKind.i64.wrap ((BitVec.ofInt 64 (n:Int)&&&BitVec.ofInt 64 ((n-1:Nat):Int)).toNat:Int)=0:=h
 rw[BitVec.toNat_and,YcE (by omega),YcE (by omega)]at h3
 have hle:n&&&(n-1)<=n:=Nat.and_le_left
 rw[YGZ _ (by omega)]at h3
 have h4:n&&&(n-1)=0:=by omega
 obtain⟨b1,b2⟩:=YlX h1
 refine Nat.le_antisymm (Nat.le_of_not_lt fun hh=>?_) b1
 have t1:n.testBit (lgK n)=true:=by
   rw[Nat.testBit_eq_decide_div_mod_eq]
   have:n/2^lgK n=1:=by
     have g1:1<=n/2^lgK n:=(YHI (YHO (by decide))).2 (by omega)
     have g2:n/2^lgK n<2:=Nat.div_lt_of_lt_mul (by rw[<-YHo];exact b2)
     omega
   rw[this];rfl
 have t2:(n-1).testBit (lgK n)=true:=by
   rw[Nat.testBit_eq_decide_div_mod_eq]
   have:(n-1)/2^lgK n=1:=by
     have g1:1<=(n-1)/2^lgK n:=(YHI (YHO (by decide))).2 (by omega)
     have g2:(n-1)/2^lgK n<2:=Nat.div_lt_of_lt_mul (by rw[<-YHo];omega)
     omega
   rw[this];rfl
 have t3:(n&&&(n-1)).testBit (lgK n)=true:=by rw[Nat.testBit_and,t1,t2];rfl
 rw[h4,Nat.zero_testBit]at t3
 cases t3
def qN(n:Nat):Nat×Nat:=if YaY (n:Int)=true then(lgK n*2^28,lgK n*2^28)else gl 9223372036854775808 true 28 (n*2^(63-lgK n)) (n*2^(63-lgK n)) (lgK n)
def lN(n p:Nat):Nat×Nat:=if YaY (n:Int)=true then(lgK n*2^p,lgK n*2^p)else gl (2^(2*p+64)) false p (n*2^(2*p+64-lgK n)) (n*2^(2*p+64-lgK n)) (lgK n)
theorem mant{n D:Nat}(h1:1<=n)(hD:lgK n<=D):2^D<=n*2^(D-lgK n)/\n*2^(D-lgK n)<2*2^D/\2^lgK n*(n*2^(D-lgK n))=n*2^D:=by
 obtain⟨b1,b2⟩:=YlX h1
 have e:2^D=2^lgK n*2^(D-lgK n):=by rw[<-YHa];congr 1;omega
 refine⟨?_,?_,?_⟩
 . rw[e];exact YG3 _ b1
 . rw[e,<-YG6,<-Nat.pow_succ']
   exact Nat.mul_lt_mul_of_pos_right b2 (YHO (by decide))
 . rw[e,YHw]
theorem Yti{n:Nat}(h1:1<=n)(h2:n<4611686018427387904):Ybt (n:Int)=Yrm (qN n):=by
 have hk:lgK n<62:=YdX (by decide) h2
 unfold Ybt qN
 rw[YG0]
 by_cases c:YaY (n:Int)=true
 . rw[if_pos c,if_pos c]
   have e:shW ((Yq n-1:Nat):Int) 28=((lgK n*2^28:Nat):Int):=YkD (by decide) (by show lgK n*268435456<_;omega)
   have e:IntKind.u64.wrap (((Yq n-1:Nat):Int)*2^min (Int.toNat 28) 64)=((lgK n*2^28:Nat):Int):=e
   rw[e];rfl
 . rw[if_neg c,if_neg c]
   obtain⟨m1,m2,m3⟩:=mant (D:=63) h1 (by omega)
   have e:shW (n:Int) (63-(Yq n-1))=((n*2^(63-lgK n):Nat):Int):=YkD (by omega) (YHM m2 (by decide))
   rw[e]
   exact Ytj 28 (lgK n) _ _ (by decide) (by rw[show(2:Nat)^(34-28)=64 from rfl];omega) m1 (YG8 _) m2
theorem Yzo{e k:Nat}(h:e<=32*k):2^e<=4294967296^k:=by
 rw[Ygt]
 exact YHl (by decide) h
theorem YC7{x e k:Nat}(h:x<2^e)(he:e<=32*k):nl x<=k:=nl_le.2 (YHM h (Yzo he))
theorem Yhp{x e:Nat}(h:x<2^e)(he:e<=32*512):capF x=x:=by
 unfold capF
 rw[if_pos]
 exact YC7 (k:=512) h he
theorem Yo6(a d:Nat)(hd:0<d):shF a (-(d:Int))=a/2^d:=by
 unfold shF
 rw[if_pos (by omega),show(- -(d:Int)).toNat=d by omega]
theorem Yxn(a d:Nat):shF a (d:Int)=a*2^d:=by
 unfold shF
 rw[if_neg (by omega),YG0]
theorem YiV{a d e:Nat}(h:a*2^d<2^e)(he:e<=32*512):movW a (d:Int) false=a*2^d:=by
 unfold movW
 rw[Bool.false_and,if_neg (by decide),Yxn,Yhp h he]
theorem Yw4{a d e:Nat}(hd:0<d)(h:a<2^e)(he:e<=32*512):movW a (-(d:Int)) false=a/2^d:=by
 unfold movW
 rw[Bool.false_and,if_neg (by decide),Yo6 _ _ hd,Yhp (YHG (Nat.div_le_self _ _) h) he]
theorem YoD{a d e:Nat}(hd:0<d)(h:a<2^e)(he:e+1<=32*512):movW a (-(d:Int)) true=cdiv a (2^d):=by
 have h1:a/2^d<2^e:=YHG (Nat.div_le_self _ _) h
 have h2:a/2^d*2^d<2^e:=YHG (YHU _ _) h
 unfold movW cdiv
 rw[Bool.true_and,Yo6 _ _ hd,Yhp h1 (by omega),Int.neg_neg,Yxn,Yhp h2 (by omega)]
 by_cases c:a/2^d*2^d<a
 . rw[if_pos (decide_eq_true c),if_pos c]
   exact Yhp (e:=e+1) (by rw[YHo];omega) he
 . rw[if_neg (by rw[decide_eq_false c];decide),if_neg c]
theorem Yhf{a b e:Nat}(h:a+b<2^e)(he:e<=32*512):addW a b=a+b:=Yhp h he
theorem YiW{a b e:Nat}(h:a*b<2^e)(he:e<=32*512):mulW a b=a*b:=Yhp h he
theorem Yzx{D:Nat}(hD0:64<=D)(hD:D<=4200):∀(f a b S q:Nat),a<=b->b<=2*2^D->S<2^(q-f)->f<=q->q<=4200->
   logL (2*2^D) (D:Int) f a b S=gl (2^D) false f a b S:=by
 intro f
 induction f with
 |zero=>
   intro a b S q _ _ hS _ hq
   rw[logL,gl,Yhf (e:=q+1) (by
     have:=Nat.one_le_two_pow (n:=q)
     rw[YHo];rw[Nat.sub_zero]at hS;omega) (by omega)]
 |succ f ih=>
   intro a b S q hab hb hS hfq hq
   have hbb:b*b<=2^(2*D+2):=by
     have:=YHi hb hb
     rw[show 2*D+2=D+1+(D+1)by omega,YHa,YHo,YG4 (2^D)]
     exact this
   have haa:a*a<=b*b:=YHi hab hab
   have l1:∀x,x<=2^(2*D+2)->x<2^(2*D+3):=fun x hx=>by
     have:(2:Nat)^(2*D+3)=2*2^(2*D+2):=by rw[Nat.pow_succ',]
     have:=Nat.one_le_two_pow (n:=2*D+2)
     omega
   have ea:mulW a a=a*a:=YiW (l1 _ (by omega)) (by omega)
   have eb:mulW b b=b*b:=YiW (l1 _ (by omega)) (by omega)
   have fa:movW (a*a) (-(D:Int)) false=a*a/2^D:=Yw4 (by omega) (l1 _ (by omega)) (by omega)
   have fb:movW (b*b) (-(D:Int)) true=cdiv (b*b) (2^D):=YoD (by omega) (l1 _ (by omega)) (by omega)
   have hA:a*a/2^D<=cdiv (b*b) (2^D):=Yeo haa
   have hB:cdiv (b*b) (2^D)<=4*2^D:=YaV (by
     rw[show 2*D+2=2+D+D by omega,YHa,YHa]at hbb
     exact hbb)
   have hB2:cdiv (b*b) (2^D)<2^(D+3):=by
     have:(2:Nat)^(D+3)=8*2^D:=by rw[YHa,YG4]
     have:=Nat.one_le_two_pow (n:=D)
     omega
   have hq2:q-f=q-(f+1)+1:=by omega
   have hS2:2*S+1<2^(q-f):=by rw[hq2,YHo];omega
   have hqq:(2:Nat)^(q-f)<=2^q:=YHl (by decide) (by omega)
   have es1:movW S 1 false=2*S:=by
     have:=YiV (a:=S) (d:=1) (e:=q) (by rw[Nat.pow_one];omega) (by omega)
     rw[Nat.pow_one,YG4]at this
     exact this
   have es2:∀b,b<=1->addW (2*S) b=2*S+b:=fun b hb=>Yhf (e:=q) (by omega) (by omega)
   have hSf:(S+1)*2^(f+1)<=2^q:=by
     have:(2:Nat)^q=2^(q-(f+1))*2^(f+1):=by rw[<-YHa];congr 1;omega
     rw[this]
     exact YG3 _ hS
   have hSf0:S*2^(f+1)<=(S+1)*2^(f+1):=YG3 _ (by omega)
   have lq:∀x,x<=2^q->x<2^(q+1):=fun x hx=>by
     have:=Nat.one_le_two_pow (n:=q)
     rw[YHo];omega
   have st1:movW S ((f+1:Nat):Int) false=S*2^(f+1):=YiV (lq _ (by omega)) (by omega)
   have st2:movW (addW S 1) ((f+1:Nat):Int) false=(S+1)*2^(f+1):=by
     rw[Yhf (e:=q+1) (lq _ (by
       have:(2:Nat)^(q-(f+1))<=2^q:=YHl (by decide) (by omega)
       omega)) (by omega)]
     exact YiV (lq _ (by omega)) (by omega)
   rw[logL,gl,ea,eb,fa,fb,es1,st1,st2]
   by_cases c1:a*a/2^D<2*2^D
   . rw[if_pos c1,if_pos c1]
     by_cases c2:cdiv (b*b) (2^D)<2*2^D
     . rw[if_pos c2,if_pos c2,es2 0 (by omega),Nat.add_zero]
       exact ih _ _ _ q hA (by omega) (by omega) (by omega) hq
     . rw[if_neg c2,if_neg c2]
   . have g1:movW (a*a/2^D) (-1) false=a*a/2^D/2:=by
       have:=Yw4 (a:=a*a/2^D) (d:=1) (by decide) (YHG hA hB2) (by omega)
       rw[Nat.pow_one]at this
       exact this
     have g2:movW (cdiv (b*b) (2^D)) (-1) true=cdiv (cdiv (b*b) (2^D)) 2:=by
       have:=YoD (a:=cdiv (b*b) (2^D)) (d:=1) (by decide) hB2 (by omega)
       rw[Nat.pow_one]at this
       exact this
     rw[if_neg c1,if_neg c1,Bool.false_and,if_neg (by decide),g1,g2,es2 1 (by omega)]
     exact ih _ _ _ q (Yeo hA) (YaV (by omega)) (by omega) (by omega) hq
theorem Yzv{n p:Nat}(h1:1<=n)(h2:n<4611686018427387904)(hp:p<=2048):logF (n:Int) p=lN n p:=by
 have hk:lgK n<62:=YdX (by decide) h2
 have hk2:lgK n<2^6:=by rw[show(2:Nat)^6=64 from rfl];omega
 unfold logF lN
 rw[YG0]
 by_cases c:YaY (n:Int)=true
 . rw[if_pos c,if_pos c]
   have e:movW (lgK n) (p:Int) false=lgK n*2^p:=YiV (e:=6+p) (by rw[YHa];exact Nat.mul_lt_mul_of_pos_right hk2 (YHO (by decide))) (by omega)
   show(movW (lgK n) (p:Int) false,movW (lgK n) (p:Int) false)=_
   rw[e]
 . rw[if_neg c,if_neg c]
   obtain⟨D,hD⟩:∃D,D=2*p+64:=⟨_,rfl⟩
   rw[<-hD]
   obtain⟨m1,m2,m3⟩:=mant (D:=D) h1 (by omega)
   have hD1:2*2^D<2^(D+2):=by
     have:(2:Nat)^(D+2)=4*2^D:=by rw[YHa,YG4]
     have:=Nat.one_le_two_pow (n:=D)
     omega
   have ea:movW n ((D:Int)-((Yq n-1:Nat):Int)) false=n*2^(D-lgK n):=by
     rw[show((D:Int)-((Yq n-1:Nat):Int))=((D-lgK n:Nat):Int)by unfold lgK at hk⊢;omega]
     exact YiV (e:=D+2) (by omega) (by omega)
   have e2:movW 2 (D:Int) false=2*2^D:=YiV (e:=D+2) hD1 (by omega)
   show logL (movW 2 (D:Int) false) (D:Int) p (movW n ((D:Int)-((Yq n-1:Nat):Int)) false) (movW n ((D:Int)-((Yq n-1:Nat):Int)) false) (lgK n)=_
   rw[ea,e2]
   exact Yzx (by omega) (by omega) p _ _ _ (p+6) (YG8 _) (Nat.le_of_lt m2) (by rw[show p+6-p=6 by omega];exact hk2) (by omega) (by omega)
theorem Ymh{n:Nat}(h1:1<=n)(h2:n<4611686018427387904)(c:YaY (n:Int)=true)(p:Nat):2^(lgK n*2^p)<=n^(2^p)/\n^(2^p)<=2^(lgK n*2^p):=by
 have e0:=Ykb h1 h2 c
 have e:n^(2^p)=2^(lgK n*2^p):=by
   rw[YHf,<-e0]
 rw[e];exact⟨YG8 _,YG8 _⟩
theorem YoR{n:Nat}(h1:1<=n)(h2:n<4611686018427387904):2^(qN n).1<=n^(2^28)/\n^(2^28)<=2^(qN n).2:=by
 unfold qN
 by_cases c:YaY (n:Int)=true
 . rw[if_pos c]
   exact Ymh h1 h2 c 28
 . rw[if_neg c]
   have hk:lgK n<62:=YdX (by decide) h2
   obtain⟨m1,m2,m3⟩:=mant (D:=63) h1 (by omega)
   exact Yj5 _ true (by decide) 28 _ _ _ n (YH2 m3) (YH2 m3.symm) m1 (Nat.le_of_lt m2)
theorem YgT{n p:Nat}(h1:1<=n)(h2:n<4611686018427387904):2^(lN n p).1<=n^(2^p)/\n^(2^p)<=2^(lN n p).2:=by
 unfold lN
 by_cases c:YaY (n:Int)=true
 . rw[if_pos c]
   exact Ymh h1 h2 c p
 . rw[if_neg c]
   have hk:lgK n<62:=YdX (by decide) h2
   obtain⟨m1,m2,m3⟩:=mant (D:=2*p+64) h1 (by omega)
   exact Yj5 _ false (YHO (by decide)) p _ _ _ n (YH2 m3) (YH2 m3.symm) m1 (Nat.le_of_lt m2)
theorem YlU{n p:Nat}(h1:1<=n)(h2:n<4611686018427387904)(hp:28<=p):(qN n).1*2^(p-28)<=(lN n p).1/\(lN n p).2<=(qN n).2*2^(p-28):=by
 unfold lN qN
 by_cases c:YaY (n:Int)=true
 . rw[if_pos c,if_pos c]
   have e:lgK n*2^28*2^(p-28)=lgK n*2^p:=by
     rw[YG6,<-YHa];congr 2;omega
   simp only
   rw[e];exact⟨YG8 _,YG8 _⟩
 . rw[if_neg c,if_neg c]
   have hk:lgK n<62:=YdX (by decide) h2
   have eM:(2:Nat)^(2*p+64)=9223372036854775808*2^(2*p+1):=by
     rw[show(9223372036854775808:Nat)=2^63 from rfl,<-YHa];congr 1;omega
   have eA:n*2^(2*p+64-lgK n)=2^(2*p+1)*(n*2^(63-lgK n)):=by
     rw[show 2*p+64-lgK n=2*p+1+(63-lgK n)by omega,YHa,YHw]
   have:=YlI 9223372036854775808 (2^(2*p+1)) true (by decide) (YHO (by decide)) (p-28) 28 (n*2^(63-lgK n)) (n*2^(63-lgK n)) (lgK n) _ _ (YH2 eA.symm) (YG8 _) (YH2 eA)
   rw[<-eM,show 28+(p-28)=p by omega]at this
   exact this
def upS(g:Nat->Nat):List (Int×Int)->Nat
 | []=>0
 |x::l=>(if x.2<0 then 0 else g x.1.toNat*x.2.toNat)+upS g l
def dnS(g:Nat->Nat):List (Int×Int)->Nat
 | []=>0
 |x::l=>(if x.2<0 then g x.1.toNat*(-x.2).toNat else 0)+dnS g l
def upP:List (Int×Int)->Nat
 | []=>1
 |x::l=>(if x.2<0 then 1 else x.1.toNat^x.2.toNat)*upP l
def dnP:List (Int×Int)->Nat
 | []=>1
 |x::l=>(if x.2<0 then x.1.toNat^(-x.2).toNat else 1)*dnP l
def okU(x:Int×Int):Prop:=1<=x.1/\x.1<=1000000000001/\ -3000000000000000<=x.2/\x.2<=3000000000000000
theorem YEm{x:Int×Int}(h:okU x):okT x:=⟨h.1,h.2.1,by have:=h.2.2.1;omega,by have:=h.2.2.2;omega⟩
theorem Ydl{x:Int×Int}(h:okU x):1<=x.1.toNat/\x.1.toNat<4611686018427387904/\x.1=(x.1.toNat:Int):=by
 obtain⟨h1,h2,h3,h4⟩:=h
 omega
theorem YfI{K g h n e:Nat}(H:2^g<=n^K/\n^K<=2^h):2^(g*e)<=(n^e)^K/\(n^e)^K<=2^(h*e):=by
 rw[YHf,YHf,<-YHf n,YG4 e K,YHf]
 exact⟨YHe H.1 _,YHe H.2 _⟩
theorem YaO{K:Nat}{g h:Nat->Nat}(H:∀n,1<=n->n<4611686018427387904->2^g n<=n^K/\n^K<=2^h n):∀(l:List (Int×Int)),(∀x,x∈l->okU x)->
   (2^upS g l<=upP l^K/\upP l^K<=2^upS h l)/\2^dnS g l<=dnP l^K/\dnP l^K<=2^dnS h l
 | [],_=>by simp [upS,upP,dnS,dnP]
 |x::l,hl=>by
   obtain⟨⟨a1,a2⟩,b1,b2⟩:=YaO H l fun y hy=>hl y (YHg _ hy)
   obtain⟨n1,n2,_⟩:=Ydl (hl x (YHh ..))
   have hx:=H _ n1 n2
   rw[upS,upS,upP,dnS,dnS,dnP,YHy,YHy,YHa,YHa,YHa,YHa]
   by_cases c:x.2<0
   . simp only[if_pos c,Nat.pow_zero,Nat.one_pow,YHN]
     obtain⟨p1,p2⟩:=YfI (e:=(-x.2).toNat) hx
     exact⟨⟨a1,a2⟩,YHi p1 b1,YHi p2 b2⟩
   . simp only[if_neg c,Nat.pow_zero,Nat.one_pow,YHN]
     obtain⟨p1,p2⟩:=YfI (e:=x.2.toNat) hx
     exact⟨⟨YHi p1 a1,YHi p2 a2⟩,b1,b2⟩
theorem S_le{g:Nat->Nat}{B:Nat}(H:∀n,1<=n->n<4611686018427387904->g n<=B):∀(l:List (Int×Int)),(∀x,x∈l->okU x)->upS g l<=l.length*(B*3000000000000000)/\dnS g l<=l.length*(B*3000000000000000)
 | [],_=>by simp [upS,dnS]
 |x::l,hl=>by
   obtain⟨a1,a2⟩:=S_le H l fun y hy=>hl y (YHg _ hy)
   have hx:=hl x (YHh ..)
   obtain⟨n1,n2,_⟩:=Ydl hx
   obtain⟨_,_,x3,x4⟩:=hx
   have h1:=YHi (H _ n1 n2) (show x.2.toNat<=3000000000000000 by omega)
   have h2:=YHi (H _ n1 n2) (show(-x.2).toNat<=3000000000000000 by omega)
   rw[upS,dnS,YH1,YHr,YHN]
   constructor
   . split <;> omega
   . split <;> omega
theorem YEA{n:Nat}(h1:1<=n)(h2:n<4611686018427387904):(qN n).1<=(qN n).2/\(qN n).2<=17179869184:=by
 have hs:=YoR h1 h2
 have hk:lgK n<62:=YdX (by decide) h2
 refine⟨(Nat.pow_le_pow_iff_right (by decide)).1 (YHc hs.1 hs.2),?_⟩
 unfold qN
 split
 . show lgK n*268435456<=_;omega
 . have:=(YhB 9223372036854775808 true 28 (n*2^(63-lgK n)) (n*2^(63-lgK n)) (lgK n)).2
   rw[show(2:Nat)^28=268435456 from rfl]at this
   omega
theorem YDJ{n p:Nat}(h1:1<=n)(h2:n<4611686018427387904):(lN n p).1<=(lN n p).2/\(lN n p).2<=64*2^p:=by
 have hs:=YgT (p:=p) h1 h2
 have hk:lgK n<62:=YdX (by decide) h2
 refine⟨(Nat.pow_le_pow_iff_right (by decide)).1 (YHc hs.1 hs.2),?_⟩
 unfold lN
 split
 . exact YG3 _ (by omega)
 . exact YHc (YhB _ false p _ _ (lgK n)).2 (YG3 _ (by omega))
theorem Yk1{g h:Nat->Nat}(H:∀n,1<=n->n<4611686018427387904->g n<=h n):∀(l:List (Int×Int)),(∀x,x∈l->okU x)->upS g l<=upS h l/\dnS g l<=dnS h l
 | [],_=>by simp [upS,dnS]
 |x::l,hl=>by
   obtain⟨a1,a2⟩:=Yk1 H l fun y hy=>hl y (YHg _ hy)
   obtain⟨n1,n2,_⟩:=Ydl (hl x (YHh ..))
   have h1:=YG3 x.2.toNat (H _ n1 n2)
   have h2:=YG3 (-x.2).toNat (H _ n1 n2)
   rw[upS,dnS,upS,dnS]
   constructor
   . split <;> omega
   . split <;> omega
def Yav(a:Int×Int):Int:=a.1*18446744073709551616+a.2
theorem YtH{M t:Int}(hM:0<M):t/M*M+t%M=t:=Int.ediv_mul_add_emod ..
theorem YfH{a:Int×Int}{x y:Int}(ha:okL a)(h0:0<=x*y)(h:Yav a+x*y<340282366920938463463374607431768211456):Yav (YeN a x y)=Yav a+x*y:=by
 obtain⟨⟨a0,a1⟩,b0,b1⟩:=ha
 unfold Yav at h⊢
 unfold YeN
 generalize x*y=t at*
 have e1:=YtH (M:=18446744073709551616) (t:=t) (by decide)
 have e2:=YtH (M:=18446744073709551616) (t:=a.2+t%18446744073709551616) (by decide)
 have r1:=Int.emod_nonneg t (show(18446744073709551616:Int)≠0 by decide)
 have r2:=Int.emod_lt_of_pos t (show(0:Int)<18446744073709551616 by decide)
 have r3:=Int.emod_nonneg (a.2+t%18446744073709551616) (show(18446744073709551616:Int)≠0 by decide)
 have r4:=Int.emod_lt_of_pos (a.2+t%18446744073709551616) (show(0:Int)<18446744073709551616 by decide)
 have q1:0<=t/18446744073709551616:=Int.ediv_nonneg h0 (by decide)
 have q2:0<=(a.2+t%18446744073709551616)/18446744073709551616:=Int.ediv_nonneg (by omega) (by decide)
 generalize t%18446744073709551616=lo at*
 generalize t/18446744073709551616=hi at*
 generalize(a.2+lo)%18446744073709551616=r at*
 generalize(a.2+lo)/18446744073709551616=c at*
 rw[YHt (a.1+hi) (by omega),YHt (a.1+hi+c) (by omega)]
 omega
theorem Ymc{a b:Int×Int}(ha:okL a)(hb:okL b):Yil a b=decide (Yav b<Yav a):=by
 obtain⟨⟨a0,a1⟩,a2,a3⟩:=ha
 obtain⟨⟨b0,b1⟩,b2,b3⟩:=hb
 unfold Yil Yav
 by_cases c:b.1<a.1
 . rw[decide_eq_true c,Bool.true_or,decide_eq_true (by omega)]
 . rw[decide_eq_false c,Bool.false_or]
   by_cases d:a.1=b.1
   . rw[decide_eq_true d,Bool.true_and,d]
     by_cases e:b.2<a.2
     . rw[decide_eq_true e,decide_eq_true (by omega)]
     . rw[decide_eq_false e,decide_eq_false (by omega)]
   . rw[decide_eq_false d,Bool.false_and,decide_eq_false (by omega)]
theorem Yov:∀(l:List (Int×Int))(s:Gss),s.ok->(∀x,x∈l->okU x)->
   Yav s.u0+(upS (fun n=>(qN n).1) l:Nat)<340282366920938463463374607431768211456->Yav s.u1+(upS (fun n=>(qN n).2) l:Nat)<340282366920938463463374607431768211456->
   Yav s.d0+(dnS (fun n=>(qN n).1) l:Nat)<340282366920938463463374607431768211456->Yav s.d1+(dnS (fun n=>(qN n).2) l:Nat)<340282366920938463463374607431768211456->
   (l.foldl gssS s).ok/\Yav (l.foldl gssS s).u0=Yav s.u0+(upS (fun n=>(qN n).1) l:Nat)/\Yav (l.foldl gssS s).u1=Yav s.u1+(upS (fun n=>(qN n).2) l:Nat)/\
     Yav (l.foldl gssS s).d0=Yav s.d0+(dnS (fun n=>(qN n).1) l:Nat)/\Yav (l.foldl gssS s).d1=Yav s.d1+(dnS (fun n=>(qN n).2) l:Nat)
 | [],s,hs,_,_,_,_,_=>by simpa [upS,dnS]using hs
 |x::l,s,hs,hl,h1,h2,h3,h4=>by
   have hx:=hl x (YHh ..)
   obtain⟨n1,n2,n3⟩:=Ydl hx
   have hq:Ybt x.1=Yrm (qN x.1.toNat):=by
     conv=>lhs;rw[n3]
     exact Yti n1 n2
   obtain⟨k1,k2,k3,k4⟩:=hs
   have ih:=Yov l (gssS s x) (Yr4 s x ⟨k1,k2,k3,k4⟩) fun y hy=>hl y (YHg _ hy)
   rw[upS,Int.natCast_add]at h1 h2
   rw[dnS,Int.natCast_add]at h3 h4
   rw[YH5,upS,upS,dnS,dnS,Int.natCast_add,Int.natCast_add,Int.natCast_add,Int.natCast_add]
   by_cases c:x.2<0
   . rw[if_pos c]at h1 h2 h3 h4
     simp only[if_pos c]
     have c0:¬0<=x.2:=by omega
     have hm:∀z:Nat,(z:Int)*(-x.2)=((z*(-x.2).toNat:Nat):Int):=fun z=>by rw[YHZ];congr 1;omega
     have hz:∀z:Nat,0<=(z:Int)*(-x.2):=fun z=>YG7 (by omega) (by omega)
     have e:gssS s x= { s with d0:=YeN s.d0 ((qN x.1.toNat).1:Nat) (-x.2),d1:=YeN s.d1 ((qN x.1.toNat).2:Nat) (-x.2)}:=by rw[gssS,if_neg c0,hq];rfl
     have p0:=YfH (x:=((qN x.1.toNat).1:Nat)) (y:= -x.2) k3 (hz _) (by rw[hm];omega)
     have p1:=YfH (x:=((qN x.1.toNat).2:Nat)) (y:= -x.2) k4 (hz _) (by rw[hm];omega)
     rw[hm]at p0 p1
     rw[e]at ih⊢
     simp only at ih h1 h2 h3 h4
     rw[p0,p1]at ih
     obtain⟨i0,i1,i2,i3,i4⟩:=ih (by omega) (by omega) (by omega) (by omega)
     exact⟨i0,by omega,by omega,by omega,by omega⟩
   . rw[if_neg c]at h1 h2 h3 h4
     simp only[if_neg c]
     have c0:0<=x.2:=by omega
     have hm:∀z:Nat,(z:Int)*x.2=((z*x.2.toNat:Nat):Int):=fun z=>by rw[YHZ];congr 1;omega
     have hz:∀z:Nat,0<=(z:Int)*x.2:=fun z=>YG7 (by omega) (by omega)
     have e:gssS s x= { s with u0:=YeN s.u0 ((qN x.1.toNat).1:Nat) x.2,u1:=YeN s.u1 ((qN x.1.toNat).2:Nat) x.2}:=by rw[gssS,if_pos c0,hq];rfl
     have p0:=YfH (x:=((qN x.1.toNat).1:Nat)) (y:=x.2) k1 (hz _) (by rw[hm];omega)
     have p1:=YfH (x:=((qN x.1.toNat).2:Nat)) (y:=x.2) k2 (hz _) (by rw[hm];omega)
     rw[hm]at p0 p1
     rw[e]at ih⊢
     simp only at ih h1 h2 h3 h4
     rw[p0,p1]at ih
     obtain⟨i0,i1,i2,i3,i4⟩:=ih (by omega) (by omega) (by omega) (by omega)
     exact⟨i0,by omega,by omega,by omega,by omega⟩
theorem Yow{l:List (Int×Int)}(hl:∀x,x∈l->okU x)(hn:l.length<=100):YhC l=
   if dnS (fun n=>(qN n).2) l<upS (fun n=>(qN n).1) l then(1,true)else if upS (fun n=>(qN n).2) l<dnS (fun n=>(qN n).1) l then(-1,true)else(0,false):=by
 obtain⟨a1,a2⟩:=S_le (g:=fun n=>(qN n).2) (fun n h1 h2=>(YEA h1 h2).2) l hl
 obtain⟨b1,b2⟩:=Yk1 (g:=fun n=>(qN n).1) (h:=fun n=>(qN n).2) (fun n h1 h2=>(YEA h1 h2).1) l hl
 have hb:l.length*(17179869184*3000000000000000)<=100*(17179869184*3000000000000000):=YG3 _ hn
 have z:Yav (0,0)=0:=rfl
 have h0:gss0.ok:=by simp [Gss.ok,gss0,okL]
 obtain⟨⟨k1,k2,k3,k4⟩,v1,v2,v3,v4⟩:=Yov l gss0 h0 hl (by show Yav (0,0)+_<_;omega) (by show Yav (0,0)+_<_;omega) (by show Yav (0,0)+_<_;omega) (by show Yav (0,0)+_<_;omega)
 have v1:Yav (l.foldl gssS gss0).u0=(upS (fun n=>(qN n).1) l:Nat):=by rw[v1];show Yav (0,0)+_=_;omega
 have v2:Yav (l.foldl gssS gss0).u1=(upS (fun n=>(qN n).2) l:Nat):=by rw[v2];show Yav (0,0)+_=_;omega
 have v3:Yav (l.foldl gssS gss0).d0=(dnS (fun n=>(qN n).1) l:Nat):=by rw[v3];show Yav (0,0)+_=_;omega
 have v4:Yav (l.foldl gssS gss0).d1=(dnS (fun n=>(qN n).2) l:Nat):=by rw[v4];show Yav (0,0)+_=_;omega
 unfold YhC
 simp only
 rw[Ymc k1 k4,Ymc k3 k2,v1,v2,v3,v4]
 simp only[Int.ofNat_lt,decide_eq_true_eq]
theorem Ymx{p:Nat}(hp:p<=2048):∀(l:List (Int×Int))(s:Bnd)(e:Nat),(∀x,x∈l->okU x)->e<=32*512->
   s.ul+upS (fun n=>(lN n p).1) l<2^e->s.uh+upS (fun n=>(lN n p).2) l<2^e->s.dl+dnS (fun n=>(lN n p).1) l<2^e->s.dh+dnS (fun n=>(lN n p).2) l<2^e->
   l.foldl (Yeh p) s=⟨s.ul+upS (fun n=>(lN n p).1) l,s.uh+upS (fun n=>(lN n p).2) l,s.dl+dnS (fun n=>(lN n p).1) l,s.dh+dnS (fun n=>(lN n p).2) l⟩
 | [],s,e,_,_,_,_,_,_=>by simp [upS,dnS]
 |x::l,s,e,hl,he,h1,h2,h3,h4=>by
   have hx:=hl x (YHh ..)
   obtain⟨n1,n2,n3⟩:=Ydl hx
   have hq:logF x.1 p=lN x.1.toNat p:=by
     conv=>lhs;rw[n3]
     exact Yzv n1 n2 hp
   have ih:=Ymx hp l (Yeh p s x) e (fun y hy=>hl y (YHg _ hy)) he
   rw[upS]at h1 h2
   rw[dnS]at h3 h4
   rw[YH5,upS,upS,dnS,dnS]
   by_cases c:x.2<0
   . rw[if_pos c]at h1 h2 h3 h4
     simp only[if_pos c]
     have e:Yeh p s x= { s with dl:=s.dl+(lN x.1.toNat p).1*(-x.2).toNat,dh:=s.dh+(lN x.1.toNat p).2*(-x.2).toNat}:=by
       rw[Yeh,if_pos c,hq]
       rw[YiW (e:=e) (by omega) he,YiW (e:=e) (by omega) he,Yhf (e:=e) (by omega) he,Yhf (e:=e) (by omega) he]
     rw[e]at ih⊢
     simp only at ih
     rw[ih (by omega) (by omega) (by omega) (by omega)]
     simp only[Bnd.mk.injEq]
     omega
   . rw[if_neg c]at h1 h2 h3 h4
     simp only[if_neg c]
     have e:Yeh p s x= { s with ul:=s.ul+(lN x.1.toNat p).1*x.2.toNat,uh:=s.uh+(lN x.1.toNat p).2*x.2.toNat}:=by
       rw[Yeh,if_neg c,hq]
       rw[YiW (e:=e) (by omega) he,YiW (e:=e) (by omega) he,Yhf (e:=e) (by omega) he,Yhf (e:=e) (by omega) he]
     rw[e]at ih⊢
     simp only at ih
     rw[ih (by omega) (by omega) (by omega) (by omega)]
     simp only[Bnd.mk.injEq]
     omega
theorem YtN{l:List (Int×Int)}{p:Nat}(hp:p<=2048)(hl:∀x,x∈l->okU x)(hn:l.length<=100):YcK l p=⟨upS (fun n=>(lN n p).1) l,upS (fun n=>(lN n p).2) l,dnS (fun n=>(lN n p).1) l,dnS (fun n=>(lN n p).2) l⟩:=by
 obtain⟨a1,a2⟩:=S_le (g:=fun n=>(lN n p).2) (B:=64*2^p) (fun n h1 h2=>(YDJ h1 h2).2) l hl
 obtain⟨b1,b2⟩:=Yk1 (g:=fun n=>(lN n p).1) (h:=fun n=>(lN n p).2) (fun n h1 h2=>(YDJ h1 h2).1) l hl
 have hb:l.length*(64*2^p*3000000000000000)<=100*(64*2^p*3000000000000000):=YG3 _ hn
 have hp2:100*(64*2^p*3000000000000000)<2^(p+65):=by
   have:(2:Nat)^(p+65)=36893488147419103232*2^p:=by rw[YHa,YG4]
   have:=Nat.one_le_two_pow (n:=p)
   omega
 unfold YcK
 rw[Ymx hp l ⟨0,0,0,0⟩ (p+65) hl (by omega) (by simp only;omega) (by simp only;omega) (by simp only;omega) (by simp only;omega)]
 simp only[YH0]
inductive Spn (L:List Nat):Nat->Prop
 |one:Spn L 1
 |mul {x y:Nat}:x∈L->Spn L y->Spn L (x*y)
theorem Spn.mem{L:List Nat}{x:Nat}(h:x∈L):Spn L x:=by
 have:=Spn.mul h Spn.one
 rwa [YH8]at this
theorem Spn.mul2{L:List Nat}{x y:Nat}(hx:Spn L x)(hy:Spn L y):Spn L (x*y):=by
 induction hx with
 |one=>rwa [YHN]
 |mul h _ ih=>rw[YG6];exact .mul h ih
theorem Spn.sub{L L':List Nat}(h:∀x,x∈L->Spn L' x){y:Nat}(hy:Spn L y):Spn L' y:=by
 induction hy with
 |one=>exact .one
 |mul hx _ ih=>exact(h _ hx).mul2 ih
def Cop(r:List Nat):Prop:=r.Pairwise fun a b=>YH6 a b=1
theorem Yfq{B:Nat}:∀{f:Nat}{wait out:List Nat},DrOk B f wait out->Cop out->Cop (Yda f wait out)/\∀y,Spn (out++wait) y->Spn (Yda f wait out) y
 |0,wait,out,h,hc=>by
   have hw:wait=[]:=List.length_eq_zero_iff.1 (by have:=h.mu;omega)
   rw[Yda,hw,List.append_nil]
   exact⟨hc,fun _ h=>h⟩
 |f+1,wait,out,h,hc=>by
   rw[Yda]
   by_cases hw:wait.length=0
   . rw[if_pos hw]
     have hw:wait=[]:=List.length_eq_zero_iff.1 hw
     rw[hw,List.append_nil]
     exact⟨hc,fun _ h=>h⟩
   . rw[if_neg hw]
     have e:=YeG hw
     by_cases h1:wait.getD (wait.length-1) 0=1
     . rw[if_pos h1]
       obtain⟨g,hg,hd⟩:=h.pop hw h1
       obtain rfl:f=g:=by omega
       obtain⟨k1,k2⟩:=Yfq hd hc
       refine⟨k1,fun y hy=>k2 y (hy.sub fun x hx=>?_)⟩
       rw[e,YHz,YHz,YHF]at hx
       rcases hx with hx|hx|hx
       . exact .mem (List.mem_append_left _ hx)
       . exact .mem (List.mem_append_right _ hx)
       . rw[hx,h1];exact .one
     . rw[if_neg h1]
       have hsp:=Ydi (f:=fun i=>decide (1<YH6 (out.getD i 0) (wait.getD (wait.length-1) 0))) out.length 0
       have hn:1<=wait.getD (wait.length-1) 0:=(h.wp _ (YI (l:=wait) (i:=wait.length-1) (by omega))).1
       by_cases h2:hitF out (wait.getD (wait.length-1) 0)<out.length
       . rw[if_pos h2]
         have hs:=hsp.2.2.2 (by simpa [hitF]using h2)
         obtain⟨g,hg,hd⟩:=h.hit hw h2 (of_decide_eq_true hs)
         obtain rfl:f=g:=by omega
         have e':=Ypa h2
         generalize hitF out (wait.getD (wait.length-1) 0)=i at*
         have hsub:List.Sublist (out.take i++out.drop (i+1)) out:=by
           conv=>rhs;rw[e']
           exact(List.sublist_cons_self _ _).append_left _
         obtain⟨k1,k2⟩:=Yfq hd (List.Pairwise.sublist hsub hc)
         refine⟨k1,fun y hy=>k2 y (hy.sub fun x hx=>?_)⟩
         generalize hL:out.take i++out.drop (i+1)++(wait.take (wait.length-1)++[YH6 (out.getD i 0) (wait.getD (wait.length-1) 0),out.getD i 0/YH6 (out.getD i 0) (wait.getD (wait.length-1) 0),wait.getD (wait.length-1) 0/YH6 (out.getD i 0) (wait.getD (wait.length-1) 0)])=L
         have mL:∀z,z∈out.take i\/z∈out.drop (i+1)\/z∈wait.take (wait.length-1)\/z=YH6 (out.getD i 0) (wait.getD (wait.length-1) 0)\/z=out.getD i 0/YH6 (out.getD i 0) (wait.getD (wait.length-1) 0)\/z=wait.getD (wait.length-1) 0/YH6 (out.getD i 0) (wait.getD (wait.length-1) 0)->Spn L z:=fun z hz=>by
           refine .mem ?_
           rw[<-hL]
           simp only[YHz,YHx,List.not_mem_nil,or_false]
           rcases hz with hz|hz|hz|hz|hz|hz
           . exact .inl (.inl hz)
           . exact .inl (.inr hz)
           . exact .inr (.inl hz)
           . exact .inr (.inr (.inl hz))
           . exact .inr (.inr (.inr (.inl hz)))
           . exact .inr (.inr (.inr (.inr hz)))
         rcases YHz.1 hx with hx|hx
         . rw[e']at hx
           rcases YHz.1 hx with hx|hx
           . exact mL _ (.inl hx)
           . rcases YHx.1 hx with hx|hx
             . rw[hx]
               have:=(mL _ (.inr (.inr (.inr (.inl rfl))))).mul2 (mL _ (.inr (.inr (.inr (.inr (.inl rfl))))))
               rwa [Nat.mul_div_cancel' (Nat.gcd_dvd_left _ _)]at this
             . exact mL _ (.inr (.inl hx))
         . rw[e]at hx
           rcases YHz.1 hx with hx|hx
           . exact mL _ (.inr (.inr (.inl hx)))
           . rw[YHF]at hx
             rw[hx]
             have:=(mL _ (.inr (.inr (.inr (.inl rfl))))).mul2 (mL _ (.inr (.inr (.inr (.inr (.inr rfl))))))
             rwa [Nat.mul_div_cancel' (Nat.gcd_dvd_right _ _)]at this
       . rw[if_neg h2]
         obtain⟨g,hg,hd⟩:=h.push hw h1
         obtain rfl:f=g:=by omega
         have hcop:Cop (out++[wait.getD (wait.length-1) 0]):=by
           refine List.pairwise_append.2 ⟨hc,List.pairwise_singleton _ _,fun a ha b hb=>?_⟩
           rw[YHF]at hb
           rw[hb]
           obtain⟨j,hj,hja⟩:=YgU ha
           have:=hsp.2.2.1 j (by omega) (by show j<hitF out _;omega)
           have:=of_decide_eq_false this
           rw[show out.getD j 0=a from hja]at this
           have:=Nat.gcd_pos_of_pos_right a hn
           omega
         obtain⟨k1,k2⟩:=Yfq hd hcop
         refine⟨k1,fun y hy=>k2 y (hy.sub fun x hx=>?_)⟩
         rw[e,YHz,YHz,YHF]at hx
         refine .mem ?_
         rw[YHz,YHz,YHF]
         rcases hx with hx|hx|hx
         . exact .inl (.inl hx)
         . exact .inr hx
         . exact .inl (.inr hx)
theorem YnY{l:List (Int×Int)}(hl:∀x,x∈l->okT x)(hn:l.length<=20):Cop (YjG l)/\∀x,x∈l->Spn (YjG l) x.1.toNat:=by
 have key:∀i,i<=l.length->((∀x,x∈(l.take i).foldl YbE []->2<=x/\x<=1099511627776)/\Yq (YA ((l.take i).foldl YbE []))<=40*i+1)/\Cop ((l.take i).foldl YbE [])/\∀x,x∈l.take i->Spn ((l.take i).foldl YbE []) x.1.toNat:=fun i=>by
   induction i with
   |zero=>exact fun _=>⟨⟨fun x hx=>absurd hx (by simp),by simp [YA];decide⟩,List.Pairwise.nil,fun x hx=>absurd hx (by simp)⟩
   |succ i ih=>
     intro hi
     obtain⟨⟨h1,h2⟩,h3,h4⟩:=ih (by omega)
     have hx:=hl _ (YI (by omega:i<l.length))
     rw[YE (by omega),Yei (by omega)]
     obtain⟨q0,q1,q2,q3⟩:=hx
     have hd:=DrOk.start (N:=(l.getD i default).1.toNat) (by omega) (by omega) h1 h2 (by omega)
     obtain⟨d1,d2⟩:=Yfq hd h3
     refine⟨YdK hd,d1,fun y hy=>?_⟩
     rcases YHz.1 hy with hy|hy
     . exact d2 _ ((h4 y hy).sub fun z hz=> .mem (List.mem_append_left _ hz))
     . rw[YHF]at hy
       rw[hy]
       exact d2 _ (.mem (List.mem_append_right _ (YHF.2 rfl)))
 have:=(key l.length (YG8 _)).2
 rwa [List.take_length]at this
def vl:Nat->Nat->Nat->Nat
 |0,_,_=>0
 |f+1,b,x=>if x%b=0 then vl f b (x/b)+1 else 0
theorem Ynu{b:Nat}(hb:2<=b):∀(f x:Nat),1<=x->x<2^f->∀e,b^e∣x↔e<=vl f b x
 |0,x,h1,h2,_=>by simp at h2;omega
 |f+1,x,h1,h2,e=>by
   rw[vl]
   by_cases c:x%b=0
   . rw[if_pos c]
     obtain⟨y,rfl⟩:=Nat.dvd_of_mod_eq_zero c
     have hy:1<=y:=Nat.pos_of_ne_zero fun h=>by rw[h,Nat.mul_zero]at h1;omega
     rw[Nat.mul_div_cancel_left _ (by omega)]
     have hy2:y<2^f:=by
       have:2*y<=b*y:=YG3 _ hb
       rw[YHo]at h2;omega
     cases e with
     |zero=>simp
     |succ e=>
       rw[YHo,YG4,Nat.mul_dvd_mul_iff_left (by omega),Ynu hb f y hy hy2]
       omega
   . rw[if_neg c]
     cases e with
     |zero=>simp
     |succ e=>
       refine⟨fun h=>absurd (Nat.mod_eq_zero_of_dvd (Nat.dvd_trans ⟨b^e,by rw[YHo,YG4]⟩ h)) c,fun h=>by omega⟩
theorem YGM{r:List Nat}(hc:Cop r)(h2:∀x,x∈r->2<=x){b c y:Nat}(hb:b∈r)(hcm:c∈r)(hy:1<=y)(hyl:c*y<2^64):vl 64 b (c*y)=vl 64 b y+if b=c then 1 else 0:=by
 have hb2:=h2 _ hb
 have hc2:=h2 _ hcm
 have hcy:1<=c*y:=YHX (by omega) hy
 have hy2:y<2^64:=YHG (Nat.le_mul_of_pos_left _ (by omega)) hyl
 have s1:=Ynu hb2 64 (c*y) hcy hyl
 have s2:=Ynu hb2 64 y hy hy2
 have ext:∀A B:Nat,(∀e,e<=A↔e<=B)->A=B:=fun A B h=>Nat.le_antisymm ((h A).1 (YG8 _)) ((h B).2 (YG8 _))
 refine ext _ _ fun e=>?_
 rw[<-s1 e]
 by_cases ebc:b=c
 . rw[if_pos ebc,<-ebc]
   cases e with
   |zero=>simp
   |succ e=>
     rw[YHo,YG4,Nat.mul_dvd_mul_iff_left (by omega),s2 e]
     omega
 . rw[if_neg ebc,Nat.add_zero,<-s2 e]
   have hg:YH6 b c=1:=by
     obtain⟨i,hi,rfl⟩:=List.mem_iff_getElem.1 hb
     obtain⟨j,hj,rfl⟩:=List.mem_iff_getElem.1 hcm
     rcases Nat.lt_trichotomy i j with h|h|h
     . exact List.pairwise_iff_getElem.1 hc i j hi hj h
     . subst h;exact absurd rfl ebc
     . rw[Nat.gcd_comm];exact List.pairwise_iff_getElem.1 hc j i hj hi h
   exact⟨fun h=>Nat.Coprime.dvd_of_dvd_mul_left (Nat.Coprime.pow_left e hg) h,fun h=>Nat.dvd_trans h (Nat.dvd_mul_left _ _)⟩
def PV(e:Nat->Nat):List Nat->Nat
 | []=>1
 |b::r=>b^e b*PV e r
theorem YbH{e e':Nat->Nat}:∀{r:List Nat},(∀b,b∈r->e b=e' b)->PV e r=PV e' r
 | [],_=>rfl
 |b::r,h=>by rw[PV,PV,h b (YHh ..),YbH fun x hx=>h x (YHg _ hx)]
theorem Yg7:∀(r:List Nat),PV (fun _=>0) r=1
 | []=>rfl
 |b::r=>by rw[PV,Yg7 r];rfl
theorem Yny(e e':Nat->Nat):∀(r:List Nat),PV (fun b=>e b+e' b) r=PV e r*PV e' r
 | []=>rfl
 |b::r=>by rw[PV,PV,PV,Yny e e' r,YHa,Nat.mul_mul_mul_comm]
theorem Yp5(e:Nat->Nat)(k:Nat):∀(r:List Nat),PV (fun b=>e b*k) r=PV e r^k
 | []=>by simp [PV]
 |b::r=>by rw[PV,PV,Yp5 e k r,YHf,YHy]
theorem YwB{c:Nat}:∀{r:List Nat},Cop r->(∀x,x∈r->2<=x)->c∈r->PV (fun b=>if b=c then 1 else 0) r=c
 |b::r,hc,h2,hm=>by
   obtain⟨g1,g2⟩:=List.pairwise_cons.1 hc
   have hb2:=h2 b (YHh ..)
   rw[PV]
   by_cases e:b=c
   . subst e
     rw[if_pos rfl,Nat.pow_one]
     have:PV (fun x=>if x=b then 1 else 0) r=PV (fun _=>0) r:=YbH fun x hx=>by
       refine if_neg fun hh=>?_
       have:=g1 x hx
       rw[hh,Nat.gcd_self]at this
       omega
     rw[this,Yg7,YH8]
   . rw[if_neg e,Nat.pow_zero,YHN]
     refine YwB g2 (fun x hx=>h2 x (YHg _ hx)) ?_
     rcases YHx.1 hm with h|h
     . exact absurd h.symm e
     . exact h
theorem PV_is{r:List Nat}(hc:Cop r)(h2:∀x,x∈r->2<=x){y:Nat}(hy:Spn r y):1<=y/\(y<2^64->PV (fun b=>vl 64 b y) r=y):=by
 induction hy with
 |one=>
   refine⟨YG8 _,fun _=>?_⟩
   rw[YbH (e':=fun _=>0) fun b hb=>?_,Yg7]
   have hb2:=h2 b hb
   rw[vl,if_neg (by rw[Nat.mod_eq_of_lt (by omega)];decide)]
 | @mul x y hx _ ih=>
   obtain⟨i1,i2⟩:=ih
   have hx2:=h2 x hx
   refine⟨YHX (by omega) i1,fun hlt=>?_⟩
   rw[YbH fun b hb=>YGM hc h2 hb hx i1 hlt,Yny,YwB hc h2 hx,i2 (YHG (Nat.le_mul_of_pos_left _ (by omega)) hlt),YG4]
theorem YyJ{b:Nat}(hb:2<=b)(hbl:b<=1099511627776){num:Int}(hn: -3000000000000000<=num/\num<=3000000000000000):∀(f x:Nat)(s:Int),x<4611686018427387904->f<=64-> -4500000000000000000+f*3000000000000000<=s->s<=4500000000000000000-f*3000000000000000->
   divL f (b:Int) (x:Int) num s=s+num*(vl f b x:Nat):=
 by
 intro f
 induction f with
 |zero=>intro x s _ _ _ _;simp [divL,vl]
 |succ f ih=>
   intro x s hx hf h1 h2
   rw[divL,vl]
   have e1:(x:Int).tmod (b:Int)=((x%b:Nat):Int):=rfl
   have e2:(x:Int).tdiv (b:Int)=((x/b:Nat):Int):=rfl
   rw[e1,e2]
   by_cases c:x%b=0
   . have hq:x/b<=x:=Nat.div_le_self _ _
     rw[if_pos (by omega),if_pos c]
     generalize x/b=q at*
     rw[YGZ _ (by omega),YGZ (s+num) (by omega),ih q (s+num) (by omega) (by omega) (by omega) (by omega),Int.natCast_add,Int.mul_add]
     simp only[Int.natCast_one,Int.mul_one]
     omega
   . rw[if_neg (by omega),if_neg c];simp
theorem YtM{b:Nat}(hb:2<=b)(hbl:b<=1099511627776):∀(l:List (Int×Int))(s:Int),(∀x,x∈l->okU x)->l.length<=100-> -4500000000000000000+(l.length+1)*192000000000000000<=s->s<=4500000000000000000-(l.length+1)*192000000000000000->
   l.foldl (fun s x=>divL 64 b x.1 x.2 s) s=s+(upS (vl 64 b) l:Nat)-(dnS (vl 64 b) l:Nat):=
 by
 intro l
 induction l with
 |nil=>intro s _ _ _ _;simp [upS,dnS]
 |cons x l ihl=>
   intro s hl hn h1 h2
   have hx:=hl x (YHh ..)
   obtain⟨n1,n2,n3⟩:=Ydl hx
   obtain⟨_,_,x3,x4⟩:=hx
   rw[YH1]at hn h1 h2
   have hv:vl 64 b x.1.toNat<=64:=by
     have key:∀f y,vl f b y<=f:=fun f=>by
       induction f with
       |zero=>intro y;exact YG8 _
       |succ f ih=>
         intro y
         rw[vl]
         split
         . have:=ih (y/b);omega
         . omega
     exact key 64 _
   have hd:divL 64 (b:Int) x.1 x.2 s=s+x.2*(vl 64 b x.1.toNat:Nat):=by
     conv=>lhs;rw[n3]
     exact YyJ hb hbl ⟨x3,x4⟩ 64 _ s n2 (by decide) (by omega) (by omega)
   have hb1:x.2*(vl 64 b x.1.toNat:Nat)<=3000000000000000*64:=by
     refine Int.le_trans (YHj x4 (by omega)) ?_
     exact YHb (by omega) (by decide)
   have hb2: -3000000000000000*64<=x.2*(vl 64 b x.1.toNat:Nat):=by
     refine Int.le_trans ?_ (YHj x3 (by omega))
     omega
   rw[YH5,hd,ihl _ (fun y hy=>hl y (YHg _ hy)) (by omega) (by omega) (by omega),upS,dnS]
   by_cases c:x.2<0
   . rw[if_pos c,if_pos c]
     have:x.2*(vl 64 b x.1.toNat:Nat)= -((vl 64 b x.1.toNat*(-x.2).toNat:Nat):Int):=by
       rw[YHZ,show(((-x.2).toNat:Nat):Int)= -x.2 by omega,Int.mul_neg,Int.neg_neg,YH9]
     rw[this];omega
   . rw[if_neg c,if_neg c]
     have:x.2*(vl 64 b x.1.toNat:Nat)=((vl 64 b x.1.toNat*x.2.toNat:Nat):Int):=by
       rw[YHZ,show((x.2.toNat:Nat):Int)=x.2 by omega,YH9]
     rw[this];omega
theorem P_is{r:List Nat}(hc:Cop r)(h2:∀x,x∈r->2<=x):∀(l:List (Int×Int)),(∀x,x∈l->okU x/\Spn r x.1.toNat)->
   upP l=PV (fun b=>upS (vl 64 b) l) r/\dnP l=PV (fun b=>dnS (vl 64 b) l) r
 | [],_=>by
   constructor
   . exact(Yg7 r).symm
   . exact(Yg7 r).symm
 |x::l,hl=>by
   obtain⟨i1,i2⟩:=P_is hc h2 l fun y hy=>hl y (YHg _ hy)
   obtain⟨hx,hs⟩:=hl x (YHh ..)
   obtain⟨n1,n2,n3⟩:=Ydl hx
   have e:=(PV_is hc h2 hs).2 (by omega)
   rw[upP,dnP,i1,i2]
   by_cases c:x.2<0
   . rw[if_pos c,if_pos c]
     constructor
     . rw[YHN]
       exact YbH fun b _=>by rw[upS,if_pos c,YH0]
     . have:∀b,dnS (vl 64 b) (x::l)=vl 64 b x.1.toNat*(-x.2).toNat+dnS (vl 64 b) l:=fun b=>by rw[dnS,if_pos c]
       rw[YbH fun b _=>this b,Yny,Yp5,e]
   . rw[if_neg c,if_neg c]
     constructor
     . have:∀b,upS (vl 64 b) (x::l)=vl 64 b x.1.toNat*x.2.toNat+upS (vl 64 b) l:=fun b=>by rw[upS,if_neg c]
       rw[YbH fun b _=>this b,Yny,Yp5,e]
     . rw[YHN]
       exact YbH fun b _=>by rw[dnS,if_neg c,YH0]
theorem Yma{l:List (Int×Int)}(hl:∀x,x∈l->okU x)(hn:l.length<=20)(h:oneF l=true):upP l=dnP l:=by
 have hT:∀x,x∈l->okT x:=fun x hx=>YEm (hl x hx)
 obtain⟨hc,hs⟩:=YnY hT hn
 have hr:=Yhk hT hn
 obtain⟨e1,e2⟩:=P_is hc (fun x hx=>(hr x hx).1) l fun x hx=>⟨hl x hx,hs x hx⟩
 rw[e1,e2]
 refine YbH fun b hb=>?_
 have hb2:=hr b hb
 have h0:=of_decide_eq_true (List.all_eq_true.1 h b hb)
 unfold sumB at h0
 rw[YtM hb2.1 hb2.2 l 0 hl (by omega) (by omega) (by omega)]at h0
 omega
def Und(l:List (Int×Int))(p:Nat):Prop:=upS (fun n=>(lN n p).1) l<=dnS (fun n=>(lN n p).2) l/\dnS (fun n=>(lN n p).1) l<=upS (fun n=>(lN n p).2) l
theorem YsJ{a b K:Nat}(h:a^K<b^K):a<b:=by
 refine Nat.lt_of_not_le fun hh=>?_
 have:=YHe hh K
 omega
theorem Yap{a b x y K:Nat}(ha:a^K<=2^x)(hb:2^y<=b^K)(h:x<y):a<b:=by
 refine YsJ (K:=K) ?_
 have:(2:Nat)^x<2^y:=(Nat.pow_lt_pow_iff_right (by decide)).2 h
 omega
theorem Ynh{l:List (Int×Int)}(hl:∀x,x∈l->okU x)(hn:l.length<=20):∀(f p:Nat),1<=f->1<=p->p*2^f=4096->
   (YcJ f l p=1->dnP l<upP l)/\(YcJ f l p= -1->upP l<dnP l)/\(YcJ f l p=0->Und l 2048)/\(YcJ f l p=1\/YcJ f l p= -1\/YcJ f l p=0):=by
 intro f
 induction f with
 |zero=>intro p h;omega
 |succ f ih=>
   intro p _ hp1 hp
   have h1:=YH f
   rw[YHo]at hp
   have hp2:p<=2048:=by
     have:p*2<=p*(2^f*2):=YG5 _ (by omega)
     omega
   have hs:=YtN (p:=p) hp2 hl (by omega)
   obtain⟨⟨a1,a2⟩,b1,b2⟩:=YaO (K:=2^p) (g:=fun n=>(lN n p).1) (h:=fun n=>(lN n p).2) (fun n k1 k2=>YgT k1 k2) l hl
   rw[YcJ,hs]
   dsimp only
   by_cases c1:dnS (fun n=>(lN n p).2) l<upS (fun n=>(lN n p).1) l
   . rw[if_pos c1]
     exact⟨fun _=>Yap b2 a1 c1,fun h=>absurd h (by decide),fun h=>absurd h (by decide),Or.inl rfl⟩
   . rw[if_neg c1]
     by_cases c2:upS (fun n=>(lN n p).2) l<dnS (fun n=>(lN n p).1) l
     . rw[if_pos c2]
       exact⟨fun h=>absurd h (by decide),fun _=>Yap a2 b1 c2,fun h=>absurd h (by decide),Or.inr (Or.inl rfl)⟩
     . rw[if_neg c2]
       rcases YHR f with h0|h0
       . subst h0
         have e:p=2048:=by rw[Nat.pow_zero]at hp;omega
         subst e
         exact⟨fun h=>absurd h (by rw[YcJ];decide),fun h=>absurd h (by rw[YcJ];decide),fun _=>⟨by omega,by omega⟩,Or.inr (Or.inr rfl)⟩
       . exact ih (2*p) h0 (by omega) (by rw[<-hp,YG4 2 p,YG6,YG4 2])
theorem YpP{l:List (Int×Int)}(hl:∀x,x∈l->okU x)(hn:l.length<=20):
   (YdA l=1->dnP l<upP l)/\(YdA l= -1->upP l<dnP l)/\(YdA l=0->oneF l=true\/Und l 2048)/\(YdA l=1\/YdA l= -1\/YdA l=0):=by
 have hg:=Yow hl (by omega)
 obtain⟨⟨a1,a2⟩,b1,b2⟩:=YaO (K:=2^28) (g:=fun n=>(qN n).1) (h:=fun n=>(qN n).2) (fun n k1 k2=>YoR k1 k2) l hl
 unfold YdA
 by_cases c1:dnS (fun n=>(qN n).2) l<upS (fun n=>(qN n).1) l
 . rw[if_pos c1]at hg
   rw[hg,if_pos rfl]
   exact⟨fun _=>Yap b2 a1 c1,fun h=>absurd h (by decide),fun h=>absurd h (by decide),Or.inl rfl⟩
 . rw[if_neg c1]at hg
   by_cases c2:upS (fun n=>(qN n).2) l<dnS (fun n=>(qN n).1) l
   . rw[if_pos c2]at hg
     rw[hg,if_pos rfl]
     exact⟨fun h=>absurd h (by decide),fun _=>Yap a2 b1 c2,fun h=>absurd h (by decide),Or.inr (Or.inl rfl)⟩
   . rw[if_neg c2]at hg
     rw[hg,if_neg (by decide)]
     by_cases c3:oneF l=true
     . rw[if_pos c3]
       exact⟨fun h=>absurd h (by decide),fun h=>absurd h (by decide),fun _=>Or.inl c3,Or.inr (Or.inr rfl)⟩
     . rw[if_neg c3]
       obtain⟨k1,k2,k3,k4⟩:=Ynh hl hn 6 64 (by decide) (by decide) (by decide)
       exact⟨k1,k2,fun h=>Or.inr (k3 h),k4⟩
theorem YB5{g h w:Nat->Nat}{c:Nat}:∀(l:List (Int×Int)),(∀x,x∈l->h x.1.toNat<=g x.1.toNat+w x.1.toNat*c)->upS h l<=upS g l+upS w l*c/\dnS h l<=dnS g l+dnS w l*c
 | [],_=>by simp [upS,dnS]
 |x::l,H=>by
   obtain⟨i1,i2⟩:=YB5 l fun y hy=>H y (YHg _ hy)
   have hx:=H x (YHh ..)
   have key:∀e:Nat,h x.1.toNat*e<=g x.1.toNat*e+w x.1.toNat*e*c:=fun e=>by
     have h1:=YG3 e hx
     rw[YHr]at h1
     rw[YG6 (w x.1.toNat),YG4 e c,<-YG6]
     exact h1
   rw[upS,upS,upS,dnS,dnS,dnS,YHr,YHr]
   constructor
   . split
     . rw[Nat.zero_mul];omega
     . have:=key x.2.toNat;omega
   . split
     . have:=key (-x.2).toNat;omega
     . rw[Nat.zero_mul];omega
theorem Ypd{l:List (Int×Int)}{J:Nat}{w:Nat->Nat}(hJ:J<=2048)(hl:∀x,x∈l->okU x)(hw:∀x,x∈l->(lN x.1.toNat 2048).2<=(lN x.1.toNat 2048).1+w x.1.toNat*2^(2048-J))(h:Und l 2048):
   dnP l^(2^J)<=upP l^(2^J)*2^(upS w l+dnS w l):=by
 obtain⟨⟨a1,a2⟩,b1,b2⟩:=YaO (K:=2^2048) (g:=fun n=>(lN n 2048).1) (h:=fun n=>(lN n 2048).2) (fun n k1 k2=>YgT k1 k2) l hl
 obtain⟨s1,s2⟩:=YB5 (g:=fun n=>(lN n 2048).1) (h:=fun n=>(lN n 2048).2) (w:=w) (c:=2^(2048-J)) l hw
 obtain⟨_,h2⟩:=h
 obtain⟨c,hc⟩:∃c,c=2^(2048-J):=⟨_,rfl⟩
 obtain⟨K,hK⟩:∃K,K=(2:Nat)^2048:=⟨_,rfl⟩
 have hc0:c≠0:=by rw[hc];have:=YH (2048-J);omega
 have hKc:K=2^J*c:=by rw[hK,hc,<-YHa];congr 1;omega
 rw[<-hc]at s1 s2
 rw[<-hK]at a1 a2 b1 b2
 rw[<-Nat.pow_le_pow_iff_left hc0,YHy,<-YHf,<-YHf,<-hKc,<-YHf,YHr]
 refine YHc b2 ?_
 refine YHc (YHl (by decide) (show _<=upS (fun n=>(lN n 2048).1) l+(upS w l*c+dnS w l*c)by omega)) ?_
 rw[YHa]
 exact YG3 _ a1
theorem bern(Q:Nat):∀n,Q^n*(Q+n)<=Q*(Q+1)^n
 |0=>by simp
 |n+1=>by
   have ih:=bern Q n
   have h1:Q^(n+1)*(Q+(n+1))=Q*(Q^n*(Q+n))+Q*Q^n:=by
     rw[YHo,<-Nat.add_assoc,YH7,YH8,YG4 (Q^n) Q,YG6]
   have h2:Q*(Q+1)^(n+1)=Q*(Q*(Q+1)^n)+Q*(Q+1)^n:=by
     rw[YHo,YH7,YH8,YH7,YG4 ((Q+1)^n) Q]
   have h3:=YG5 Q (YHe (show Q<=Q+1 by omega) n)
   have h4:=YG5 Q ih
   omega
theorem Yxu(Q:Nat)(hQ:0<Q):2*Q^Q<=(Q+1)^Q:=by
 have:=bern Q Q
 refine Nat.le_of_mul_le_mul_left (c:=Q) ?_ hQ
 have e:Q*(2*Q^Q)=Q^Q*(Q+Q):=by rw[YH7,Nat.two_mul,YH7,YG4 Q]
 omega
def Near(M W J N m:Nat):Prop:=2^m*M<=N^(2^J)*M+2^m*W/\N^(2^J)*M<=2^m*(M+W)
theorem Near.mono{M W W' J N m:Nat}(h:Near M W J N m)(hw:W<=W'):Near M W' J N m:=by
 obtain⟨h1,h2⟩:=h
 have k1:=YG5 (2^m) hw
 have k2:=YG5 (2^m) (show M+W<=M+W' by omega)
 exact⟨by omega,by omega⟩
theorem Near.sq{M W J N m:Nat}(hM:0<M)(hW:W<=M)(h:Near M W J N m):Near M (3*W) (J+1) N (2*m):=by
 obtain⟨h1,h2⟩:=h
 unfold Near
 have e0:N^2^(J+1)=N^2^J*N^2^J:=by rw[YHo,YHf,Nat.pow_two]
 rw[e0,Yd7]
 generalize N^2^J=X at*
 generalize 2^m=P at*
 constructor
 . refine YHp (c:=M) ?_ hM
   have k1:P*(M-W)<=X*M:=by rw[Nat.mul_sub];omega
   have k2:=YHi k1 k1
   obtain⟨V,hV⟩:∃V,V=M-W:=⟨_,rfl⟩
   have hM2:M=V+W:=by omega
   rw[<-hV]at k2
   have e1:P*V*(P*V)=P*P*(V*V):=by simp only[YG6,YHw]
   have e2:(X*M)*(X*M)=X*X*M*M:=by simp only[YG6,YHw]
   have e3:P*P*M*M=P*P*(M*M):=by simp only[YG6]
   have e4:(X*X*M+P*P*(3*W))*M=X*X*M*M+P*P*(3*W*M):=by rw[YHr,YG6 (P*P)]
   have e5:M*M<=V*V+3*W*M:=by
     rw[hM2,YHr,YH7,YH7,YH7]
     have:W*V=V*W:=YG4 ..
     have h3:3*W*V=3*(W*V):=YG6 ..
     have h4:3*W*W=3*(W*W):=YG6 ..
     omega
   have e6:=YG5 (P*P) e5
   rw[YH7]at e6
   omega
 . refine YHp (c:=M) ?_ hM
   have k2:=YHi h2 h2
   have e1:P*(M+W)*(P*(M+W))=P*P*((M+W)*(M+W)):=by simp only[YG6,YHw]
   have e2:(X*M)*(X*M)=X*X*M*M:=by simp only[YG6,YHw]
   have e3:P*P*(M+3*W)*M=P*P*((M+3*W)*M):=by simp only[YG6]
   have e5:(M+W)*(M+W)<=(M+3*W)*M:=by
     rw[YHr,YH7,YH7,YHr]
     have h3:3*W*M=3*(W*M):=YG6 ..
     have h4:M*W=W*M:=YG4 ..
     have h5:=YG5 W hW
     omega
   have e6:=YG5 (P*P) e5
   omega
theorem Yy2(M:Nat)(hM:0<M):∀(J f A B S N w:Nat),J<=f->2^S*A<=N*M->N*M<=2^S*B->M<=A->A<=B->B<=2*M->B<=A+w->
   (gl M false f A B S).2<=(gl M false f A B S).1+2^(f-J)\/∃j m,j<=J/\Near M (4^j*(w+2)) j N m:=by
 intro J
 induction J with
 |zero=>
   intro f A B S N w _ _ _ _ _ _ _
   obtain⟨h1,h2⟩:=YhB M false f A B S
   rw[YHr,YHN]at h2
   left
   rw[Nat.sub_zero]
   omega
 |succ J ih=>
   intro f A B S N w hf h1 h2 ha hab hb hw
   obtain⟨f,rfl⟩:∃g,f=g+1:=⟨f-1,by omega⟩
   have hA:A*A/M*M<=A*A:=YHU _ _
   have hA':A*A<(A*A/M+1)*M:=by
     have:=YHH (A*A) M
     have h3:=YHT (A*A) hM
     rw[YHr,YHN,YG4 (A*A/M)];omega
   have hB:B*B<=cdiv (B*B) M*M:=YbI _ _ hM
   have k1:=Yxq hM h1 hA
   have k2:=YtI hM h2 hB
   have hA1:M<=A*A/M:=(YHI hM).2 (YHi ha ha)
   have hAB:A*A/M<=cdiv (B*B) M:=Yeo (YHi hab hab)
   have hB1:cdiv (B*B) M<=4*M:=YaV (by
     have:=YHi hb hb
     have e:4*M*M=2*M*(2*M):=by rw[Nat.mul_mul_mul_comm,YG6]
     omega)
   have hW:cdiv (B*B) M<=A*A/M+(4*w+2):=YaV (by
     obtain⟨v,rfl⟩:∃v,B=A+v:=⟨B-A,by omega⟩
     have e:(A+v)*(A+v)=A*A+v*(A+(A+v)):=by
       rw[YH7,YHr A v A,YH7 v A,YG4 (A+v) v]
       omega
     have e2:v*(A+(A+v))<=w*(4*M):=YHi (by omega) (by omega)
     have e3:(A*A/M+(4*w+2))*M=(A*A/M+1)*M+w*(4*M)+M:=by
       rw[YHr,YHr,YHr]
       have:4*w*M=w*(4*M):=by rw[YG4 4 w,YG6]
       omega
     omega)
   have lift:∀{j w':Nat},w'+2<=4*(w+2)->∀{m},j<=J->Near M (4^j*(w'+2)) j (N*N) m->∃j m,j<=J+1/\Near M (4^j*(w+2)) j N m:=fun {j w'} hw' {m} hj hn=>by
     refine⟨j+1,m,by omega,?_⟩
     have hm:4^j*(w'+2)<=4^(j+1)*(w+2):=by
       rw[YHo,YG6]
       exact YG5 _ hw'
     have:=hn.mono hm
     unfold Near at this⊢
     rw[YoL]
     exact this
   rw[gl,Nat.add_sub_add_right]
   split
   . split
     . have:=ih f (A*A/M) (cdiv (B*B) M) (2*S) (N*N) (4*w+2) (by omega) (by rw[Yd7];exact k1) (by rw[Yd7];exact k2) hA1 hAB (by omega) hW
       rcases this with h| ⟨j,m,hj,hn⟩
       . exact Or.inl h
       . exact Or.inr (lift (by omega) hj hn)
     . right
       refine⟨1,2*S+1,by omega,?_⟩
       unfold Near
       rw[Nat.pow_one,Nat.pow_two,Nat.pow_one,YHo,Yd7]
       have g1:2^S*2^S*(2*M)<=2^S*2^S*(A*A/M+(4*w+2)):=YG5 _ (by omega)
       have g2:2^S*2^S*cdiv (B*B) M<=2^S*2^S*(2*M+(4*w+2)):=YG5 _ (by omega)
       generalize 2^S*2^S=P at*
       rw[YH7]at g1 g2
       have e1:P*2*M=P*(2*M):=YG6 ..
       have e2:P*2*(4*(w+2))=P*(4*w+2)+P*(4*w+14):=by rw[YG6,<-YH7];congr 1;omega
       have e3:P*2*(M+4*(w+2))=P*(2*M)+(P*(4*w+2)+P*(4*w+14)):=by rw[YH7,e1,e2]
       exact⟨by omega,by omega⟩
   . rw[if_neg (by simp)]
     have c1:A*A/M/2*2<=A*A/M:=YHU _ _
     have c2:cdiv (B*B) M<=cdiv (cdiv (B*B) M) 2*2:=YbI _ _ (by decide)
     have e3:∀x,2^(2*S+1)*x=2^S*2^S*(x*2):=fun x=>by rw[YHo,Yd7,YG6,YG4 2 x]
     have:=ih f (A*A/M/2) (cdiv (cdiv (B*B) M) 2) (2*S+1) (N*N) (2*w+2) (by omega) (by rw[e3];exact YHc (YG5 _ c1) k1) (by rw[e3];exact YHc k2 (YG5 _ c2)) (by omega) (Yeo hAB) (YaV (by omega)) (YaV (by omega))
     rcases this with h| ⟨j,m,hj,hn⟩
     . exact Or.inl h
     . exact Or.inr (lift (by omega) hj hn)
theorem Near.up{M N:Nat}(hM:0<M):∀(d j W m:Nat),4^d*W<=M->Near M W j N m->∃m',Near M (4^d*W) (j+d) N m'
 |0,j,W,m,_,h=>⟨m,by rw[Nat.pow_zero,YHN];exact h⟩
 |d+1,j,W,m,hW,h=>by
   have e:4^(d+1)*W=4*(4^d*W):=by rw[YHo,YG4 (4^d) 4,YG6]
   rw[e]at hW
   obtain⟨m',h'⟩:=Near.up hM d j W m (by omega) h
   exact⟨2*m',by rw[e];exact(Near.sq hM (by omega) h').mono (by omega)⟩
def YbF(J n:Nat):Prop:=(lN n 2048).2<=(lN n 2048).1+2^(2048-J)
theorem YsU{n J:Nat}(h1:1<=n)(h2:n<4611686018427387904)(hJ:J<=500):YbF J n\/(YaY (n:Int)=false/\∃m,Near (2^4160) (2^2160) J n m):=by
 unfold YbF lN
 by_cases c:YaY (n:Int)=true
 . rw[if_pos c]
   left;exact Nat.le_add_right _ _
 . rw[if_neg c]
   have hk:lgK n<62:=YdX (by decide) h2
   obtain⟨m1,m2,m3⟩:=mant (D:=2*2048+64) h1 (by omega)
   rw[show 2*2048+64=4160 from rfl]at*
   have hM:=YH 4160
   have:=Yy2 (2^4160) hM J 2048 _ _ (lgK n) n 0 (by omega) (YH2 m3) (YH2 m3.symm) m1 (YG8 _) (Nat.le_of_lt m2) (by omega)
   rcases this with h| ⟨j,m,hj,hn⟩
   . exact Or.inl h
   . right
     have e4:∀a,(4:Nat)^a=2^(2*a):=fun a=>by rw[show 4=2^2 from rfl,<-YHf]
     have hle:∀e,1001<=e->4^(J-j)*(4^j*(0+2))<=2^e:=fun e he=>by
       rw[<-YG6,<-YHa,show J-j+j=J by omega,e4,show 0+2=2^1 from rfl,<-YHa]
       exact YHl (by decide) (by omega)
     obtain⟨m',h'⟩:=Near.up hM (J-j) j _ m (hle 4160 (by decide)) hn
     rw[show j+(J-j)=J by omega]at h'
     exact⟨by simpa using c,m',h'.mono (hle 2160 (by decide))⟩
def RtJ(R J x y m:Nat):Prop:=x^(2^J)<=2^m*R^(2^J)/\2^m*R^(2^J)<=y^(2^J)
theorem RtJ.next{R J x y m c d:Nat}(hR:0<R)(h:RtJ R J x y m)(hc:RtJ R J c d 1):RtJ R J (x*c/R) (y*d/R+1) (m+1):=by
 obtain⟨h1,h2⟩:=h
 obtain⟨c1,c2⟩:=hc
 rw[Nat.pow_one]at c1 c2
 unfold RtJ
 generalize 2^J=Q at*
 have hRQ:0<R^Q:=YHO hR
 rw[YHo]
 generalize 2^m=P at*
 constructor
 . refine YHp (c:=R^Q) ?_ hRQ
   have k1:(x*c/R*R)^Q<=(x*c)^Q:=YHe (YHU _ _) _
   rw[YHy,YHy]at k1
   have k2:=YHi h1 c1
   have e:P*R^Q*(2*R^Q)=P*2*R^Q*R^Q:=by simp only[YG6,YHw]
   omega
 . refine YHp (c:=R^Q) ?_ hRQ
   have k0:y*d<=(y*d/R+1)*R:=by
     have:=YHH (y*d) R
     have h3:=YHT (y*d) hR
     rw[YHr,YHN,YG4 (y*d/R)];omega
   have k1:(y*d)^Q<=((y*d/R+1)*R)^Q:=YHe k0 _
   rw[YHy,YHy]at k1
   have k2:=YHi h2 c2
   have e:P*R^Q*(2*R^Q)=P*2*R^Q*R^Q:=by simp only[YG6,YHw]
   omega
theorem Ysj{n p q:Nat}(h1:1<=n)(h2:n<4611686018427387904)(hp:p<=q):(lN n p).1*2^(q-p)<=(lN n q).1/\(lN n q).2<=(lN n p).2*2^(q-p):=by
 unfold lN
 by_cases c:YaY (n:Int)=true
 . rw[if_pos c,if_pos c]
   have e:lgK n*2^p*2^(q-p)=lgK n*2^q:=by
     rw[YG6,<-YHa];congr 2;omega
   simp only
   rw[e];exact⟨YG8 _,YG8 _⟩
 . rw[if_neg c,if_neg c]
   have hk:lgK n<62:=YdX (by decide) h2
   have eM:(2:Nat)^(2*q+64)=2^(2*p+64)*2^(2*(q-p)):=by
     rw[<-YHa];congr 1;omega
   have eA:n*2^(2*q+64-lgK n)=2^(2*(q-p))*(n*2^(2*p+64-lgK n)):=by
     rw[show 2*q+64-lgK n=2*(q-p)+(2*p+64-lgK n)by omega,YHa,YHw]
   have:=YlI (2^(2*p+64)) (2^(2*(q-p))) false (YH _) (YH _) (q-p) p (n*2^(2*p+64-lgK n)) (n*2^(2*p+64-lgK n)) (lgK n) _ _ (YH2 eA.symm) (YG8 _) (YH2 eA)
   rw[<-eM,show p+(q-p)=q by omega]at this
   exact this
theorem YmF(g:Nat->Nat)(c:Nat):∀l:List (Int×Int),upS (fun n=>g n*c) l=upS g l*c/\dnS (fun n=>g n*c) l=dnS g l*c
 | []=>by simp [upS,dnS]
 |x::l=>by
   obtain⟨a,b⟩:=YmF g c l
   rw[upS,dnS,upS,dnS,a,b]
   constructor
   . split
     . simp
     . rw[YHr,Nat.mul_right_comm]
   . split
     . rw[YHr,Nat.mul_right_comm]
     . simp
def hiN(n:Nat):Nat:=(lN n 2048).2
def loN(n:Nat):Nat:=(lN n 2048).1
def KB:Nat:=2^2048
def DD:Nat:=2^(2048-100)
def C48:Nat:=2^(2048-48)
theorem Ydk{n:Nat}(h1:1<=n)(h2:n<4611686018427387904):2^loN n<=n^KB/\n^KB<=2^hiN n:=by
 have h:=YgT (p:=2048) h1 h2
 unfold loN hiN KB
 exact h
theorem YoQ{a b c:Nat}(h:a=b+c):(2:Nat)^a=2^b*2^c:=by rw[h,YHa]
theorem KB_is:KB=2^100*DD/\C48=2^52*DD:=by
 have e1:2048=100+(2048-100):=rfl
 have e2:2048-48=52+(2048-100):=rfl
 have h1:=YoQ e1
 have h2:=YoQ e2
 unfold KB C48 DD
 exact⟨h1,h2⟩
theorem Yl4{n:Nat}(h:YbF 100 n):hiN n<=loN n+DD:=by
 unfold hiN loN DD
 exact h
theorem YsT{n:Nat}(h:YbF 48 n):hiN n<=loN n+C48:=by
 unfold hiN loN C48
 exact h
attribute [irreducible] KB DD C48
theorem Yob{l:List (Int×Int)}(hl:∀x,x∈l->okU x){p:Nat}{lo hi:Nat->Nat}(hlo:∀n,1<=n->n<4611686018427387904->lo n*2^p<=loN n)(hhi:∀n,1<=n->n<4611686018427387904->hiN n<=hi n*2^p)
   (h:upS hi l<dnS lo l):upS hiN l<dnS loN l:=by
 have a:=(Yk1 (g:=hiN) (h:=fun n=>hi n*2^p) hhi l hl).1
 have b:=(Yk1 (g:=fun n=>lo n*2^p) (h:=loN) hlo l hl).2
 rw[(YmF hi _ l).1]at a
 rw[(YmF lo _ l).2]at b
 have:=Nat.mul_lt_mul_of_pos_right h (YH p)
 omega
theorem YtA{l:List (Int×Int)}(hl:∀x,x∈l->okU x)(hn:l.length<=20):∀(f p:Nat),1<=f->1<=p->p*2^f=4096->YcJ f l p= -1->upS hiN l<dnS loN l:=by
 intro f
 induction f with
 |zero=>intro p h;omega
 |succ f ih=>
   intro p _ hp1 hp
   have h1:=YH f
   rw[YHo]at hp
   have hp2:p<=2048:=by
     have:p*2<=p*(2^f*2):=YG5 _ (by omega)
     omega
   have hs:=YtN (p:=p) hp2 hl (by omega)
   rw[YcJ,hs]
   dsimp only
   by_cases c1:dnS (fun n=>(lN n p).2) l<upS (fun n=>(lN n p).1) l
   . rw[if_pos c1]
     exact fun h=>absurd h (by decide)
   . rw[if_neg c1]
     by_cases c2:upS (fun n=>(lN n p).2) l<dnS (fun n=>(lN n p).1) l
     . intro _
       exact Yob hl (p:=2048-p) (fun n a b=>(Ysj a b hp2).1) (fun n a b=>(Ysj a b hp2).2) c2
     . rw[if_neg c2]
       rcases YHR f with h0|h0
       . subst h0
         exact fun h=>absurd h (by rw[YcJ];decide)
       . exact ih (2*p) h0 (by omega) (by rw[<-hp,YG4 2 p,YG6,YG4 2])
theorem Ywe{l:List (Int×Int)}(hl:∀x,x∈l->okU x)(hn:l.length<=20)(h:YdA l= -1):upS hiN l<dnS loN l:=by
 have hg:=Yow hl (by omega)
 unfold YdA at h
 by_cases c1:dnS (fun n=>(qN n).2) l<upS (fun n=>(qN n).1) l
 . rw[if_pos c1]at hg
   rw[hg,if_pos rfl]at h
   exact absurd h (by decide)
 . rw[if_neg c1]at hg
   by_cases c2:upS (fun n=>(qN n).2) l<dnS (fun n=>(qN n).1) l
   . exact Yob hl (p:=2048-28) (fun n a b=>(YlU a b (by decide)).1) (fun n a b=>(YlU a b (by decide)).2) c2
   . rw[if_neg c2]at hg
     rw[hg,if_neg (by decide)]at h
     by_cases c3:oneF l=true
     . rw[if_pos c3]at h
       exact absurd h (by decide)
     . rw[if_neg c3]at h
       exact YtA hl hn 6 64 (by decide) (by decide) (by decide) h
theorem Yng{l:List (Int×Int)}(hl:∀x,x∈l->okU x)(hn:l.length<=20):0<=YdA l↔dnS loN l<=upS hiN l:=by
 obtain⟨g1,g2,g3,g4⟩:=YpP hl hn
 constructor
 . intro h
   refine Nat.le_of_not_lt fun hlt=>?_
   obtain⟨⟨a1,a2⟩,b1,b2⟩:=YaO (K:=KB) (g:=loN) (h:=hiN) (fun n k1 k2=>Ydk k1 k2) l hl
   have hP:=Yap a2 b1 hlt
   rcases g4 with e|e|e
   . have:=g1 e;omega
   . omega
   . rcases g3 e with o|o
     . have:=Yma hl hn o;omega
     . have:dnS loN l<=upS hiN l:=o.2
       omega
 . intro h
   rcases g4 with e|e|e
   . omega
   . have:=Ywe hl hn e;omega
   . omega
theorem Yp3{b:Nat}(e:Nat->Nat):∀{r:List Nat},(∀x,x∈r->YH6 b x=1)->YH6 b (PV e r)=1
 | [],_=>by simp [PV]
 |c::r,h=>by
   have h1:Nat.Coprime b c:=h c (YHh ..)
   have h2:Nat.Coprime b (PV e r):=Yp3 e fun x hx=>h x (YHg _ hx)
   exact Nat.Coprime.mul_right (Nat.Coprime.pow_right _ h1) h2
theorem Ys9{b x y P P':Nat}(hb:2<=b)(h1:YH6 b P=1)(hP:0<P)(h:b^x*P=b^y*P'):y<=x:=by
 refine Nat.le_of_not_lt fun hlt=>?_
 obtain⟨d,rfl⟩:∃d,y=x+(d+1):=⟨y-x-1,by omega⟩
 rw[YHa,YG6]at h
 have h2:=Nat.eq_of_mul_eq_mul_left (YHO (by omega)) h
 have h3:b∣P:=by rw[h2,YHo,Nat.mul_right_comm];exact Nat.dvd_mul_left ..
 have h4:b∣YH6 b P:=Nat.dvd_gcd (Nat.dvd_refl b) h3
 rw[h1]at h4
 have:=Nat.le_of_dvd (by decide) h4
 omega
theorem Yp4{e:Nat->Nat}:∀{r:List Nat},(∀x,x∈r->2<=x)->0<PV e r
 | [],_=>by simp [PV]
 |b::r,h=>YHX (YHO (by have:=h b (YHh ..);omega)) (Yp4 fun x hx=>h x (YHg _ hx))
theorem YwA{e e':Nat->Nat}:∀{r:List Nat},Cop r->(∀x,x∈r->2<=x)->PV e r=PV e' r->∀b,b∈r->e b=e' b
 | [],_,_,_,b,hb=>by cases hb
 |c::r,hc,h2,h,b,hb=>by
   obtain⟨g1,g2⟩:=List.pairwise_cons.1 hc
   have h2':∀x,x∈r->2<=x:=fun x hx=>h2 x (YHg _ hx)
   have hc2:=h2 c (YHh ..)
   rw[PV,PV]at h
   have l1:=Ys9 hc2 (Yp3 e g1) (Yp4 h2') h
   have l2:=Ys9 hc2 (Yp3 e' g1) (Yp4 h2') h.symm
   have he:e c=e' c:=Nat.le_antisymm l2 l1
   rw[he]at h
   have h3:=Nat.eq_of_mul_eq_mul_left (YHO (by omega)) h
   rcases YHx.1 hb with rfl|hb
   . exact he
   . exact YwA g2 h2' h3 b hb
theorem YzP{l:List (Int×Int)}(hl:∀x,x∈l->okU x)(hn:l.length<=20):oneF l=true↔upP l=dnP l:=by
 refine⟨Yma hl hn,fun h=>?_⟩
 have hT:∀x,x∈l->okT x:=fun x hx=>YEm (hl x hx)
 obtain⟨hc,hs⟩:=YnY hT hn
 have hr:=Yhk hT hn
 obtain⟨e1,e2⟩:=P_is hc (fun x hx=>(hr x hx).1) l fun x hx=>⟨hl x hx,hs x hx⟩
 rw[e1,e2]at h
 refine List.all_eq_true.2 fun b hb=>decide_eq_true ?_
 have hb2:=hr b hb
 unfold sumB
 rw[YtM hb2.1 hb2.2 l 0 hl (by omega) (by omega) (by omega),YwA hc (fun x hx=>(hr x hx).1) h b hb]
 omega
end Go.Proofs.YtfjodiojchknmaaGreatDoor
