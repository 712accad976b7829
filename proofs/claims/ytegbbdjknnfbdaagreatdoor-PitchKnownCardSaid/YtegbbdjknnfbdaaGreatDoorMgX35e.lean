/- Signs of the program, walked: one. -/
import Derived.Test.YtegbbdjknnfbdaaGreatDoorMgX35d
import Derived.Test.YtegbbdjknnfbdaaGreatDoorProg
open And renaming intro->Yzm
open Bool renaming and_eq_true->Yzj
open Int renaming toNat_natCast->Yzh,toNat_of_nonneg->Yzt
open Go.IntWalk renaming i64_in->Yzi
open List renaming getD_eq_getElem?_getD->Yzl,length_append->Yzv,length_cons->Yzy,length_nil->Yzw,mem_append->YzF
open Nat renaming gcd->YzI,le_refl->Yzk,le_trans->YzE,lt_or_ge->Yzx,mod_lt->YzH,mul_comm->YzG,mul_le_mul_right->YzC,reduceAdd->Yzb,reduceEqDiff->Yzc,reduceLeDiff->Yzd
open Go.Proofs.Tryz renaming prog->Yzg
set_option linter.all false
namespace Go.Proofs.YtegbbdjknnfbdaaGreatDoor
open Go Go.Vx
set_option maxRecDepth 100000
set_option maxHeartbeats 4000000
def v72:VF:=⟨39,[.tmp 2],(ZR [u1 2 .mov [.cn (.bool false)]] (.seq (ZR [Zm 9 0,Zc 10 93 9,Zl 11 10,Zi 12 0] (.block 0 (.loop (ZR [Zr 13 .lss 12 11] (.seq (ZC 13 .skip (.exit 0)) (.seq (.block 1 (ZR [Zx 14 1 10 12,Zf 15 1 14,Zm 4 15] (ZR [Zi 5 0] (.seq (ZR [Zm 16 0,Zl 17 16,Zi 18 0] (.block 2 (.loop (ZR [Zr 19 .lss 18 17] (.seq (ZC 19 .skip (.exit 2)) (.seq (.block 3 (ZR [Zx 20 2 16 18,Zt 21 2 20,Zn 7,Zs 2 7 21] (ZR [Za 22 0 7,Zf 23 1 22,Zm 8 23] (.block 4 (.loop (.seq (ZR [Zm 24 8,Zm 25 4,u1 26 .rem [.tm 24,.tm 25],Zq 27 .eql 26 0] (ZC 27 .skip (.exit 4))) (.seq (.block 5 (.region [Zm 31 5,Za 32 1 7,Zf 33 1 32,Zo 34 .add 31 33,Zm 5 34])) (.region [Zm 28 8,Zm 29 4,u1 30 .quo [.tm 28,.tm 29],Zm 8 30])))))))) (.region [Zp 35 18 1,Zm 18 35]))))))) (ZR [Zm 36 5,Zq 37 .neq 36 0] (ZC 37 (ZR [u1 2 .mov [.cn (.bool false)]] .ret) .skip)))))) (.region [Zp 38 12 1,Zm 12 38]))))))) (ZR [u1 2 .mov [.cn (.bool true)]] .ret)))⟩
theorem YyN:Yh Yzg Tryz.f72=some v72:=by kernel_rfl
def divL:Nat->Int->Int->Int->Int->Int
 |0,_,_,_,s=>s
 |f+1,b,n,num,s=>if n.tmod b=0 then divL f b (IntKind.i64.wrap (n.tdiv b)) num (IntKind.i64.wrap (s+num))else s
def sumB(l:List (Int×Int))(b:Nat):Int:=l.foldl (fun s x=>divL 64 b x.1 x.2 s) 0
def oneF(l:List (Int×Int)):Bool:=(Yj6 l).all fun b=>decide (sumB l b=0)
theorem YdN{B:Nat}:∀{f:Nat}{wait out:List Nat},DrOk B f wait out->(∀x,x∈Ydn f wait out->2<=x/\x<=1099511627776)/\YK (Yv (Ydn f wait out))<=B
 |0,wait,out,h=>by
   rw[Ydn]
   have hw:wait=[]:=List.length_eq_zero_iff.1 (by have:=h.mu;omega)
   have:=h.pb
   rw[hw,show Yv out*Yv []=Yv out from Nat.mul_one _]at this
   exact⟨h.op,this⟩
 |f+1,wait,out,h=>by
   rw[Ydn]
   by_cases hw:wait.length=0
   . rw[if_pos hw]
     have hw:wait=[]:=List.length_eq_zero_iff.1 hw
     have:=h.pb
     rw[hw,show Yv out*Yv []=Yv out from Nat.mul_one _]at this
     exact⟨h.op,this⟩
   . rw[if_neg hw]
     by_cases h1:wait.getD (wait.length-1) 0=1
     . rw[if_pos h1]
       obtain⟨g,hg,hd⟩:=h.pop hw h1
       obtain rfl:f=g:=by omega
       exact YdN hd
     . rw[if_neg h1]
       by_cases h2:hitF out (wait.getD (wait.length-1) 0)<out.length
       . rw[if_pos h2]
         have hs:=(Ydv (f:=fun i=>decide (1<YzI (out.getD i 0) (wait.getD (wait.length-1) 0))) out.length 0).2.2.2 (by simpa [hitF]using h2)
         obtain⟨g,hg,hd⟩:=h.hit hw h2 (of_decide_eq_true hs)
         obtain rfl:f=g:=by omega
         exact YdN hd
       . rw[if_neg h2]
         obtain⟨g,hg,hd⟩:=h.push hw h1
         obtain rfl:f=g:=by omega
         exact YdN hd
theorem YnG{l:List (Int×Int)}(hl:∀x,x∈l->okT x)(hn:l.length<=20):∀x,x∈Yj6 l->2<=x/\x<=1099511627776:=by
 have key:∀i,i<=l.length->(∀x,x∈(l.take i).foldl Ycg []->2<=x/\x<=1099511627776)/\YK (Yv ((l.take i).foldl Ycg []))<=40*i+1:=fun i=>by
   induction i with
   |zero=>exact fun _=>⟨fun x hx=>absurd hx (by simp),by simp [Yv];decide⟩
   |succ i ih=>
     intro hi
     obtain⟨h1,h2⟩:=ih (by omega)
     have hx:=hl _ (YP (by omega:i<l.length))
     rw[YM (by omega)]
     obtain⟨q0,q1,q2,q3⟩:=hx
     exact YdN (DrOk.start (by omega) (by omega) h1 h2 (by omega))
 have:=(key l.length (Yzk _)).1
 rwa [List.take_length]at this
theorem YnF(l:List (Int×Int)):(Yj6 l).length<=3000*l.length:=by
 have key:∀(l:List (Int×Int))(out:List Nat),(l.foldl Ycg out).length<=out.length+3000*l.length:=fun l=>by
   induction l with
   |nil=>intro out;simp
   |cons x l ih=>
     intro out
     have h1:=ih (Ycg out x)
     have h2:(Ycg out x).length<=out.length+3000:=Yn4
     rw[List.foldl_cons,Yzy]
     omega
 have h:=key l []
 rw[Yzw,Nat.zero_add]at h
 exact h
def oneC:Ctr:={ alias:=false,of:=fun l=>match l with
 | [.vs _ _ n sz get]=> .ex (List (Int×Int)) fun l=> .pre (lsP 2 enc2 n sz get l/\(∀x,x∈l->okT x)/\n<=20) (.fin (.bool (oneF l)) [])
 |_=> .pre False (.fin (.bool false) [])}
def RA9:Env:={ ct:=fun n=>match n with|93=>some baseC|_=>none,fn:=fun _=>none,meth:=fun _ _=>none}
theorem YkG:RA9.ct 93=some baseC:=rfl
theorem Yvn:Yp Yzg RA9:=by
 refine⟨fun f c h=>?_,fun f vf h=>?_,(fun _ _ _ h=>by cases h),by kernel_rfl,(fun _ h=>by cases h)⟩
 . simp only[RA9]at h
   split at h
   . cases h;exact⟨Ywf,Tryz.f93,Tryz.func93,by kernel_rfl,by kernel_rfl⟩
   . cases h
 . cases h
theorem YtE:oneC.ok Yzg 72:=by
 refine Yc Tryz.func72 YyN Yvn 500 oneC fun args k h=>?_
 simp only[oneC]at h
 split at h
 . rename_i tt z n sz get
   obtain⟨l,⟨⟨rfl,rfl,hg⟩,hl,hn⟩,h⟩:=h
   refine⟨[.vs tt z l.length 2 (fun k=>enc2 (l.getD k default))],⟨⟨id,rfl,rfl,rfl,hg⟩,trivial⟩,?_⟩
   dsimp only[v72,YkG,baseC,enc2,go_sem,reduceIte,Yzb]
   simp only[Yd,Yzb,Yzd,reduceCtorEq,Yzc]
   refine⟨l,⟨⟨rfl,rfl,fun k hk=>Yb _⟩,hl,hn⟩,fun y=>?_⟩
   have hbr:=YnG hl hn
   have hbl:=YnF l
   obtain⟨B,hB⟩:∃B,B=Yj6 l:=⟨_,rfl⟩
   rw[<-hB]at hbr hbl⊢
   have hone:oneF l=B.all fun b=>decide (sumB l b=0):=by rw[hB];rfl
   refine Loop.keep [0,9,0] Nat (fun i=>[(12,.int .i64 i)]) (fun _=>[]) [] (fun i=>i<=B.length/\((B.take i).all fun b=>decide (sumB l b=0))=true) (fun i=>B.length-i) ?_ ?_
   . refine⟨0,⟨by omega,rfl⟩,?_⟩
     dsimp only[go_sem,reduceIte,Yzb]
     simp only[Ya]
     rfl
   . rintro i ⟨hi,hall⟩
     dsimp only[YkG,baseC,encB,enc2,Yzh,go_sem,reduceIte,Yzb]
     simp only[Yd,Yzb,Yzd,reduceCtorEq,Yzc]
     refine⟨fun hlt=>⟨⟨by omega,by omega⟩,?_⟩,fun hge=>?_⟩
     . have hb:2<=B.getD i 0/\B.getD i 0<=1099511627776:=hbr _ (YP (l:=B) (i:=i) (by omega))
       have hsucc:((B.take (i+1)).all fun b=>decide (sumB l b=0))=decide (sumB l (B.getD i 0)=0):=by
         rw[Yir (by omega),hall,Bool.true_and];rfl
       have hmemb:B.getD i 0∈B:=YP (l:=B) (i:=i) (by omega)
       obtain⟨b,hbe⟩:∃b,b=B.getD i 0:=⟨_,rfl⟩
       rw[<-hbe]at hb hsucc hmemb⊢
       refine Loop.keep [0,3,5,0,0,3,0] (Nat×Int) (fun s=>[(5,.int .i64 s.2),(18,.int .i64 s.1)]) (fun _=>[]) [] (fun s=>s.1<=l.length/\s.2=(l.take s.1).foldl (fun s x=>divL 64 b x.1 x.2 s) 0) (fun s=>l.length-s.1) ?_ ?_
       . refine⟨(0,0),⟨by simp only;omega,rfl⟩,?_⟩
         dsimp only[go_sem,reduceIte,Yzb]
         simp only[Ya]
         rfl
       . rintro⟨t,S⟩ ⟨ht,hS⟩
         dsimp only at ht hS
         dsimp only[enc2,Yzh,go_sem,reduceIte,Yzb]
         simp only[Yd,Yzb,Yzd,reduceCtorEq,Yzc]
         refine⟨fun hlt2=>⟨⟨by omega,by omega⟩,?_⟩,fun hge2=>?_⟩
         . have hx:=hl _ (YP (by omega:t<l.length))
           have hst:(l.take (t+1)).foldl (fun s x=>divL 64 b x.1 x.2 s) 0=divL 64 b (l.getD t default).1 (l.getD t default).2 S:=by
             rw[YM (by omega),<-hS]
           generalize l.getD t default=x at hx hst⊢
           obtain⟨q0,q1,q2,q3⟩:=hx
           obtain⟨R,hR⟩:∃R,R=divL 64 b x.1 x.2 S:=⟨_,rfl⟩
           rw[<-hR]at hst
           refine Loop.keep [0,3,2,2,0,0,3,0,0] (Nat×Int×Int) (fun s=>[(5,.int .i64 s.2.2),(8,.int .i64 s.2.1)]) (fun _=>[]) [] (fun s=>R=divL s.1 b s.2.1 x.2 s.2.2/\1<=s.2.1/\s.2.1<2^s.1/\s.2.1<=1000000000001) (fun s=>s.1) ?_ ?_
           . refine⟨(64,x.1,S),⟨hR,q0,by simp only;omega,q1⟩,?_⟩
             dsimp only[go_sem,reduceIte,Yzb]
             simp only[Ya]
             decide
           . rintro⟨f,n,S'⟩ ⟨hf,n0,n1,n2⟩
             dsimp only at hf n0 n1 n2
             dsimp only[go_sem,reduceIte,Yzb]
             simp only[Yd,Yzb,Yzd,reduceCtorEq,Yzc]
             obtain⟨m,rfl⟩:=Int.eq_ofNat_of_zero_le (by omega:0<=n)
             obtain⟨g,rfl⟩:∃g,f=g+1:=by
               cases f with
               |zero=>simp at n1;omega
               |succ g=>exact⟨g,rfl⟩
             rw[divL]at hf
             refine⟨by omega,fun hc=>⟨by omega,?_⟩,fun hc=>?_⟩
             . rw[if_pos hc]at hf
               have e1:(m:Int).tmod (b:Int)=((m%b:Nat):Int):=IntWalk.up_tmod rfl rfl
               have e2:(m:Int).tdiv (b:Int)=((m/b:Nat):Int):=IntWalk.up_tdiv rfl rfl
               rw[e1]at hc
               have hdm:=Nat.div_add_mod m b
               rw[show m%b=0 by omega,Nat.add_zero]at hdm
               have hq1:1<=m/b:=Nat.pos_of_ne_zero fun hh=>by rw[hh,Nat.mul_zero]at hdm;omega
               have hq2:2*(m/b)<=m:=by
                 have:2*(m/b)<=b*(m/b):=YzC _ hb.1
                 omega
               rw[e2]at hf⊢
               generalize m/b=q at hq1 hq2 hf⊢
               have eq:IntKind.i64.wrap (q:Int)=(q:Int):=Yzi _ (by omega)
               rw[eq]at hf⊢
               have n1':m<2^g*2:=by rw[<-Nat.pow_succ];exact_mod_cast n1
               refine⟨(g,q,IntKind.i64.wrap (S'+x.2)),⟨hf,by simp only;omega,?_,by simp only;omega⟩,by simp only;omega,?_⟩
               . show(q:Int)<2^g
                 have:q<2^g:=by omega
                 exact_mod_cast this
               . simp only[Ya]
                 decide
             . rw[if_neg hc]at hf
               refine⟨(t+1,S'),⟨by simp only;omega,by rw[hst,hf]⟩,by simp only;omega,?_⟩
               rw[Yzi ((t:Int)+1) (by omega)]
               simp only[Ya]
               simp
         . obtain rfl:t=l.length:=by omega
           rw[List.take_length]at hS
           have hS:S=sumB l b:=hS
           refine⟨fun hc=>?_,fun hc=>⟨i+1,⟨by omega,?_⟩,by omega,?_⟩⟩
           . have:oneF l=false:=by
               rw[hone,List.all_eq_false]
               exact⟨b,hmemb,by rw[<-hS];simpa using hc⟩
             rw[this]at h
             exact Yaf h
           . rw[hsucc,<-hS];exact decide_eq_true hc
           . rw[Yzi ((i:Int)+1) (by omega)]
             simp only[Ya]
             simp
     . obtain rfl:i=B.length:=by omega
       rw[List.take_length]at hall
       rw[hone,hall]at h
       exact Yaf h
 . exact h.1.elim
def v67:VF:=⟨39,[.tmp 2],(ZR [Zi 2 0] (.seq (ZR [Zm 9 0,Zc 10 90 9,Zm 8 10,Ze 11 0 8,Ze 12 1 8,Zm 3 11,Zm 4 12] (ZR [Zm 13 4] (ZC 13 (ZR [Zm 14 3,Zm 2 14] .ret) .skip))) (.seq (ZR [Zm 15 0,Zc 16 72 15] (ZC 16 (ZR [Zi 2 0] .ret) .skip)) (.seq (ZR [Zi 5 64] (.block 0 (.loop (.seq (ZR [Zm 17 5,Zq 18 .leq 17 2048] (ZC 18 .skip (.exit 0))) (.seq (.block 1 (ZR [Zm 22 0,Zm 23 5,Zd 24 91 22 23,Zm 21 24,Ze 25 0 21,Ze 26 1 21,u1 6 (.alloc [.nil,.nil]) [],u1 7 (.alloc [.nil,.nil]) [],Zs 2 6 25,Zs 2 7 26] (.block 2 (ZR [Za 28 0 6,Zf 29 1 28,Za 30 1 7,Zf 31 1 30,Zd 32 92 29 31,Zm 27 32] (ZC 27 (ZR [Zi 2 1] .ret) (ZR [Za 34 0 7,Zf 35 1 34,Za 36 1 6,Zf 37 1 36,Zd 38 92 35 37,Zm 33 38] (ZC 33 (ZR [Zi 2 (-1)] .ret) .skip))))))) (.region [Zm 19 5,u1 20 (.ari .mul) [.tm 19,.cn (.int .i64 2)],Zm 5 20])))))) (ZR [Zi 2 0] .ret)))))⟩
theorem YyJ:Yh Yzg Tryz.f67=some v67:=by kernel_rfl
def v66:VF:=⟨33,[.tmp 2],(ZR [Zi 2 0] (.seq (ZR [Zm 5 0,Zl 6 5,Zq 7 .gtr 6 16] (ZC 7 (ZR [Zi 2 3] .ret) .skip)) (.seq (ZR [Zm 8 0,Zl 9 8,Zi 10 0] (.block 0 (.loop (ZR [Zr 11 .lss 10 9] (.seq (ZC 11 .skip (.exit 0)) (.seq (.block 1 (ZR [Zx 12 2 8 10,Zt 13 2 12,Zn 4,Zs 2 4 13] (ZR [Za 14 0 4,Zf 15 1 14,Zq 16 .lss 15 1,Zm 17 16,Zj 18 17 false 0 4,Zh 19 17 false 1 18,u2 20 17 false (.cmp .gtr) [.tm 19,.cn (.int .i64 1000000000000)],u1 21 .or [.tm 17,.tm 20],Zm 22 21,Zj 23 22 false 1 4,Zh 24 22 false 1 23,u2 25 22 false (.cmp .lss) [.tm 24,.cn (.int .i64 (-1000000000))],u1 26 .or [.tm 22,.tm 25],Zm 27 26,Zj 28 27 false 1 4,Zh 29 27 false 1 28,u2 30 27 false (.cmp .gtr) [.tm 29,.cn (.int .i64 1000000000)],u1 31 .or [.tm 27,.tm 30]] (ZC 31 (ZR [Zi 2 2] .ret) .skip)))) (.region [Zp 32 10 1,Zm 10 32]))))))) (ZR [Zi 2 0] .ret))))⟩
theorem YyI:Yh Yzg Tryz.f66=some v66:=by kernel_rfl
def YjO:Nat->List (Int×Int)->Nat->Int
 |0,_,_=>0
 |f+1,l,p=>if(Ycl l p).dh<(Ycl l p).ul then 1 else if(Ycl l p).uh<(Ycl l p).dl then -1 else YjO f l (2*p)
def Ykv(l:List (Int×Int)):Int:=if(Yjg l).2=true then(Yjg l).1 else if oneF l=true then 0 else YjO 6 l 64
def signC:Ctr:={ alias:=false,of:=fun l=>match l with
 | [.vs _ _ n sz get]=> .ex (List (Int×Int)) fun l=> .pre (lsP 2 enc2 n sz get l/\(∀x,x∈l->okT x)/\n<=20) (.fin (.int .i64 (Ykv l)) [])
 |_=> .pre False (.fin (.int .i64 0) [])}
def okT0(x:Int×Int):Bool:=decide (x.1<1) || decide (1000000000000<x.1) || decide (x.2< -1000000000) || decide (1000000000<x.2)
def Yfo(l:List (Int×Int)):Int:=if 16<l.length then 3 else if l.any okT0=true then 2 else 0
def chkTC:Ctr:={ alias:=false,of:=fun l=>match l with
 | [.vs _ _ n sz get]=> .ex (List (Int×Int)) fun l=> .pre (lsP 2 enc2 n sz get l/\n<=9223372036854775807) (.fin (.int .i64 (Yfo l)) [])
 |_=>noC}
theorem Yrr(l:List (Int×Int))(p:Nat):(Ycl l p).ok:=by
 have key:∀(l:List (Int×Int))(s:Bnd),s.ok->(l.foldl (YfY p) s).ok:=fun l=>by
   induction l with
   |nil=>intro s h;exact h
   |cons x l ih=>intro s h;exact ih _ (Yiq p s x h)
 exact key l _ (by simp [Bnd.ok,nl_0])
def RB0:Env:={ ct:=fun n=>match n with|90=>some guessC|72=>some oneC|91=>some sumsC|92=>some aboveC|_=>none,fn:=fun _=>none,meth:=fun _ _=>none}
theorem YpJ:RB0.ct 90=some guessC:=rfl
theorem YpI:RB0.ct 72=some oneC:=rfl
theorem YpK:RB0.ct 91=some sumsC:=rfl
theorem YpL:RB0.ct 92=some aboveC:=rfl
theorem Yvo:Yp Yzg RB0:=by
 refine⟨fun f c h=>?_,fun f vf h=>?_,(fun _ _ _ h=>by cases h),by kernel_rfl,(fun _ h=>by cases h)⟩
 . simp only[RB0]at h
   split at h
   . cases h;exact⟨Ytc,Tryz.f90,Tryz.func90,by kernel_rfl,by kernel_rfl⟩
   . cases h;exact⟨YtE,Tryz.f72,Tryz.func72,by kernel_rfl,by kernel_rfl⟩
   . cases h;exact⟨Yyc,Tryz.f91,Tryz.func91,by kernel_rfl,by kernel_rfl⟩
   . cases h;exact⟨YjY,Tryz.f92,Tryz.func92,by kernel_rfl,by kernel_rfl⟩
   . cases h
 . cases h
theorem Yph:signC.ok Yzg 67:=by
 refine Yc Tryz.func67 YyJ Yvo 500 signC fun args k h=>?_
 simp only[signC]at h
 split at h
 . rename_i tt z n sz get
   obtain⟨l,⟨⟨rfl,rfl,hg⟩,hl,hn⟩,h⟩:=h
   refine⟨[.vs tt z l.length 2 (fun k=>enc2 (l.getD k default))],⟨⟨id,rfl,rfl,rfl,hg⟩,trivial⟩,?_⟩
   dsimp only[v67,YpJ,YpI,guessC,oneC,enc2,go_sem,reduceIte,Yzb]
   simp only[Yd,Yzb,Yzd,reduceCtorEq,Yzc]
   have hself:lsP 2 enc2 l.length 2 (fun k=>[SV.int IntKind.i64 (l.getD k default).fst,SV.int IntKind.i64 (l.getD k default).snd]) l:=⟨rfl,rfl,fun k _=>Yb _⟩
   refine⟨l,⟨hself,hl,by omega⟩,by decide,by decide,fun hc=>?_,fun hc=>⟨l,⟨hself,hl,hn⟩,fun hd=>?_,fun hd=>?_⟩⟩
   . rw[Ykv,if_pos hc]at h;exact Yt h
   . rw[Ykv,if_neg (by rw[hc];decide),if_pos hd]at h;exact Yt h
   . rw[Ykv,if_neg (by rw[hc];decide),if_neg (by rw[hd];decide)]at h
     obtain⟨R,hR⟩:∃R,R=YjO 6 l 64:=⟨_,rfl⟩
     rw[<-hR]at h
     refine Loop.keep [0] (Nat×Nat) (fun s=>[(5,.int .i64 s.2)]) (fun _=>[]) [] (fun s=>R=YjO s.1 l s.2/\s.2*2^s.1=4096/\64<=s.2) (fun s=>s.1) ?_ ?_
     . refine⟨(6,64),⟨hR,by decide,by decide⟩,?_⟩
       dsimp only[go_sem,reduceIte,Yzb]
       simp only[Ya]
       rfl
     . rintro⟨f,p⟩ ⟨hf,hp,hp64⟩
       dsimp only at hf hp hp64
       dsimp only[YpK,YpL,sumsC,aboveC,natS,go_sem,reduceIte,Yzb]
       simp only[Yd,Yzb,Yzd,reduceCtorEq,Yzc]
       obtain⟨k1,k2,k3,k4⟩:=Yrr l p
       have hfd:p<=2048->∃g,f=g+1:=fun hpl=>by
         rcases Nat.eq_zero_or_pos f with h0|h0
         . rw[h0,Nat.pow_zero,Nat.mul_one]at hp;omega
         . exact⟨f-1,by omega⟩
       have hf0:¬p<=2048->f=0:=fun hpl=>by
         rcases Nat.eq_zero_or_pos f with h0|h0
         . exact h0
         . obtain⟨g,rfl⟩:∃g,f=g+1:=⟨f-1,by omega⟩
           rw[Nat.pow_succ]at hp
           have:1<=2^g:=YgI g
           have:p*2<=p*(2^g*2):=Nat.mul_le_mul_left _ (by omega)
           omega
       refine⟨fun hc=>⟨l,p,⟨hself,hl,by omega,rfl,by omega⟩,fun y1 y2 y3 y4=>⟨by decide,by decide,(Ycl l p).ul,(Ycl l p).dh,⟨Yk k1,Yk k4⟩,fun hd=>?_,fun hd=>⟨(Ycl l p).dl,(Ycl l p).uh,⟨Yk k3,Yk k2⟩,fun he=>?_,fun he=>?_⟩⟩⟩,fun hc=>?_⟩
       . obtain⟨g,rfl⟩:=hfd (by omega)
         rw[YjO,if_pos hd]at hf
         rw[hf]at h;exact Yt h
       . obtain⟨g,rfl⟩:=hfd (by omega)
         rw[YjO,if_neg hd,if_pos he]at hf
         rw[hf]at h;exact Yt h
       . obtain⟨g,rfl⟩:=hfd (by omega)
         rw[YjO,if_neg hd,if_neg he]at hf
         rw[Nat.pow_succ]at hp
         have hp2:2*p*2^g=4096:=by rw[<-hp,YzG 2 p,Nat.mul_assoc,YzG 2]
         refine⟨(g,2*p),⟨hf,hp2,by simp only;omega⟩,by simp only;omega,?_⟩
         rw[show IntKind.i64.wrap ((p:Int)*2)=((2*p:Nat):Int)by rw[Yzi _ (by omega)];omega]
         simp only[Ya]
       . obtain rfl:=hf0 (by omega)
         rw[YjO]at hf
         rw[hf]at h;exact Yt h
 . exact h.1.elim
def RB1:Env:={ ct:=fun _=>none,fn:=fun _=>none,meth:=fun _ _=>none}
theorem Yvp:Yp Yzg RB1:=by
 refine⟨fun f c h=>?_,fun f vf h=>?_,(fun _ _ _ h=>by cases h),by kernel_rfl,(fun _ h=>by cases h)⟩
 . cases h
 . cases h
theorem YnV:chkTC.ok Yzg 66:=by
 refine Yc Tryz.func66 YyI Yvp 500 chkTC fun args k h=>?_
 simp only[chkTC]at h
 split at h
 . rename_i tt z n sz get
   obtain⟨l,⟨⟨rfl,rfl,hg⟩,hn⟩,h⟩:=h
   refine⟨[.vs tt z l.length 2 (fun k=>enc2 (l.getD k default))],⟨⟨id,rfl,rfl,rfl,hg⟩,trivial⟩,?_⟩
   dsimp only[v66,enc2,go_sem,reduceIte,Yzb]
   simp only[Yd,Yzb,Yzd,reduceCtorEq,Yzc]
   refine⟨fun hc=>?_,fun hc=>?_⟩
   . rw[Yfo,if_pos (by omega)]at h;exact Yt h
   . rw[Yfo,if_neg (by omega)]at h
     refine Loop.keep [0,7,0] Nat (fun i=>[(10,.int .i64 i)]) (fun _=>[]) [] (fun i=>i<=l.length/\(l.take i).any okT0=false) (fun i=>l.length-i) ?_ ?_
     . refine⟨0,⟨by omega,rfl⟩,?_⟩
       dsimp only[go_sem,reduceIte,Yzb]
       simp only[Ya]
       rfl
     . rintro i ⟨hi,hall⟩
       dsimp only[enc2,Yzh,go_sem,reduceIte,Yzb]
       simp only[Yd,Yzb,Yzd,reduceCtorEq,Yzc]
       refine⟨fun hlt=>⟨⟨by omega,by omega⟩,fun hc=>?_,fun hc=>⟨i+1,⟨by omega,?_⟩,by omega,?_⟩⟩,fun hge=>?_⟩
       . have:l.any okT0=true:=List.any_eq_true.2 ⟨_,YP (by omega:i<l.length),hc⟩
         rw[if_pos this]at h
         exact Yt h
       . rw[Yis (by omega),hall,Bool.false_or];exact hc
       . rw[Yzi ((i:Int)+1) (by omega)]
         simp only[Ya]
         simp
       . obtain rfl:i=l.length:=by omega
         rw[List.take_length]at hall
         rw[if_neg (by rw[hall];decide)]at h
         exact Yt h
 . exact h.1.elim
def v62:VF:=⟨54,[.tmp 6,.tmp 7,.tmp 8],(ZR [u1 5 .box [.tm 2],Zi 6 0,u1 7 .mov [.cn (.bool false)],Zi 8 0] (.seq (ZR [Zm 13 1,Zc 14 66 13,Zm 9 14] (ZR [Zm 15 9,Zq 16 .neq 15 0] (ZC 16 (ZR [Zm 17 9,Zi 6 0,u1 7 .mov [.cn (.bool false)],Zm 8 17] .ret) .skip))) (.seq (ZR [Zf 18 1 5,Zq 19 .lss 18 1,Zm 20 19,Zh 21 20 false 1 5,u2 22 20 false (.cmp .gtr) [.tm 21,.cn (.int .i64 1000000)],u1 23 .or [.tm 20,.tm 22],Zm 24 23,Zg 25 24 false 0,u2 26 24 false (.cmp .lss) [.tm 25,.cn (.int .i64 1)],u1 27 .or [.tm 24,.tm 26],Zm 28 27,Zg 29 28 false 0,u2 30 28 false (.cmp .gtr) [.tm 29,.cn (.int .i64 1000000000000)],u1 31 .or [.tm 28,.tm 30]] (ZC 31 (ZR [Zi 6 0,u1 7 .mov [.cn (.bool false)],Zi 8 2] .ret) .skip)) (.seq (.drawT [(10,.box [.nil])] (.ops [Zu 32 1] (.ops [Zu 34 0] (.ops [Zv 35 1 5] (.ops [w1 36 (.build [(.int .i64 0),(.int .i64 0)] [(0,1),(1,1)]) [.tm 34,.tm 35]] (.ops [] (.br (.ops [⟨u1 33 (.append 2 16 [(.int .i64 0),(.int .i64 0)]) [.cn .nil,.tm 32],[.tm 0,.tm 34,.tm 5,.tm 35,.tm 34,.tm 35,.tm 36]⟩] (.ops [w1 37 (.buildSlice 2 1 [(.int .i64 0),(.int .i64 0)] [(0,2)]) [.tm 36]] (.ops [w1 38 (.append 2 16 [(.int .i64 0),(.int .i64 0)]) [.tm 33,.tm 37]] (.ops [ZS 1 10 38] .leaf)))) (.ops [w1 37 (.buildSlice 2 1 [(.int .i64 0),(.int .i64 0)] [(0,2)]) [.tm 36]] (.ops [⟨u1 33 (.append 2 16 [(.int .i64 0),(.int .i64 0)]) [.cn .nil,.tm 32],[.tm 0,.tm 34,.tm 5,.tm 35,.tm 34,.tm 35,.tm 36]⟩] (.ops [w1 38 (.append 2 16 [(.int .i64 0),(.int .i64 0)]) [.tm 33,.tm 37]] (.ops [ZS 1 10 38] .leaf))))))))))) (ZR [u1 39 (.mkfn (.func 86) 0) [.tm 10,.tm 5],u1 11 (.alloc [(.val .nilFunc)]) [],Zs 1 11 39] (ZR [u1 40 (.mkfn (.func 87) 0) [.tm 11],Zm 12 40] (.seq (ZR [Zm 41 12,u1 42 .callv [.tm 41,.cn (.int .i64 1000000000001)]] (ZC 42 (ZR [Zi 6 0,u1 7 .mov [.cn (.bool false)],Zi 8 7] .ret) .skip)) (ZR [Zm 43 12,u1 44 (.call 71) [.cn (.int .i64 0),.cn (.int .i64 1000000000001),.tm 43],Zm 6 44] (ZR [Zm 45 6,Zm 46 6,Zq 47 .gtr 46 0,Zm 48 47,Zh 49 48 true 1 11,Zg 50 48 true 6,u2 51 48 true .callv [.tm 49,.tm 50],u2 52 48 true (.call 72) [.tm 51],u1 53 .and [.tm 48,.tm 52],Zm 6 45,Zm 7 53,Zi 8 0] .ret)))))))))⟩
theorem YyE:Yh Yzg Tryz.f62=some v62:=by kernel_rfl
def v86:VF:=⟨17,[.tmp 4],(ZR [u1 4 .mov [.cn .nil]] (.seq (.draw [] [Zv 5 1 1,Zv 6 1 1,w1 7 .len [.tm 6],Zv 8 1 1,w1 9 .len [.tm 8],w1 10 (.slice3 2) [.tm 5,.tm 7,.tm 9],Zu 11 0,Zv 12 1 2,w1 13 .neg [.tm 12],w1 14 (.build [(.int .i64 0),(.int .i64 0)] [(0,1),(1,1)]) [.tm 11,.tm 13],w1 15 (.buildSlice 2 1 [(.int .i64 0),(.int .i64 0)] [(0,2)]) [.tm 14],w1 16 (.append 2 16 [(.int .i64 0),(.int .i64 0)]) [.tm 10,.tm 15],Zu 4 16]) .ret))⟩
theorem YyR:Yh Yzg Tryz.f86=some v86:=by kernel_rfl
def v87:VF:=⟨13,[.tmp 3],(ZR [u1 3 .mov [.cn (.bool false)]] (ZR [Zm 4 0,Zq 5 .eql 4 0,Zm 6 5,Zh 7 6 false 1 1,Zg 8 6 false 0,u2 9 6 false .callv [.tm 7,.tm 8],u2 10 6 false (.call 67) [.tm 9],u2 11 6 false (.cmp .geq) [.tm 10,.cn (.int .i64 0)],u1 12 .or [.tm 6,.tm 11],Zm 3 12] .ret))⟩
theorem YyS:Yh Yzg Tryz.f87=some v87:=by kernel_rfl
def v71:VF:=⟨24,[.tmp 6],(ZR [Zi 6 0] (.seq (.block 0 (.loop (.seq (ZR [Zm 8 1,Zm 9 0,Zo 10 .sub 8 9,Zq 11 .gtr 10 1] (ZC 11 .skip (.exit 0))) (.block 1 (ZR [Zm 12 0,Zm 13 1,Zm 14 0,Zo 15 .sub 13 14,u1 16 .quo [.tm 15,.cn (.int .i64 2)],Zo 17 .add 12 16,Zm 7 17] (ZR [Zm 18 2,Zm 19 7,u1 20 .callv [.tm 18,.tm 19]] (ZC 20 (.region [Zm 21 7,Zm 0 21]) (.region [Zm 22 7,Zm 1 22])))))))) (ZR [Zm 23 0,Zm 6 23] .ret)))⟩
theorem Ysf:Yh Yzg Tryz.f71=some v71:=by kernel_rfl
def bisL:Nat->(Int->Bool)->Int->Int->Int
 |0,_,a,_=>a
 |f+1,t,a,b=>if 1<b-a then(if t (a+(b-a)/2)=true then bisL f t (a+(b-a)/2) b else bisL f t a (a+(b-a)/2))else a
def atF(all:List (Int×Int))(den k:Int):List (Int×Int):=all++[(k, -den)]
def isF(all:List (Int×Int))(den k:Int):Bool:=decide (k=0) || decide (0<=Ykv (atF all den k))
def YtN(s:Int)(l:List (Int×Int))(den:Int):Int×Bool×Int:=
 if isF (l++[(s,den)]) den 1000000000001=true then(0,false,7)
 else(bisL 64 (isF (l++[(s,den)]) den) 0 1000000000001,decide (0<bisL 64 (isF (l++[(s,den)]) den) 0 1000000000001)&&oneF (atF (l++[(s,den)]) den (bisL 64 (isF (l++[(s,den)]) den) 0 1000000000001)),0)
def Yj5(s den:Int):Bool:=decide (den<1) || (decide (1000000<den) || (decide (s<1) || decide (1000000000000<s)))
def Yge(s:Int)(l:List (Int×Int))(den:Int):Int×Bool×Int:=
 if Yfo l≠0 then(0,false,Yfo l)else if Yj5 s den=true then(0,false,2)else YtN s l den
theorem Ysz{s den:Int}(h:Yj5 s den=false):(1<=s/\s<=1000000000000)/\1<=den/\den<=1000000:=by
 simp only[Yj5,Bool.or_eq_false_iff,decide_eq_false_iff_not]at h;omega
theorem Ykc{l:List (Int×Int)}(h:Yfo l=0):(∀x,x∈l->okT0 x=false)/\l.length<=16:=by
 unfold Yfo at h
 split at h
 . cases h
 . split at h
   . cases h
   . rename_i h1 h2
     rw[Bool.not_eq_true,List.any_eq_false]at h2
     exact⟨fun x hx=>by simpa using h2 x hx,by omega⟩
def prodC:Ctr:={ alias:=false,of:=fun l=>match l with
 | [.int .i64 s,.vs _ _ n sz get,.int .i64 den]=> .ex (List (Int×Int)) fun l=> .pre (lsP 2 enc2 n sz get l/\1<=n/\n<=1000000000000) (.fin (.tup [.int .i64 (Yge s l den).1,.bool (Yge s l den).2.1,.int .i64 (Yge s l den).2.2]) [])
 |_=>noC}
theorem Yv9{l:List (Int×Int)}{s den kk:Int}{hp:List HO}{r:List SV->List SV}{i k:Nat}(hk:k<l.length+1+1):
   leXL (Ycf false hp r (if k<l.length+1 then if k<l.length then [SV.int IntKind.i64 (l.getD k default).fst,SV.int IntKind.i64 (l.getD k default).snd]else Yj i (Yu 2 (Yq ((k-l.length)*2) [SV.int IntKind.i64 s,SV.int IntKind.i64 den]))else Yu 2 (Yq ((k-(l.length+1))*2) [SV.int IntKind.i64 kk,SV.int IntKind.i64 (-den)]))) (enc2 ((atF (l++[(s,den)]) den kk).getD k default)):=by
 unfold atF
 rw[List.append_assoc]
 by_cases h1:k<l.length
 . rw[if_pos (by omega),if_pos h1,Yzl (l:=_++_),List.getElem?_append_left h1,<-Yzl]
   exact Yb _
 . rw[Yzl (l:=_++_),List.getElem?_append_right (by omega),if_neg h1]
   by_cases h2:k<l.length+1
   . rw[if_pos h2,show k-l.length=0 by omega]
     exact Yb _
   . rw[if_neg h2,show k-(l.length+1)=0 by omega,show k-l.length=1 by omega]
     exact Yb _
theorem Yrj{l:List (Int×Int)}{s den:Int}{i k a b:Nat}(hk:k<l.length+1):leL a b (if k<l.length then [SV.int IntKind.i64 (l.getD k default).fst,SV.int IntKind.i64 (l.getD k default).snd]else Yj i (Yu 2 (Yq ((k-l.length)*2) [SV.int IntKind.i64 s,SV.int IntKind.i64 den]))) (if k<l.length then [SV.int IntKind.i64 (l.getD k default).fst,SV.int IntKind.i64 (l.getD k default).snd]else Yj i (Yu 2 (Yq ((k-l.length)*2) [SV.int IntKind.i64 s,SV.int IntKind.i64 den]))):=by
 by_cases h1:k<l.length
 . rw[if_pos h1];exact⟨⟨rfl,rfl⟩,⟨rfl,rfl⟩,trivial⟩
 . rw[if_neg h1,show k-l.length=0 by omega];exact⟨⟨rfl,rfl⟩,⟨rfl,rfl⟩,trivial⟩
theorem Yuh{s den:Int}{i k a b:Nat}(hk:k<1):leL a b (Yj i (Yu 2 (Yq (k*2) [SV.int IntKind.i64 s,SV.int IntKind.i64 den]))) (Yj i (Yu 2 (Yq (k*2) [SV.int IntKind.i64 s,SV.int IntKind.i64 den]))):=by
 obtain rfl:k=0:=by omega
 exact⟨⟨rfl,rfl⟩,⟨rfl,rfl⟩,trivial⟩
theorem Yui{l:List (Int×Int)}{s den kk dd:Int}{i k a b:Nat}(hk:k<l.length+1+1):leL a b (if k<l.length+1 then if k<l.length then [SV.int IntKind.i64 (l.getD k default).fst,SV.int IntKind.i64 (l.getD k default).snd]else Yj i (Yu 2 (Yq ((k-l.length)*2) [SV.int IntKind.i64 s,SV.int IntKind.i64 den]))else Yu 2 (Yq ((k-(l.length+1))*2) [SV.int IntKind.i64 kk,SV.int IntKind.i64 dd])) (if k<l.length+1 then if k<l.length then [SV.int IntKind.i64 (l.getD k default).fst,SV.int IntKind.i64 (l.getD k default).snd]else Yj i (Yu 2 (Yq ((k-l.length)*2) [SV.int IntKind.i64 s,SV.int IntKind.i64 den]))else Yu 2 (Yq ((k-(l.length+1))*2) [SV.int IntKind.i64 kk,SV.int IntKind.i64 dd])):=by
 by_cases h1:k<l.length+1
 . rw[if_pos h1];exact Yrj h1
 . rw[if_neg h1,show k-(l.length+1)=0 by omega];exact⟨⟨rfl,rfl⟩,⟨rfl,rfl⟩,trivial⟩
theorem Ysx{l:List (Int×Int)}{s den kk:Int}{hp:List HO}{r:List SV->List SV}{i:Nat}:
   lsP 2 enc2 (l.length+1+1) 2 (fun k=>Ycf false hp r (if k<l.length+1 then if k<l.length then [SV.int IntKind.i64 (l.getD k default).fst,SV.int IntKind.i64 (l.getD k default).snd]else Yj i (Yu 2 (Yq ((k-l.length)*2) [SV.int IntKind.i64 s,SV.int IntKind.i64 den]))else Yu 2 (Yq ((k-(l.length+1))*2) [SV.int IntKind.i64 kk,SV.int IntKind.i64 (-den)]))) (atF (l++[(s,den)]) den kk):=
 ⟨rfl,by simp [atF],fun k hk=>Yv9 hk⟩
theorem Ysy{l:List (Int×Int)}{s den kk:Int}(hl:∀x,x∈l->okT0 x=false)(hs:1<=s/\s<=1000000000000)(hd:1<=den/\den<=1000000)(hk:1<=kk/\kk<=1000000000001):∀x,x∈atF (l++[(s,den)]) den kk->okT x:=by
 intro x hx
 unfold atF at hx
 rw[YzF,YzF,List.mem_singleton,List.mem_singleton]at hx
 rcases hx with(hx|rfl) |rfl
 . have:=hl x hx
   unfold okT0 at this
   simp only[Bool.or_eq_false_iff,decide_eq_false_iff_not]at this
   unfold okT
   omega
 . simp only[okT];omega
 . simp only[okT];omega
theorem YnC{l:List (Int×Int)}{s den:Int}{i k:Nat}(hk:k<l.length+1):lenL (if k<l.length then [SV.int IntKind.i64 (l.getD k default).fst,SV.int IntKind.i64 (l.getD k default).snd]else Yj i (Yu 2 (Yq ((k-l.length)*2) [SV.int IntKind.i64 s,SV.int IntKind.i64 den])))=2/\ones (if k<l.length then [SV.int IntKind.i64 (l.getD k default).fst,SV.int IntKind.i64 (l.getD k default).snd]else Yj i (Yu 2 (Yq ((k-l.length)*2) [SV.int IntKind.i64 s,SV.int IntKind.i64 den]))):=by
 by_cases h1:k<l.length
 . rw[if_pos h1];exact⟨rfl,trivial,trivial,trivial⟩
 . rw[if_neg h1,show k-l.length=0 by omega];exact⟨rfl,trivial,trivial,trivial⟩
theorem Yie{a b:Int}{k:Nat}(hk:k<1):lenL (Yu 2 (Yq (k*2) [SV.int IntKind.i64 a,SV.int IntKind.i64 b]))=2/\ones (Yu 2 (Yq (k*2) [SV.int IntKind.i64 a,SV.int IntKind.i64 b])):=by
 obtain rfl:k=0:=by omega
 exact⟨rfl,trivial,trivial,trivial⟩
def RB2:Env:={ ct:=fun n=>match n with|66=>some chkTC|67=>some signC|72=>some oneC|_=>none,fn:=fun n=>match n with|86=>some v86|87=>some v87|71=>some v71|_=>none,meth:=fun _ _=>none}
theorem YpM:RB2.ct 66=some chkTC:=rfl
theorem YkH:RB2.ct 67=some signC:=rfl
theorem YpO:RB2.ct 72=some oneC:=rfl
theorem YkI:RB2.ct 86=none:=rfl
theorem YkK:RB2.fn 86=some v86:=rfl
theorem YkJ:RB2.ct 87=none:=rfl
theorem YkL:RB2.fn 87=some v87:=rfl
theorem YpN:RB2.ct 71=none:=rfl
theorem YpP:RB2.fn 71=some v71:=rfl
theorem Yvq:Yp Yzg RB2:=by
 refine⟨fun f c h=>?_,fun f vf h=>?_,(fun _ _ _ h=>by cases h),by kernel_rfl,(fun _ h=>by cases h)⟩
 . simp only[RB2]at h
   split at h
   . cases h;exact⟨YnV,Tryz.f66,Tryz.func66,by kernel_rfl,by kernel_rfl⟩
   . cases h;exact⟨Yph,Tryz.f67,Tryz.func67,by kernel_rfl,by kernel_rfl⟩
   . cases h;exact⟨YtE,Tryz.f72,Tryz.func72,by kernel_rfl,by kernel_rfl⟩
   . cases h
 . simp only[RB2]at h
   split at h
   . cases h;exact⟨Tryz.f86,Tryz.func86,YyR,Tryz.f86,Tryz.func86,by kernel_rfl,by kernel_rfl⟩
   . cases h;exact⟨Tryz.f87,Tryz.func87,YyS,Tryz.f87,Tryz.func87,by kernel_rfl,by kernel_rfl⟩
   . cases h;exact⟨Tryz.f71,Tryz.func71,Ysf,Tryz.f71,Tryz.func71,by kernel_rfl,by kernel_rfl⟩
   . cases h
theorem Ydg{k:SV->List HO->Prop}{al:Bool}{hp:List HO}{κ κ':IntKind}{x e:Int}{b:Bool}(h:k (.tup [.int κ x,.bool b,.int κ' e]) []):YH al k (.tup [.int κ x,.bool b,.int κ' e]) hp:=
 YD (show k _ []from h) (YQ (.tup [.int κ x,.bool b,.int κ' e]) ⟨trivial,trivial,trivial,trivial⟩) (fun _=>by simp [Yl,Ym])
theorem Yxi:prodC.ok Yzg 62:=by
 refine Yc Tryz.func62 YyE Yvq 800 prodC fun args k h=>?_
 simp only[prodC]at h
 split at h
 . rename_i s tt z n sz get den
   obtain⟨l,⟨⟨rfl,rfl,hg⟩,hn1,hnb⟩,h⟩:=h
   refine⟨[.int .i64 s,.vs tt z l.length 2 (fun k=>enc2 (l.getD k default)),.int .i64 den],⟨⟨rfl,rfl⟩,⟨id,rfl,rfl,rfl,hg⟩,⟨rfl,rfl⟩,trivial⟩,?_⟩
   dsimp only[v62,YpM,chkTC,enc2,go_sem,reduceIte,Yzb]
   simp only[Yd,Yzb,Yzd,reduceCtorEq,Yzc]
   refine⟨l,⟨⟨rfl,rfl,fun k _=>Yb _⟩,by omega⟩,fun hh=>by rw[Yge,if_pos hh]at h;exact Ydg h,fun hchk=>?_⟩
   obtain⟨hl,hn⟩:=Ykc hchk
   rw[Yge,if_neg (by rw[hchk];decide)]at h
   refine⟨fun hh=>?_,fun hb=>?_⟩
   . rw[if_pos (show Yj5 s den=true by rw[Yj5];simpa [Bool.or_assoc]using hh)]at h
     exact Ydg h
   have hb:Yj5 s den=false:=by rw[Yj5];simpa [Bool.or_assoc]using hb
   rw[if_neg (by rw[hb];decide)]at h
   obtain⟨hs,hd⟩:=Ysz hb
   have hnd:IntKind.i64.wrap (0-den)= -den:=by rw[Yzi _ (by omega)];omega
   refine⟨⟨by unfold YR;omega,by decide,⟨by unfold YR;omega,fun k hk=>?_⟩,?_⟩,by decide,by unfold YR;omega,⟨by unfold YR;omega,fun k hk=>?_⟩,?_⟩
   all_goals (try exact Yie hk)
   all_goals
     dsimp only[YkJ,YkL,v87,YkI,YkK,v86,YkH,signC,go_sem,reduceIte,Yzb]
     simp only[Yd,Yzb,Yzd,reduceCtorEq,Yzc]
     rw[hnd]
     simp only[Yzh]
     have hK:(1:Int)<=1000000000001/\(1000000000001:Int)<=1000000000001:=by decide
     refine⟨fun _=>⟨⟨by omega,by omega⟩,by decide,⟨by decide,by unfold YR;omega,fun k hk=>YnC hk,fun k hk=>Yie hk⟩,atF (l++[(s,den)]) den 1000000000001,fun _=>⟨Ysx,Ysy hl hs ⟨hd.1,hd.2⟩ hK,by omega⟩,fun hc=>?_,fun hc=>?_⟩,fun hh=>absurd hh (by decide)⟩
     . have hc:isF (l++[(s,den)]) den 1000000000001=true:=hc
       rw[YtN,if_pos hc]at h
       exact Ydg h
     . have hc:isF (l++[(s,den)]) den 1000000000001=false:=hc
       rw[YtN,if_neg (by rw[hc];decide)]at h
       dsimp only[YpN,YpP,v71,go_sem,reduceIte,Yzb]
       simp only[Yd,Yzb,Yzd,reduceCtorEq,Yzc]
       obtain⟨t,ht⟩:∃t,t=isF (l++[(s,den)]) den:=⟨_,rfl⟩
       obtain⟨R,hR⟩:∃R,R=bisL 64 t 0 1000000000001:=⟨_,rfl⟩
       rw[<-ht,<-hR]at h
       refine Loop.keep [2] (Nat×Int×Int) (fun s=>[(0,.int .i64 s.2.1),(1,.int .i64 s.2.2)]) (fun _=>[]) [] (fun s=>R=bisL s.1 t s.2.1 s.2.2/\0<=s.2.1/\s.2.1<s.2.2/\s.2.2<=1000000000001/\s.2.2-s.2.1<=2^s.1) (fun s=>s.1) ?_ ?_
       . refine⟨(64,0,1000000000001),⟨hR,by decide,by decide,by decide,by decide⟩,?_⟩
         dsimp only[go_sem,reduceIte,Yzb]
         simp only[Ya]
         repeat' apply Yzm
         all_goals first|decide| (intro k hk;first|exact Yrj hk|exact Yuh hk|exact Yui hk)
       . rintro⟨f,lo,hi⟩ ⟨hf,b0,b1,b2,b3⟩
         dsimp only at hf b0 b1 b2 b3
         dsimp only[YkJ,YkL,v87,YkI,YkK,v86,YkH,YpO,signC,oneC,go_sem,reduceIte,Yzb]
         simp only[Yd,Yzb,Yzd,reduceCtorEq,Yzc]
         rw[hnd]
         simp only[Yzh]
         have ed:IntKind.i64.wrap (hi-lo)=hi-lo:=Yzi _ (by omega)
         have e2:IntKind.i64.wrap ((hi-lo).tdiv 2)=(hi-lo)/2:=by
           rw[Int.tdiv_eq_ediv_of_nonneg (by omega),Yzi _ (by omega)]
         have e3:IntKind.i64.wrap (lo+(hi-lo)/2)=lo+(hi-lo)/2:=Yzi _ (by omega)
         rw[ed,e2,e3]
         refine⟨fun hc1=>?_,fun hc1=>?_⟩
         . obtain⟨m,hm⟩:∃m,m=lo+(hi-lo)/2:=⟨_,rfl⟩
           rw[<-hm]
           obtain⟨g,rfl⟩:∃g,f=g+1:=by
             cases f with
             |zero=>simp at b3;omega
             |succ g=>exact⟨g,rfl⟩
           rw[bisL,if_pos hc1,<-hm]at hf
           have b4:hi-lo<=2^g*2:=by rw[<-Int.pow_succ];exact b3
           have hm0:¬m=0:=by omega
           refine⟨by decide,fun _=>⟨⟨by omega,by omega⟩,by decide,⟨by decide,by unfold YR;omega,fun k hk=>YnC hk,fun k hk=>Yie hk⟩,atF (l++[(s,den)]) den m,fun _=>⟨Ysx,Ysy hl hs ⟨hd.1,hd.2⟩ (by omega),by omega⟩,fun hd1=>?_,fun hd1=>?_⟩,fun hh=>absurd hh hm0⟩
           . have hd1:t m=true:=by rw[ht];exact hd1
             rw[if_pos hd1]at hf
             refine⟨(g,m,hi),⟨hf,by simp only;omega,by simp only;omega,b2,by simp only;omega⟩,by simp only;omega,?_⟩
             simp only[Ya]
             repeat' apply Yzm
             all_goals first|decide| (intro k hk;first|exact Yrj hk|exact Yuh hk|exact Yui hk)
           . have hd1:t m=false:=by rw[ht];exact hd1
             rw[if_neg (by rw[hd1];decide)]at hf
             refine⟨(g,lo,m),⟨hf,by simp only;omega,by simp only;omega,by simp only;omega,by simp only;omega⟩,by simp only;omega,?_⟩
             simp only[Ya]
             repeat' apply Yzm
             all_goals first|decide| (intro k hk;first|exact Yrj hk|exact Yuh hk|exact Yui hk)
         . have hRlo:R=lo:=by
             cases f with
             |zero=>exact hf
             |succ g=>rw[hf,bisL,if_neg hc1]
           subst hRlo
           refine⟨fun hp=>⟨⟨by omega,by omega⟩,by decide,⟨by decide,by unfold YR;omega,fun k hk=>YnC hk,fun k hk=>Yie hk⟩,atF (l++[(s,den)]) den R,fun _=>⟨Ysx,Ysy hl hs ⟨hd.1,hd.2⟩ (by omega),by omega⟩,Ydg h⟩,fun hp=>⟨fun hh=>absurd hh hp,?_⟩⟩
           rw[decide_eq_false hp,Bool.false_and]at h⊢
           exact Ydg h
 . exact h.1.elim
structure Rt where
 a:Int
 b:Int
 c:Int
 d:Int
 e:Int
 f:Int
 n:Int
 deriving Inhabited,DecidableEq
def encR(r:Rt):List SV:=[.int .i64 r.a,.int .i64 r.b,.int .i64 r.c,.int .i64 r.d,.int .i64 r.e,.int .i64 r.f,.int .i64 r.n]
def badN(n:Int):Bool:=decide (n< -100000) || decide (100000<n)
def gcdR(r:Rt):Nat:=((((((r.n.toNat).gcd r.a.natAbs).gcd r.b.natAbs).gcd r.c.natAbs).gcd r.d.natAbs).gcd r.e.natAbs).gcd r.f.natAbs
def chkR(r:Rt):Int:=
 if r.n<1\/1000<r.n then 2 else if badN r.a|| (badN r.b|| (badN r.c|| (badN r.d|| (badN r.e|| badN r.f))))then 2 else if 1<gcdR r then 6 else 0
def Yav:Rt:=⟨0,0,0,0,0,0,0⟩
def divR(r:Rt)(g:Int):Rt:=⟨r.a.tdiv g,r.b.tdiv g,r.c.tdiv g,r.d.tdiv g,r.e.tdiv g,r.f.tdiv g,r.n.tdiv g⟩
def Ydx(r:Rt):Rt×Int:=if chkR (divR r (gcdR r))=0 then(divR r (gcdR r),0)else(Yav,7)
def Ybr(x y:Rt)(by':Int):Rt×Int:=
 if chkR x≠0 then(Yav,chkR x)else if chkR y≠0 then(Yav,chkR y)
 else Ydx ⟨x.a*y.n+by'*y.a*x.n,x.b*y.n+by'*y.b*x.n,x.c*y.n+by'*y.c*x.n,x.d*y.n+by'*y.d*x.n,x.e*y.n+by'*y.e*x.n,x.f*y.n+by'*y.f*x.n,x.n*y.n⟩
def tm1(p n:Int):List (Int×Int):=if n=0 then []else [(p,n)]
def Yx(r:Rt):List (Int×Int):=tm1 2 r.a++(tm1 3 r.b++(tm1 5 r.c++(tm1 7 r.d++(tm1 11 r.e++tm1 13 r.f))))
theorem Yes(r:Rt):(Yx r).length<=6:=by
 have h:∀p n:Int,(tm1 p n).length<=1:=fun p n=>by unfold tm1;split <;> simp
 have:=h 2 r.a;have:=h 3 r.b;have:=h 5 r.c;have:=h 7 r.d;have:=h 11 r.e;have:=h 13 r.f
 simp only[Yx,Yzv];omega
theorem Ykb{r:Rt}(h:chkR r=0):(1<=r.n/\r.n<=1000)/\badN r.a=false/\badN r.b=false/\badN r.c=false/\badN r.d=false/\badN r.e=false/\badN r.f=false/\gcdR r<=1:=by
 unfold chkR at h
 split at h
 . cases h
 . split at h
   . cases h
   . split at h
     . cases h
     . rename_i h1 h2 h3
       simp only[Bool.or_eq_true,not_or,Bool.not_eq_true]at h2
       exact⟨by omega,h2.1,h2.2.1,h2.2.2.1,h2.2.2.2.1,h2.2.2.2.2.1,h2.2.2.2.2.2,by omega⟩
theorem YdK{n:Int}(h:badN n=false): -100000<=n/\n<=100000:=by
 simp only[badN,Bool.or_eq_false_iff,decide_eq_false_iff_not]at h;omega
theorem Ybi{x y X Y:Int}(hx: -X<=x/\x<=X)(hy: -Y<=y/\y<=Y): -(X*Y)<=x*y/\x*y<=X*Y:=by
 have h0:0<=X:=by omega
 have h1:0<=Y:=by omega
 have a1:=Int.mul_nonneg (show 0<=X-x by omega) (show 0<=Y+y by omega)
 have a2:=Int.mul_nonneg (show 0<=X+x by omega) (show 0<=Y-y by omega)
 have a3:=Int.mul_nonneg (show 0<=X-x by omega) (show 0<=Y-y by omega)
 have a4:=Int.mul_nonneg (show 0<=X+x by omega) (show 0<=Y+y by omega)
 rw[Int.sub_mul,Int.mul_add,Int.mul_add]at a1
 rw[Int.add_mul,Int.mul_sub,Int.mul_sub]at a2
 rw[Int.sub_mul,Int.mul_sub,Int.mul_sub]at a3
 rw[Int.add_mul,Int.mul_add,Int.mul_add]at a4
 omega
def v109:VF:=⟨7,[.tmp 2],(ZR [Zi 2 0] (ZR [Zm 3 0,Zm 4 0,u1 5 .neg [.tm 4],u1 6 .max [.tm 3,.tm 5],Zm 2 6] .ret))⟩
theorem Yux:Yh Yzg Tryz.f109=some v109:=by kernel_rfl
def v89:VF:=⟨34,[.tmp 2],(ZR [u1 1 .box [.tm 0],Zi 2 0] (.seq (ZR [Za 6 6 1,Zf 7 1 6,Zq 8 .lss 7 1,Zm 9 8,Zj 10 9 false 6 1,Zh 11 9 false 1 10,u2 12 9 false (.cmp .gtr) [.tm 11,.cn (.int .i64 1000)],u1 13 .or [.tm 9,.tm 12]] (ZC 13 (ZR [Zi 2 2] .ret) .skip)) (ZR [Za 14 6 1,Zf 15 1 14,Zm 3 15] (.seq (ZR [Za 16 0 1,Zt 17 6 16,Zi 18 0] (.block 0 (.loop (ZR [Zq 19 .lss 18 6] (.seq (ZC 19 .skip (.exit 0)) (.seq (.block 1 (ZR [u1 20 (.index false 6 1) [.tm 17,.tm 18],Zm 5 20] (.seq (ZR [Zm 21 5,Zq 22 .lss 21 (-100000),Zm 23 22,Zg 24 23 false 5,u2 25 23 false (.cmp .gtr) [.tm 24,.cn (.int .i64 100000)],u1 26 .or [.tm 23,.tm 25]] (ZC 26 (ZR [Zi 2 2] .ret) .skip)) (.region [Zm 27 3,Zm 28 5,Zc 29 109 28,Zd 30 108 27 29,Zm 3 30])))) (.region [Zp 31 18 1,Zm 18 31]))))))) (.seq (ZR [Zm 32 3,Zq 33 .gtr 32 1] (ZC 33 (ZR [Zi 2 6] .ret) .skip)) (ZR [Zi 2 0] .ret))))))⟩
theorem YyU:Yh Yzg Tryz.f89=some v89:=by kernel_rfl
def v107:VF:=⟨43,[.cell 4 true 7,.tmp 5],(ZR [u1 2 .box [.tm 0],u1 4 (.alloc [(.int .i64 0),(.int .i64 0),(.int .i64 0),(.int .i64 0),(.int .i64 0),(.int .i64 0),(.int .i64 0)]) [],Zi 5 0] (ZR [Zm 12 1,Zm 6 12] (.seq (ZR [Zt 13 6 2,Zi 14 0] (.block 0 (.loop (ZR [Zq 15 .lss 14 6] (.seq (ZC 15 .skip (.exit 0)) (.seq (.block 1 (ZR [u1 16 (.index false 6 1) [.tm 13,.tm 14],Zm 8 16] (.region [Zm 17 6,Zm 18 8,Zc 19 109 18,Zd 20 108 17 19,Zm 6 20]))) (.region [Zp 21 14 1,Zm 14 21]))))))) (ZR [Zm 22 1,Zm 23 6,u1 24 .quo [.tm 22,.tm 23],u1 25 (.build [(.int .i64 0),(.int .i64 0),(.int .i64 0),(.int .i64 0),(.int .i64 0),(.int .i64 0),(.int .i64 0)] [(6,1)]) [.tm 24],u1 9 (.alloc [(.int .i64 0),(.int .i64 0),(.int .i64 0),(.int .i64 0),(.int .i64 0),(.int .i64 0),(.int .i64 0)]) [],Zs 7 9 25] (.seq (ZR [Zt 26 6 2,Zi 27 0] (.block 2 (.loop (ZR [Zq 28 .lss 27 6] (.seq (ZC 28 .skip (.exit 2)) (.seq (.block 3 (ZR [Zm 29 27,u1 30 (.index false 6 1) [.tm 26,.tm 27],Zm 10 29,Zm 11 30] (.region [Zm 31 10,Zm 32 11,Zm 33 6,u1 34 .quo [.tm 32,.tm 33],Za 35 0 9,u1 36 (.idxArr 6 1) [.tm 35,.tm 31],Zs 1 36 34]))) (.region [Zp 37 27 1,Zm 27 37]))))))) (.seq (ZR [Zt 38 7 9,Zc 39 89 38,Zq 40 .neq 39 0] (ZC 40 (ZR [u1 41 (.build [(.int .i64 0),(.int .i64 0),(.int .i64 0),(.int .i64 0),(.int .i64 0),(.int .i64 0),(.int .i64 0)] []) [],Zs 7 4 41,Zi 5 7] .ret) .skip)) (ZR [Zt 42 7 9,Zs 7 4 42,Zi 5 0] .ret)))))))⟩
theorem Yuv:Yh Yzg Tryz.f107=some v107:=by kernel_rfl
def v106:VF:=⟨5,[.tmp 2],(ZR [Zi 2 0] (ZR [Zm 3 0,Zc 4 73 3,Zm 2 4] .ret))⟩
theorem Yuu:Yh Yzg Tryz.f106=some v106:=by kernel_rfl
def v73:VF:=⟨18,[.tmp 2],(ZR [Zi 2 0] (ZR [Zi 3 0] (.seq (ZR [Zm 6 0,Zl 7 6,Zi 8 0] (.block 0 (.loop (ZR [Zr 9 .lss 8 7] (.seq (ZC 9 .skip (.exit 0)) (.seq (.block 1 (ZR [Zx 10 1 6 8,Zf 11 1 10,Zm 5 11] (ZR [Zm 12 5,Zm 13 3,Zr 14 .neq 12 13] (ZC 14 (ZR [Zm 15 5,Zm 2 15] .ret) .skip)))) (.region [Zp 16 8 1,Zm 8 16]))))))) (ZR [Zm 17 3,Zm 2 17] .ret))))⟩
theorem YyO:Yh Yzg Tryz.f73=some v73:=by kernel_rfl
def v88:VF:=⟨53,[.cell 6 true 7,.tmp 7],(ZR [u1 3 .box [.tm 0],u1 4 .box [.tm 1],u1 6 (.alloc [(.int .i64 0),(.int .i64 0),(.int .i64 0),(.int .i64 0),(.int .i64 0),(.int .i64 0),(.int .i64 0)]) [],Zi 7 0] (.seq (.seq (.draw [] [Zw 11 7 3,Zw 13 7 4,w1 12 (.call 89) [.tm 11],w1 14 (.call 89) [.tm 13],w1 15 (.buildSlice 1 2 [(.int .i64 0)] [(0,1),(1,1)]) [.tm 12,.tm 14],w1 16 (.call 106) [.tm 15],Zu 8 16]) (ZR [Zm 17 8,Zq 18 .neq 17 0] (ZC 18 (ZR [u1 19 (.build [(.int .i64 0),(.int .i64 0),(.int .i64 0),(.int .i64 0),(.int .i64 0),(.int .i64 0),(.int .i64 0)] []) [],Zm 20 8,Zs 7 6 19,Zm 7 20] .ret) .skip))) (ZR [u1 9 (.allocArr 6 1 [(.int .i64 0),(.int .i64 0),(.int .i64 0),(.int .i64 0),(.int .i64 0),(.int .i64 0)]) []] (.seq (ZR [Zi 21 0] (.block 0 (.loop (ZR [Zq 22 .lss 21 6] (.seq (ZC 22 .skip (.exit 0)) (.seq (.block 1 (ZR [Zm 23 21,Zm 10 23] (.draw [] [Zu 24 10,Zu 25 10,Zy 26 0 3,w1 27 (.idxArr 6 1) [.tm 26,.tm 25],Zv 28 1 27,Zy 29 6 4,Zv 30 1 29,w1 31 (.ari .mul) [.tm 28,.tm 30],Zu 32 2,Zu 33 10,Zy 34 0 4,w1 35 (.idxArr 6 1) [.tm 34,.tm 33],Zv 36 1 35,w1 37 (.ari .mul) [.tm 32,.tm 36],Zy 38 6 3,Zv 39 1 38,w1 40 (.ari .mul) [.tm 37,.tm 39],w1 41 (.ari .add) [.tm 31,.tm 40],w1 42 (.idxArr 6 1) [.tm 9,.tm 24],ZS 1 42 41]))) (.region [Zp 43 21 1,Zm 21 43]))))))) (ZR [Zt 44 6 9,Za 45 6 3,Zf 46 1 45,Za 47 6 4,Zf 48 1 47,Zo 49 .mul 46 48,Zd 50 107 44 49,Ze 51 0 50,Ze 52 1 50,Zs 7 6 51,Zm 7 52] .ret)))))⟩
theorem YyT:Yh Yzg Tryz.f88=some v88:=by kernel_rfl
def v124:VF:=⟨11,[.cell 4 true 7,.tmp 5],(ZR [u1 2 .box [.tm 0],u1 3 .box [.tm 1],u1 4 (.alloc [(.int .i64 0),(.int .i64 0),(.int .i64 0),(.int .i64 0),(.int .i64 0),(.int .i64 0),(.int .i64 0)]) [],Zi 5 0] (ZR [Zt 6 7 2,Zt 7 7 3,u1 8 (.call 88) [.tm 6,.tm 7,.cn (.int .i64 1)],Ze 9 0 8,Ze 10 1 8,Zs 7 4 9,Zm 5 10] .ret))⟩
theorem YuM:Yh Yzg Tryz.f124=some v124:=by kernel_rfl
def v63:VF:=⟨11,[.cell 4 true 7,.tmp 5],(ZR [u1 2 .box [.tm 0],u1 3 .box [.tm 1],u1 4 (.alloc [(.int .i64 0),(.int .i64 0),(.int .i64 0),(.int .i64 0),(.int .i64 0),(.int .i64 0),(.int .i64 0)]) [],Zi 5 0] (ZR [Zt 6 7 2,Zt 7 7 3,u1 8 (.call 88) [.tm 6,.tm 7,.cn (.int .i64 (-1))],Ze 9 0 8,Ze 10 1 8,Zs 7 4 9,Zm 5 10] .ret))⟩
theorem YyF:Yh Yzg Tryz.f63=some v63:=by kernel_rfl
theorem Yxt{hp:List HO}{n size j:Nat}{k:IntKind}{i:Int}:Ybd hp n size [.ptr j 3,.int k i]=YqP (getH hp j) n size j 3 i:=rfl
theorem q_fl6{get:Nat->List SV}:Yed 6 0 get=get 0++(get 1++(get 2++(get 3++(get 4++(get 5++[]))))):=rfl
theorem Yxu{hp:List HO}{n size:Nat}{t:Bool}{cs:List SV}{k:IntKind}{i:Int}:Ybd hp n size [.xp t cs,.int k i]=Yw (0<=i/\i<n/\n*size<=lenL cs) (.xp t (Yq (i.toNat*size) cs)):=rfl
attribute [go_sem] Yxt Yxu q_fl6
def Rt.num(r:Rt):Nat->Int
 |0=>r.a
 |1=>r.b
 |2=>r.c
 |3=>r.d
 |4=>r.e
 |_=>r.f
theorem six{i:Nat}(h:i<6):i=0\/i=1\/i=2\/i=3\/i=4\/i=5:=by omega
theorem YdL(r:Rt){i:Nat}(h:i<6):Yu 1 (Yq (i*1) [.int .i64 r.a,.int .i64 r.b,.int .i64 r.c,.int .i64 r.d,.int .i64 r.e,.int .i64 r.f])=[.int .i64 (r.num i)]:=by
 rcases six h with rfl|rfl|rfl|rfl|rfl|rfl <;> rfl
theorem Ylw(r:Rt){i:Nat}(h:i<6):Yu 1 (Yq (idxN (i:Int) 1) [.int .i64 r.a,.int .i64 r.b,.int .i64 r.c,.int .i64 r.d,.int .i64 r.e,.int .i64 r.f,.int .i64 r.n])=[.int .i64 (r.num i)]:=by
 rcases six h with rfl|rfl|rfl|rfl|rfl|rfl <;> rfl
theorem Ylv(r:Rt){i:Nat}(h:i<6):1<=lenL (Yq (idxN (i:Int) 1) [.int .i64 r.a,.int .i64 r.b,.int .i64 r.c,.int .i64 r.d,.int .i64 r.e,.int .i64 r.f,.int .i64 r.n]):=by
 rcases six h with rfl|rfl|rfl|rfl|rfl|rfl <;> exact Nat.le_of_ble_eq_true rfl
def gP(r:Rt):Nat->Nat
 |0=>r.n.toNat
 |i+1=>YzI (gP r i) (r.num i).natAbs
theorem gP_6(r:Rt):gP r 6=gcdR r:=rfl
theorem Ys7(r:Rt):∀i,gP r i<=r.n.toNat\/r.n.toNat=0
 |0=> .inl (Yzk _)
 |i+1=>by
   rcases Ys7 r i with h|h
   . rcases Nat.eq_zero_or_pos (gP r i)with h0|h0
     . right
       have key:∀j,gP r j=0->r.n.toNat=0:=fun j=>by
         induction j with
         |zero=>exact id
         |succ j ih=>intro hj;exact ih (Nat.gcd_eq_zero_iff.1 hj).1
       exact key i h0
     . left;exact YzE (Nat.gcd_le_left _ h0) h
   . exact .inr h
theorem YrT{r:Rt}(h:1<=r.n):∀i,1<=gP r i
 |0=>by show 1<=r.n.toNat;omega
 |i+1=>Nat.gcd_pos_of_pos_left _ (YrT h i)
def bad6(r:Rt):Bool:=badN r.a|| (badN r.b|| (badN r.c|| (badN r.d|| (badN r.e|| badN r.f))))
theorem Ywc{r:Rt}{i:Nat}(h:i<6)(hb:badN (r.num i)=true):bad6 r=true:=by
 unfold bad6
 rcases six h with rfl|rfl|rfl|rfl|rfl|rfl <;> (simp only[Rt.num]at hb;rw[hb];simp)
theorem Ywb{r:Rt}(h:∀i,i<6->badN (r.num i)=false):bad6 r=false:=by
 unfold bad6
 have h0:=h 0 (by decide);have h1:=h 1 (by decide);have h2:=h 2 (by decide);have h3:=h 3 (by decide);have h4:=h 4 (by decide);have h5:=h 5 (by decide)
 simp only[Rt.num]at h0 h1 h2 h3 h4 h5
 rw[h0,h1,h2,h3,h4,h5];rfl
theorem YsM(r:Rt):chkR r=if r.n<1\/1000<r.n then 2 else if bad6 r=true then 2 else if 1<gcdR r then 6 else 0:=rfl
theorem YgH(x:Int)(h: -9000000000000000000<=x/\x<=9000000000000000000):max x (IntKind.i64.wrap (0-x))=(x.natAbs:Int):=by
 rw[Yzi (0-x) (by omega)]
 omega
def absC:Ctr:={ alias:=false,of:=fun l=>match l with
 | [.int .i64 x]=> .pre (-9000000000000000000<=x/\x<=9000000000000000000) (.fin (.int .i64 (x.natAbs:Nat)) [])
 |_=>noC}
def TB0:Env:={ ct:=fun _=>none,fn:=fun _=>none,meth:=fun _ _=>none}
theorem Yvt:Yp Yzg TB0:=by
 refine⟨fun f c h=>?_,fun f vf h=>?_,(fun _ _ _ h=>by cases h),by kernel_rfl,(fun _ h=>by cases h)⟩
 . cases h
 . cases h
theorem Yv3:absC.ok Yzg 109:=by
 refine Yc Tryz.func109 Yux Yvt 100 absC fun args k h=>?_
 simp only[absC]at h
 split at h
 . rename_i x
   obtain⟨hx,h⟩:=h
   refine⟨[.int .i64 x],by simp [leL,le],?_⟩
   dsimp only[v109,go_sem,reduceIte,Yzb]
   simp only[Yd,Yzb,Yzd,reduceCtorEq,Yzc]
   rw[YgH x hx]
   exact Yt h
 . exact h.1.elim
def chkRC:Ctr:={ alias:=false,of:=fun l=>match l with
 | [.agg [.int .i64 a,.int .i64 b,.int .i64 c,.int .i64 d,.int .i64 e,.int .i64 f,.int .i64 n]]=> .fin (.int .i64 (chkR ⟨a,b,c,d,e,f,n⟩)) []
 |_=>noC}
def TB1:Env:={ ct:=fun n=>match n with|109=>some absC|108=>some gcdC|_=>none,fn:=fun _=>none,meth:=fun _ _=>none}
theorem YiF:TB1.ct 109=some absC:=rfl
theorem YiE:TB1.ct 108=some gcdC:=rfl
theorem Yvu:Yp Yzg TB1:=by
 refine⟨fun f c h=>?_,fun f vf h=>?_,(fun _ _ _ h=>by cases h),by kernel_rfl,(fun _ h=>by cases h)⟩
 . simp only[TB1]at h
   split at h
   . cases h;exact⟨Yv3,Tryz.f109,Tryz.func109,by kernel_rfl,by kernel_rfl⟩
   . cases h;exact⟨Ys9,Tryz.f108,Tryz.func108,by kernel_rfl,by kernel_rfl⟩
   . cases h
 . cases h
theorem Ylo:chkRC.ok Yzg 89:=by
 refine Yc Tryz.func89 YyU Yvu 300 chkRC fun args k h=>?_
 simp only[chkRC]at h
 split at h
 . rename_i a b c d e f n
   refine⟨[.agg [.int .i64 a,.int .i64 b,.int .i64 c,.int .i64 d,.int .i64 e,.int .i64 f,.int .i64 n]],by simp [leL,le],?_⟩
   obtain⟨r,hr⟩:∃r:Rt,r=⟨a,b,c,d,e,f,n⟩:=⟨_,rfl⟩
   rw[<-hr]at h
   have h:k (.int .i64 (chkR r)) []:=h
   rw[show a=r.a by rw[hr],show b=r.b by rw[hr],show c=r.c by rw[hr],show d=r.d by rw[hr],show e=r.e by rw[hr],show f=r.f by rw[hr],show n=r.n by rw[hr]]
   clear hr
   rw[YsM]at h
   dsimp only[v89,go_sem,reduceIte,Yzb]
   simp only[Yd,Yzb,Yzd,reduceCtorEq,Yzc]
   refine⟨fun hc=>?_,fun hc=>?_⟩
   . rw[if_pos (by simpa using hc)]at h;exact Yt h
   have hn:1<=r.n/\r.n<=1000:=by simp only[Bool.or_eq_false_iff,decide_eq_false_iff_not]at hc;omega
   rw[if_neg (by omega)]at h
   refine Loop.keep [2,14] Nat (fun i=>[(3,.int .i64 (gP r i:Nat)),(18,.int .i64 i)]) (fun _=>[]) [] (fun i=>i<=6/\∀j,j<i->badN (r.num j)=false) (fun i=>6-i) ?_ ?_
   . refine⟨0,⟨by omega,fun j hj=>by omega⟩,?_⟩
     dsimp only[go_sem,reduceIte,Yzb]
     simp only[Ya]
     exact⟨(Yzt (by omega)).symm,rfl⟩
   . rintro i ⟨hi,hall⟩
     dsimp only[YiF,YiE,absC,gcdC,Yzh,go_sem,reduceIte,Yzb]
     simp only[Yd,Yzb,Yzd,reduceCtorEq,Yzc]
     refine⟨fun hlt=>?_,fun hge=>?_⟩
     . have hi6:i<6:=by omega
       rw[YdL r hi6]
       dsimp only[YiF,YiE,absC,gcdC,go_sem,reduceIte,Yzb]
       simp only[Yd,Yzb,Yzd,reduceCtorEq,Yzc]
       have hgl:gP r i<=1000:=by rcases Ys7 r i with h1|h1 <;> omega
       refine⟨⟨by omega,by omega⟩,fun hb=>?_,fun hb=>⟨?_,gP r i,(r.num i).natAbs,⟨rfl,rfl,by omega,?_⟩,i+1,⟨by omega,fun j hj=>?_⟩,by omega,?_⟩⟩
       . rw[if_pos (Ywc hi6 hb)]at h;exact Yt h
       . have:=YdK hb;omega
       . have:=YdK hb;omega
       . rcases Yzx j i with h1|h1
         . exact hall j h1
         . obtain rfl:j=i:=by omega
           exact hb
       . rw[Yzi ((i:Int)+1) (by omega)]
         simp only[Ya]
         exact⟨rfl,by simp⟩
     . obtain rfl:i=6:=by omega
       rw[if_neg (by rw[Ywb hall];decide),<-gP_6]at h
       refine⟨fun hc=>?_,fun hc=>?_⟩
       . rw[if_pos (by omega)]at h;exact Yt h
       . rw[if_neg (by omega)]at h;exact Yt h
 . exact h.1.elim
def Yf7(q:Nat->Int)(n:Int)(i:Nat):List SV:=
 [.int .i64 (if 0<i then q 0 else 0),.int .i64 (if 1<i then q 1 else 0),.int .i64 (if 2<i then q 2 else 0),.int .i64 (if 3<i then q 3 else 0),.int .i64 (if 4<i then q 4 else 0),.int .i64 (if 5<i then q 5 else 0),.int .i64 n]
theorem YsL(q:Nat->Int)(n:Int):Yf7 q n 6=[.int .i64 (q 0),.int .i64 (q 1),.int .i64 (q 2),.int .i64 (q 3),.int .i64 (q 4),.int .i64 (q 5),.int .i64 n]:=rfl
theorem YnQ(q:Nat->Int)(n:Int)(i:Nat):lenL (Yf7 q n i)=7:=rfl
theorem YV(q:Nat->Int)(n:Int)(i m:Nat):bndL m (Yf7 q n i):=by simp [Yf7,bndL,bnd]
theorem Ymq(q:Nat->Int)(n:Int){i:Nat}(h:i<6):YC (Yf7 q n i) (idxN (i:Int) 1) [.int .i64 (q i)]=Yf7 q n (i+1):=by
 rcases six h with rfl|rfl|rfl|rfl|rfl|rfl <;> rfl
theorem Yjk(i:Nat):idxN (i:Int) 1=i:=by simp [idxN]
theorem Ypn(x:Int)(g:Nat)(h: -9000000000000000000<=x/\x<=9000000000000000000): -9000000000000000000<=x.tdiv g/\x.tdiv g<=9000000000000000000:=by
 have h1:(x.tdiv g).natAbs<=x.natAbs:=by
   rw[Int.natAbs_tdiv]
   exact Nat.div_le_self _ _
 omega
def madeC:Ctr:={ alias:=false,of:=fun l=>match l with
 | [.agg [.int .i64 a,.int .i64 b,.int .i64 c,.int .i64 d,.int .i64 e,.int .i64 f],.int .i64 n]=>
   .pre (1<=n/\n<=9000000000000000000/\∀i,i<6-> -9000000000000000000<=(Rt.mk a b c d e f n).num i/\(Rt.mk a b c d e f n).num i<=9000000000000000000) (.fin (.tup [.agg (encR (Ydx ⟨a,b,c,d,e,f,n⟩).1),.int .i64 (Ydx ⟨a,b,c,d,e,f,n⟩).2]) [])
 |_=>noC}
theorem Ybt{k:SV->List HO->Prop}{al:Bool}{hp:List HO}{r:Rt}{e:Int}(h:k (.tup [.agg (encR r),.int .i64 e]) []):YH al k (.tup [.agg (encR r),.int .i64 e]) hp:=
 YD (show k _ []from h) (YQ (.tup [.agg (encR r),.int .i64 e]) ⟨⟨trivial,trivial,trivial,trivial,trivial,trivial,trivial,trivial⟩,trivial,trivial⟩) (fun _=>by simp [Yl,Ym,encR])
theorem Yqs{k:SV->List HO->Prop}{al:Bool}{hp:List HO}{r:Rt}(h:k (.agg (encR r)) []):YH al k (.agg (encR r)) hp:=
 YD (show k _ []from h) (YQ (.agg (encR r)) ⟨trivial,trivial,trivial,trivial,trivial,trivial,trivial,trivial⟩) (fun _=>by simp [Yl,Ym,encR])
def TB2:Env:={ ct:=fun n=>match n with|109=>some absC|108=>some gcdC|89=>some chkRC|_=>none,fn:=fun _=>none,meth:=fun _ _=>none}
theorem YiH:TB2.ct 109=some absC:=rfl
theorem YiG:TB2.ct 108=some gcdC:=rfl
theorem YgW:TB2.ct 89=some chkRC:=rfl
theorem Yvv:Yp Yzg TB2:=by
 refine⟨fun f c h=>?_,fun f vf h=>?_,(fun _ _ _ h=>by cases h),by kernel_rfl,(fun _ h=>by cases h)⟩
 . simp only[TB2]at h
   split at h
   . cases h;exact⟨Yv3,Tryz.f109,Tryz.func109,by kernel_rfl,by kernel_rfl⟩
   . cases h;exact⟨Ys9,Tryz.f108,Tryz.func108,by kernel_rfl,by kernel_rfl⟩
   . cases h;exact⟨Ylo,Tryz.f89,Tryz.func89,by kernel_rfl,by kernel_rfl⟩
   . cases h
 . cases h
theorem YoJ:madeC.ok Yzg 107:=by
 refine Yc Tryz.func107 Yuv Yvv 300 madeC fun args k h=>?_
 simp only[madeC]at h
 split at h
 . rename_i a b c d e f n
   refine⟨[.agg [.int .i64 a,.int .i64 b,.int .i64 c,.int .i64 d,.int .i64 e,.int .i64 f],.int .i64 n],by simp [leL,le],?_⟩
   obtain⟨r,hr⟩:∃r:Rt,r=⟨a,b,c,d,e,f,n⟩:=⟨_,rfl⟩
   rw[<-hr]at h
   rw[show a=r.a by rw[hr],show b=r.b by rw[hr],show c=r.c by rw[hr],show d=r.d by rw[hr],show e=r.e by rw[hr],show f=r.f by rw[hr]]
   rw[show n=r.n by rw[hr]]at h⊢
   clear hr
   obtain⟨⟨hn,hn2,hb⟩,h⟩:=h
   have h:k (.tup [.agg (encR (Ydx r).1),.int .i64 (Ydx r).2]) []:=h
   dsimp only[v107,go_sem,reduceIte,Yzb]
   simp only[Yd,Yzb,Yzd,reduceCtorEq,Yzc]
   refine Loop.keep [1,0,1,0,7] Nat (fun i=>[(6,.int .i64 (gP r i:Nat)),(14,.int .i64 i)]) (fun _=>[]) [] (fun i=>i<=6) (fun i=>6-i) ?_ ?_
   . refine⟨0,by omega,?_⟩
     dsimp only[go_sem,reduceIte,Yzb]
     simp only[Ya]
     repeat' apply Yzm
     all_goals first|exact trivial|decide|rfl|omega|exact(Yzt (by omega)).symm|exact Yf _ (YV _ _ _ _) |simp
   . rintro i hi
     dsimp only[YiH,YiG,absC,gcdC,Yzh,go_sem,reduceIte,Yzb]
     simp only[Yd,Yzb,Yzd,reduceCtorEq,Yzc]
     have hgl:gP r i<=9000000000000000000:=by rcases Ys7 r i with h1|h1 <;> omega
     have hg0:=YrT hn i
     refine⟨fun hlt=>?_,fun hge=>?_⟩
     . have hi6:i<6:=by omega
       rw[YdL r hi6]
       dsimp only[YiH,YiG,absC,gcdC,go_sem,reduceIte,Yzb]
       simp only[Yd,Yzb,Yzd,reduceCtorEq,Yzc]
       refine⟨⟨by omega,by omega⟩,hb i hi6,gP r i,(r.num i).natAbs,⟨rfl,rfl,by omega,?_⟩,i+1,by omega,by omega,?_⟩
       . have:=hb i hi6;omega
       . rw[Yzi ((i:Int)+1) (by omega)]
         simp only[Ya]
         repeat' apply Yzm
         all_goals first|exact trivial|decide|rfl|omega|exact(Yzt (by omega)).symm|exact Yf _ (YV _ _ _ _) |simp
     . obtain rfl:i=6:=by omega
       rw[gP_6]at hgl hg0⊢
       obtain⟨g,hg⟩:∃g,g=gcdR r:=⟨_,rfl⟩
       rw[Ydx,<-hg]at h
       rw[<-hg]at hgl hg0⊢
       have hdn:=Ypn r.n g (by omega)
       rw[Yzi (r.n.tdiv (g:Int)) (by omega)]
       refine⟨by omega,?_⟩
       refine Loop.keep [4,0,0,2,16] Nat (fun i=>[(27,.int .i64 i)]) (fun i=>[(2,.box (Yf7 (fun j=>(r.num j).tdiv g) (r.n.tdiv g) i))]) [] (fun i=>i<=6) (fun i=>6-i) ?_ ?_
       . refine⟨0,by omega,?_⟩
         dsimp only[Yf7,go_sem,reduceIte,Yzb]
         simp only[Ya]
         repeat' apply Yzm
         all_goals first|exact trivial|decide|rfl|omega|exact(Yzt (by omega)).symm|exact Yf _ (YV _ _ _ _) |simp
       . rintro i hi
         dsimp only[YgW,chkRC,Yzh,go_sem,reduceIte,Yzb]
         simp only[Yd,Yzb,Yzd,reduceCtorEq,Yzc]
         refine⟨fun hlt=>?_,fun hge=>?_⟩
         . have hi6:i<6:=by omega
           rw[YdL r hi6]
           dsimp only[YgW,chkRC,go_sem,reduceIte,Yzb]
           simp only[Yd,Yzb,Yzd,reduceCtorEq,Yzc]
           have hw:=Ypn (r.num i) g (hb i hi6)
           have e:YC (Yf7 (fun j=>(r.num j).tdiv g) (r.n.tdiv g) i) (idxN (i:Int) 1) [.int .i64 ((r.num i).tdiv g)]=Yf7 (fun j=>(r.num j).tdiv g) (r.n.tdiv g) (i+1):=Ymq (fun j=>(r.num j).tdiv g) (r.n.tdiv g) hi6
           rw[Yzi ((r.num i).tdiv g) (by omega),Yzi ((i:Int)+1) (by omega),e]
           refine⟨⟨by omega,by omega⟩,by omega,⟨by omega,by omega⟩,by rw[Yjk,YnQ];omega,i+1,by omega,by omega,?_⟩
           simp only[Ya]
           repeat' apply Yzm
           all_goals first|exact trivial|decide|rfl|omega|exact(Yzt (by omega)).symm|exact Yf _ (YV _ _ _ _) |simp
         . obtain rfl:i=6:=by omega
           simp only[YsL]
           dsimp only[YgW,chkRC,Rt.num,go_sem,reduceIte,Yzb]
           simp only[Yd,Yzb,Yzd,reduceCtorEq,Yzc]
           refine⟨fun hc=>?_,fun hc=>?_⟩
           . rw[if_neg (show¬chkR (divR r g)=0 from hc)]at h;exact Ybt (r:=Yav) (e:=7) h
           . rw[if_pos (show chkR (divR r g)=0 from hc)]at h;exact Ybt (r:=divR r g) (e:=0) h
 . exact h.1.elim
def orF:List Int->Int
 | []=>0
 |x::l=>if x≠0 then x else orF l
theorem Yw8{l:List Int}{i:Nat}(hi:i<l.length)(h:∀j,j<i->l.getD j 0=0)(hx:l.getD i 0≠0):orF l=l.getD i 0:=by
 induction l generalizing i with
 |nil=>simp at hi
 |cons x l ih=>
   cases i with
   |zero=>exact if_pos hx
   |succ i=>
     rw[orF,if_neg (by have:=h 0 (by omega);simpa using this)]
     exact ih (by simpa using hi) (fun j hj=>h (j+1) (by omega)) hx
theorem Yq7{l:List Int}(h:∀j,j<l.length->l.getD j 0=0):orF l=0:=by
 induction l with
 |nil=>rfl
 |cons x l ih=>
   rw[orF,if_neg (by have:=h 0 (by simp);simpa using this)]
   exact ih fun j hj=>h (j+1) (by simpa using hj)
def orC:Ctr:={ alias:=false,of:=fun l=>match l with
 | [.vs _ _ n sz get]=> .ex (List Int) fun l=> .pre (lsP 1 enc1 n sz get l/\n<=1000000) (.fin (.int .i64 (orF l)) [])
 |_=>noC}
def TB3:Env:={ ct:=fun _=>none,fn:=fun _=>none,meth:=fun _ _=>none}
theorem Yvw:Yp Yzg TB3:=by
 refine⟨fun f c h=>?_,fun f vf h=>?_,(fun _ _ _ h=>by cases h),by kernel_rfl,(fun _ h=>by cases h)⟩
 . cases h
 . cases h
theorem or_c:orC.ok Yzg 73:=by
 refine Yc Tryz.func73 YyO Yvw 300 orC fun args k h=>?_
 simp only[orC]at h
 split at h
 . rename_i tt z n sz get
   obtain⟨l,⟨⟨rfl,rfl,hg⟩,hn⟩,h⟩:=h
   refine⟨[.vs tt z l.length 1 (fun k=>enc1 (l.getD k default))],⟨⟨id,rfl,rfl,rfl,hg⟩,trivial⟩,?_⟩
   have h:k (.int .i64 (orF l)) []:=h
   dsimp only[v73,enc1,go_sem,reduceIte,Yzb]
   simp only[Yd,Yzb,Yzd,reduceCtorEq,Yzc]
   refine Loop.keep [3,2,0] Nat (fun i=>[(8,.int .i64 i)]) (fun _=>[]) [] (fun i=>i<=l.length/\∀j,j<i->l.getD j 0=0) (fun i=>l.length-i) ?_ ?_
   . refine⟨0,⟨by omega,fun j hj=>by omega⟩,?_⟩
     dsimp only[go_sem,reduceIte,Yzb]
     simp only[Ya]
     repeat' apply Yzm
     all_goals first|exact trivial|decide|rfl|omega|exact(Yzt (by omega)).symm|exact Yf _ (YV _ _ _ _) |simp
   . rintro i ⟨hi,hall⟩
     dsimp only[enc1,Yzh,go_sem,reduceIte,Yzb]
     simp only[Yd,Yzb,Yzd,reduceCtorEq,Yzc]
     refine⟨fun hlt=>⟨⟨by omega,by omega⟩,fun hc=>?_,fun hc=>⟨i+1,⟨by omega,fun j hj=>?_⟩,by omega,?_⟩⟩,fun hge=>?_⟩
     . rw[Yw8 (by omega) hall hc]at h;exact Yt h
     . rcases Yzx j i with h1|h1
       . exact hall j h1
       . obtain rfl:j=i:=by omega
         exact hc
     . rw[Yzi ((i:Int)+1) (by omega)]
       simp only[Ya]
       repeat' apply Yzm
       all_goals first|exact trivial|decide|rfl|omega|exact(Yzt (by omega)).symm|exact Yf _ (YV _ _ _ _) |simp
     . obtain rfl:i=l.length:=by omega
       rw[Yq7 hall]at h;exact Yt h
 . exact h.1.elim
def TB5:Env:={ ct:=fun n=>match n with|73=>some orC|_=>none,fn:=fun _=>none,meth:=fun _ _=>none}
theorem YpX:TB5.ct 73=some orC:=rfl
theorem Yvy:Yp Yzg TB5:=by
 refine⟨fun f c h=>?_,fun f vf h=>?_,(fun _ _ _ h=>by cases h),by kernel_rfl,(fun _ h=>by cases h)⟩
 . simp only[TB5]at h
   split at h
   . cases h;exact⟨or_c,Tryz.f73,Tryz.func73,by kernel_rfl,by kernel_rfl⟩
   . cases h
 . cases h
theorem Ys2:orC.ok Yzg 106:=by
 refine Yc Tryz.func106 Yuu Yvy 300 orC fun args k h=>?_
 simp only[orC]at h
 split at h
 . rename_i tt z n sz get
   obtain⟨l,⟨⟨rfl,rfl,hg⟩,hn⟩,h⟩:=h
   refine⟨[.vs tt z l.length 1 (fun k=>enc1 (l.getD k default))],⟨⟨id,rfl,rfl,rfl,hg⟩,trivial⟩,?_⟩
   have h:k (.int .i64 (orF l)) []:=h
   dsimp only[v106,YpX,orC,enc1,go_sem,reduceIte,Yzb]
   simp only[Yd,Yzb,Yzd,reduceCtorEq,Yzc]
   exact⟨l,⟨⟨rfl,rfl,fun k _=>Yb _⟩,hn⟩,Yt h⟩
 . exact h.1.elim
def Ygc(q:Nat->Int)(i k:Nat):Int:=if k<i then q k else 0
theorem Yxb(q:Nat->Int):Ygc q 6 0=q 0:=rfl
theorem Yxc(q:Nat->Int):Ygc q 6 1=q 1:=rfl
theorem Yxd(q:Nat->Int):Ygc q 6 2=q 2:=rfl
theorem Yxe(q:Nat->Int):Ygc q 6 3=q 3:=rfl
theorem Yxf(q:Nat->Int):Ygc q 6 4=q 4:=rfl
theorem Yxg(q:Nat->Int):Ygc q 6 5=q 5:=rfl
theorem YmC(q:Nat->Int)(i k:Nat):(if k=i then q i else Ygc q i k)=Ygc q (i+1) k:=by
 unfold Ygc
 by_cases h:k=i
 . subst h;rw[if_pos rfl,if_pos (by omega)]
 . rw[if_neg h]
   by_cases h2:k<i
   . rw[if_pos h2,if_pos (by omega)]
   . rw[if_neg h2,if_neg (by omega)]
theorem Yza{i:Nat}(h:i<6):YaJ 1 [.int .i64 0,.int .i64 0,.int .i64 0,.int .i64 0,.int .i64 0,.int .i64 0] i=[.int .i64 0]:=by
 rcases six h with rfl|rfl|rfl|rfl|rfl|rfl <;> rfl
def Ycx(x y:Rt)(s:Int)(i:Nat):Int:=x.num i*y.n+s*y.num i*x.n
theorem YlL(x y:Rt)(s:Int):Ybr x y s=if chkR x≠0 then(Yav,chkR x)else if chkR y≠0 then(Yav,chkR y)else Ydx ⟨Ycx x y s 0,Ycx x y s 1,Ycx x y s 2,Ycx x y s 3,Ycx x y s 4,Ycx x y s 5,x.n*y.n⟩:=rfl
theorem YcN{r:Rt}(h:chkR r=0){i:Nat}(hi:i<6): -100000<=r.num i/\r.num i<=100000:=by
 obtain⟨_,h1,h2,h3,h4,h5,h6,_⟩:=Ykb h
 rcases six hi with rfl|rfl|rfl|rfl|rfl|rfl
 . exact YdK h1
 . exact YdK h2
 . exact YdK h3
 . exact YdK h4
 . exact YdK h5
 . exact YdK h6
theorem Yey{r:Rt}(h:chkR r=0):1<=r.n/\r.n<=1000:=(Ykb h).1
theorem Yon{x y:Rt}{s:Int}(hx:chkR x=0)(hy:chkR y=0)(hs:s=1\/s= -1){i:Nat}(hi:i<6):
   IntKind.i64.wrap (x.num i*y.n)=x.num i*y.n/\IntKind.i64.wrap (s*y.num i)=s*y.num i/\IntKind.i64.wrap (s*y.num i*x.n)=s*y.num i*x.n/\IntKind.i64.wrap (x.num i*y.n+s*y.num i*x.n)=Ycx x y s i/\ -1000000000<=Ycx x y s i/\Ycx x y s i<=1000000000:=by
 have a1:=YcN hx hi
 have a2:=YcN hy hi
 have a3:=Yey hx
 have a4:=Yey hy
 have b1:=Ybi (x:=x.num i) (y:=y.n) (X:=100000) (Y:=1000) a1 (by omega)
 have a5: -100000<=s*y.num i/\s*y.num i<=100000:=by rcases hs with rfl|rfl <;> omega
 have b2:=Ybi (x:=s*y.num i) (y:=x.n) (X:=100000) (Y:=1000) a5 (by omega)
 unfold Ycx
 refine⟨Yzi _ (by omega),Yzi _ (by omega),Yzi _ (by omega),Yzi _ (by omega),by omega,by omega⟩
def joinC:Ctr:={ alias:=false,of:=fun l=>match l with
 | [.agg [.int .i64 a,.int .i64 b,.int .i64 c,.int .i64 d,.int .i64 e,.int .i64 f,.int .i64 n],.agg [.int .i64 a',.int .i64 b',.int .i64 c',.int .i64 d',.int .i64 e',.int .i64 f',.int .i64 n'],.int .i64 s]=>
   .pre (s=1\/s= -1) (.fin (.tup [.agg (encR (Ybr ⟨a,b,c,d,e,f,n⟩ ⟨a',b',c',d',e',f',n'⟩ s).1),.int .i64 (Ybr ⟨a,b,c,d,e,f,n⟩ ⟨a',b',c',d',e',f',n'⟩ s).2]) [])
 |_=>noC}
def TB4:Env:={ ct:=fun n=>match n with|89=>some chkRC|107=>some madeC|106=>some orC|_=>none,fn:=fun _=>none,meth:=fun _ _=>none}
theorem YpW:TB4.ct 89=some chkRC:=rfl
theorem YdC:TB4.ct 107=some madeC:=rfl
theorem Ynd:TB4.ct 106=some orC:=rfl
theorem Yvx:Yp Yzg TB4:=by
 refine⟨fun f c h=>?_,fun f vf h=>?_,(fun _ _ _ h=>by cases h),by kernel_rfl,(fun _ h=>by cases h)⟩
 . simp only[TB4]at h
   split at h
   . cases h;exact⟨Ylo,Tryz.f89,Tryz.func89,by kernel_rfl,by kernel_rfl⟩
   . cases h;exact⟨YoJ,Tryz.f107,Tryz.func107,by kernel_rfl,by kernel_rfl⟩
   . cases h;exact⟨Ys2,Tryz.f106,Tryz.func106,by kernel_rfl,by kernel_rfl⟩
   . cases h
 . cases h
theorem YwE:joinC.ok Yzg 88:=by
 refine Yc Tryz.func88 YyT Yvx 300 joinC fun args k h=>?_
 simp only[joinC]at h
 split at h
 . rename_i a b c d e f n a' b' c' d' e' f' n' s
   refine⟨[.agg [.int .i64 a,.int .i64 b,.int .i64 c,.int .i64 d,.int .i64 e,.int .i64 f,.int .i64 n],.agg [.int .i64 a',.int .i64 b',.int .i64 c',.int .i64 d',.int .i64 e',.int .i64 f',.int .i64 n'],.int .i64 s],by simp [leL,le],?_⟩
   obtain⟨x,hx⟩:∃r:Rt,r=⟨a,b,c,d,e,f,n⟩:=⟨_,rfl⟩
   obtain⟨y,hy⟩:∃r:Rt,r=⟨a',b',c',d',e',f',n'⟩:=⟨_,rfl⟩
   rw[<-hx,<-hy]at h
   rw[show a=x.a by rw[hx],show b=x.b by rw[hx],show c=x.c by rw[hx],show d=x.d by rw[hx],show e=x.e by rw[hx],show f=x.f by rw[hx],show n=x.n by rw[hx]]
   rw[show a'=y.a by rw[hy],show b'=y.b by rw[hy],show c'=y.c by rw[hy],show d'=y.d by rw[hy],show e'=y.e by rw[hy],show f'=y.f by rw[hy],show n'=y.n by rw[hy]]
   clear hx hy
   obtain⟨hs,h⟩:=h
   have h:k (.tup [.agg (encR (Ybr x y s).1),.int .i64 (Ybr x y s).2]) []:=h
   dsimp only[v88,YpW,chkRC,Ynd,orC,go_sem,reduceIte,Yzb]
   simp only[Yd,Yzb,Yzd,reduceCtorEq,Yzc]
   refine⟨by decide,[chkR x,chkR y],⟨rfl,rfl,fun k hk=>?_⟩,fun hc=>?_,fun hc=>?_⟩
   . match k,hk with
     |0,_=>exact Yb _
     |1,_=>exact Yb _
   . rw[YlL]at h
     by_cases h0:chkR x=0
     . rw[if_neg (by rw[h0];decide)]at h
       have e:orF [chkR x,chkR y]=chkR y:=by
         rw[orF,if_neg (by rw[h0];decide),orF]
         split
         . rfl
         . rename_i h1;rw[orF];omega
       rw[e]at hc⊢
       rw[if_pos hc]at h
       exact Ybt (r:=Yav) h
     . have e:orF [chkR x,chkR y]=chkR x:=by rw[orF,if_pos h0]
       rw[e]
       rw[if_pos h0]at h
       exact Ybt (r:=Yav) h
   have hcx:chkR x=0:=by
     by_cases h0:chkR x=0
     . exact h0
     . rw[orF,if_pos h0]at hc;exact absurd hc h0
   have hcy:chkR y=0:=by
     rw[orF,if_neg (by rw[hcx];decide),orF]at hc
     by_cases h0:chkR y=0
     . exact h0
     . rw[if_pos h0]at hc;exact absurd hc h0
   rw[YlL,if_neg (by rw[hcx];decide),if_neg (by rw[hcy];decide)]at h
   refine Loop.keep [2,0,0,1,0,1] Nat (fun i=>[(21,.int .i64 i)]) (fun i=>[(4,.own false 1 6 (fun k=>[.int .i64 (Ygc (Ycx x y s) i k)]))]) [] (fun i=>i<=6) (fun i=>6-i) ?_ ?_
   . refine⟨0,by omega,?_⟩
     dsimp only[go_sem,reduceIte,Yzb]
     simp only[Ya]
     refine⟨⟨by decide,by decide,by decide,by decide,rfl⟩,fun k hk=>?_⟩
     rw[Yza hk]
     exact⟨⟨rfl,rfl⟩,trivial⟩
   . rintro i hi
     dsimp only[YdC,madeC,Yzh,go_sem,reduceIte,Yzb]
     simp only[Yd,Yzb,Yzd,reduceCtorEq,Yzc]
     refine⟨fun hlt=>?_,fun hge=>?_⟩
     . have hi6:i<6:=by omega
       have d1:=Ylv x hi6
       have d2:=Ylv y hi6
       rw[Ylw x hi6]
       dsimp only[YdC,madeC,Yzh,go_sem,reduceIte,Yzb]
       simp only[Yd,Yzb,Yzd,reduceCtorEq,Yzc]
       rw[Ylw y hi6]
       dsimp only[YdC,madeC,Yzh,go_sem,reduceIte,Yzb]
       simp only[Yd,Yzb,Yzd,reduceCtorEq,Yzc]
       obtain⟨j1,j2,j3,j4,_⟩:=Yon hcx hcy hs hi6
       rw[j1,j2,j3,j4]
       refine⟨⟨by omega,by omega⟩,d1,⟨by omega,by omega⟩,d2,⟨by omega,by omega⟩,hi6,i+1,by omega,by omega,?_⟩
       rw[Yzi ((i:Int)+1) (by omega)]
       simp only[Ya]
       refine⟨⟨by decide,by decide,by decide,by decide,by simp⟩,?_⟩
       intro k hk
       rw[<-YmC]
       split
       . exact⟨⟨rfl,rfl⟩,trivial⟩
       . exact⟨⟨rfl,rfl⟩,trivial⟩
     . obtain rfl:i=6:=by omega
       have a3:=Yey hcx
       have a4:=Yey hcy
       have hm:=Ybi (x:=x.n) (y:=y.n) (X:=1000) (Y:=1000) (by omega) (by omega)
       have hm1:1<=x.n*y.n:=Int.mul_pos (by omega) (by omega)
       rw[Yzi (x.n*y.n) (by omega)]
       simp only[Yxb,Yxc,Yxd,Yxe,Yxf,Yxg]
       dsimp only[YdC,madeC,encR,go_sem,reduceIte,Yzb]
       simp only[Yd,Yzb,Yzd,reduceCtorEq,Yzc]
       refine⟨⟨hm1,by omega,fun i hi=>?_⟩,?_⟩
       . have:=(Yon hcx hcy hs hi).2.2.2.2
         rcases six hi with rfl|rfl|rfl|rfl|rfl|rfl <;> (simp only[Rt.num];omega)
       . exact⟨by decide,by decide,Ybt (r:=(Ydx ⟨Ycx x y s 0,Ycx x y s 1,Ycx x y s 2,Ycx x y s 3,Ycx x y s 4,Ycx x y s 5,x.n*y.n⟩).1) h⟩
 . exact h.1.elim
def YcA(s:Int):Ctr:={ alias:=false,of:=fun l=>match l with
 | [.agg [.int .i64 a,.int .i64 b,.int .i64 c,.int .i64 d,.int .i64 e,.int .i64 f,.int .i64 n],.agg [.int .i64 a',.int .i64 b',.int .i64 c',.int .i64 d',.int .i64 e',.int .i64 f',.int .i64 n']]=>
   .fin (.tup [.agg (encR (Ybr ⟨a,b,c,d,e,f,n⟩ ⟨a',b',c',d',e',f',n'⟩ s).1),.int .i64 (Ybr ⟨a,b,c,d,e,f,n⟩ ⟨a',b',c',d',e',f',n'⟩ s).2]) []
 |_=>noC}
def TB6:Env:={ ct:=fun n=>match n with|88=>some joinC|_=>none,fn:=fun _=>none,meth:=fun _ _=>none}
theorem YkM:TB6.ct 88=some joinC:=rfl
theorem YrB:Yp Yzg TB6:=by
 refine⟨fun f c h=>?_,fun f vf h=>?_,(fun _ _ _ h=>by cases h),by kernel_rfl,(fun _ h=>by cases h)⟩
 . simp only[TB6]at h
   split at h
   . cases h;exact⟨YwE,Tryz.f88,Tryz.func88,by kernel_rfl,by kernel_rfl⟩
   . cases h
 . cases h
theorem Yw0:(YcA 1).ok Yzg 124:=by
 refine Yc Tryz.func124 YuM YrB 300 (YcA 1) fun args k h=>?_
 simp only[YcA]at h
 split at h
 . rename_i a b c d e f n a' b' c' d' e' f' n'
   refine⟨[.agg [.int .i64 a,.int .i64 b,.int .i64 c,.int .i64 d,.int .i64 e,.int .i64 f,.int .i64 n],.agg [.int .i64 a',.int .i64 b',.int .i64 c',.int .i64 d',.int .i64 e',.int .i64 f',.int .i64 n']],by simp [leL,le],?_⟩
   dsimp only[v124,YkM,joinC,encR,go_sem,reduceIte,Yzb]
   simp only[Yd,Yzb,Yzd,reduceCtorEq,Yzc]
   exact⟨by decide,by decide,by decide,Ybt (r:=(Ybr ⟨a,b,c,d,e,f,n⟩ ⟨a',b',c',d',e',f',n'⟩ 1).1) h⟩
 . exact h.1.elim
theorem YrJ:(YcA (-1)).ok Yzg 63:=by
 refine Yc Tryz.func63 YyF YrB 300 (YcA (-1)) fun args k h=>?_
 simp only[YcA]at h
 split at h
 . rename_i a b c d e f n a' b' c' d' e' f' n'
   refine⟨[.agg [.int .i64 a,.int .i64 b,.int .i64 c,.int .i64 d,.int .i64 e,.int .i64 f,.int .i64 n],.agg [.int .i64 a',.int .i64 b',.int .i64 c',.int .i64 d',.int .i64 e',.int .i64 f',.int .i64 n']],by simp [leL,le],?_⟩
   dsimp only[v63,YkM,joinC,encR,go_sem,reduceIte,Yzb]
   simp only[Yd,Yzb,Yzd,reduceCtorEq,Yzc]
   exact⟨by decide,by decide,by decide,Ybt (r:=(Ybr ⟨a,b,c,d,e,f,n⟩ ⟨a',b',c',d',e',f',n'⟩ (-1)).1) h⟩
 . exact h.1.elim
def v64:VF:=⟨34,[.tmp 2,.tmp 3,.tmp 4],(ZR [u1 1 .box [.tm 0],u1 2 .mov [.cn .nil],Zi 3 0,Zi 4 0] (.seq (ZR [Zt 9 7 1,Zc 10 89 9,Zm 5 10] (ZR [Zm 11 5,Zq 12 .neq 11 0] (ZC 12 (ZR [Zm 13 5,u1 2 .mov [.cn .nil],Zi 3 0,Zm 4 13] .ret) .skip))) (ZR [u1 6 .mov [.cn .nil]] (.seq (ZR [Za 14 0 1,Zt 15 6 14,Zi 16 0] (.block 0 (.loop (ZR [Zq 17 .lss 16 6] (.seq (ZC 17 .skip (.exit 0)) (.seq (.block 1 (ZR [Zm 18 16,u1 19 (.index false 6 1) [.tm 15,.tm 16],Zm 7 18,Zm 8 19] (ZR [Zm 20 8,Zq 21 .neq 20 0] (ZC 21 (.region [Zm 22 6,Zm 23 7,u1 24 (.idxArr 6 1) [.cn (.xp false [(.int .i64 2),(.int .i64 3),(.int .i64 5),(.int .i64 7),(.int .i64 11),(.int .i64 13)]),.tm 23],Zf 25 1 24,Zm 26 8,u1 27 (.build [(.int .i64 0),(.int .i64 0)] [(0,1),(1,1)]) [.tm 25,.tm 26],u1 28 (.buildSlice 2 1 [(.int .i64 0),(.int .i64 0)] [(0,2)]) [.tm 27],u1 29 (.append 2 16 [(.int .i64 0),(.int .i64 0)]) [.tm 22,.tm 28],Zm 6 29]) .skip)))) (.region [Zp 30 16 1,Zm 16 30]))))))) (.seq (.draw [] [Zu 31 6,Zy 32 6 1,Zv 33 1 32,Zu 2 31,Zu 3 33,w1 4 .mov [.cn (.int .i64 0)]]) .ret)))))⟩
theorem YyG:Yh Yzg Tryz.f64=some v64:=by kernel_rfl
def v121:VF:=⟨62,[.cell 6 true 7,.tmp 7],(ZR [u1 3 .box [.tm 0],u1 6 (.alloc [(.int .i64 0),(.int .i64 0),(.int .i64 0),(.int .i64 0),(.int .i64 0),(.int .i64 0),(.int .i64 0)]) [],Zi 7 0] (.seq (ZR [Zt 10 7 3,Zc 11 89 10,Zm 8 11] (ZR [Zm 12 8,Zq 13 .neq 12 0] (ZC 13 (ZR [u1 14 (.build [(.int .i64 0),(.int .i64 0),(.int .i64 0),(.int .i64 0),(.int .i64 0),(.int .i64 0),(.int .i64 0)] []) [],Zm 15 8,Zs 7 6 14,Zm 7 15] .ret) .skip))) (.seq (ZR [Zm 16 1,Zq 17 .lss 16 (-1000),Zm 18 17,Zg 19 18 false 1,u2 20 18 false (.cmp .gtr) [.tm 19,.cn (.int .i64 1000)],u1 21 .or [.tm 18,.tm 20],Zm 22 21,Zg 23 22 false 2,u2 24 22 false (.cmp .lss) [.tm 23,.cn (.int .i64 (-1000))],u1 25 .or [.tm 22,.tm 24],Zm 26 25,Zg 27 26 false 2,u2 28 26 false (.cmp .gtr) [.tm 27,.cn (.int .i64 1000)],u1 29 .or [.tm 26,.tm 28],Zm 30 29,Zg 31 30 false 2,u2 32 30 false (.cmp .eql) [.tm 31,.cn (.int .i64 0)],u1 33 .or [.tm 30,.tm 32]] (ZC 33 (ZR [u1 34 (.build [(.int .i64 0),(.int .i64 0),(.int .i64 0),(.int .i64 0),(.int .i64 0),(.int .i64 0),(.int .i64 0)] []) [],Zs 7 6 34,Zi 7 2] .ret) .skip)) (.seq (ZR [Zm 35 2,Zq 36 .lss 35 0] (ZC 36 (.region [Zm 37 1,u1 38 .neg [.tm 37],Zm 39 2,u1 40 .neg [.tm 39],Zm 1 38,Zm 2 40]) .skip)) (.seq (ZR [Zi 41 0] (.block 0 (.loop (ZR [Zq 42 .lss 41 6] (.seq (ZC 42 .skip (.exit 0)) (.seq (.block 1 (ZR [Zm 43 41,Zm 9 43] (.region [Zm 44 9,Za 45 0 3,u1 46 (.idxArr 6 1) [.tm 45,.tm 44],Zf 47 1 46,Zm 48 1,Zo 49 .mul 47 48,Za 50 0 3,u1 51 (.idxArr 6 1) [.tm 50,.tm 44],Zs 1 51 49]))) (.region [Zp 52 41 1,Zm 41 52]))))))) (ZR [Za 53 0 3,Zt 54 6 53,Za 55 6 3,Zf 56 1 55,Zm 57 2,Zo 58 .mul 56 57,Zd 59 107 54 58,Ze 60 0 59,Ze 61 1 59,Zs 7 6 60,Zm 7 61] .ret))))))⟩
theorem YuJ:Yh Yzg Tryz.f121=some v121:=by kernel_rfl
def prm:Nat->Int
 |0=>2
 |1=>3
 |2=>5
 |3=>7
 |4=>11
 |_=>13
def tP(r:Rt):Nat->List (Int×Int)
 |0=>[]
 |i+1=>tP r i++tm1 (prm i) (r.num i)
theorem tP_6(r:Rt):tP r 6=Yx r:=by
 simp only[tP,Yx,prm,Rt.num,List.nil_append,List.append_assoc]
theorem Yyf{p n:Int}(h:n=0):tm1 p n=[]:=if_pos h
theorem tm1_n{p n:Int}(h:¬n=0):tm1 p n=[(p,n)]:=if_neg h
theorem Yyd(r:Rt):∀i,(tP r i).length<=i
 |0=>Yzk _
 |i+1=>by
   have:=Yyd r i
   have h:(tm1 (prm i) (r.num i)).length<=1:=by unfold tm1;split <;> simp
   rw[tP,Yzv];omega
theorem Ylx{i:Nat}(h:i<6):Yu 1 (Yq (i*1) [.int .i64 2,.int .i64 3,.int .i64 5,.int .i64 7,.int .i64 11,.int .i64 13])=[.int .i64 (prm i)]:=by
 rcases six h with rfl|rfl|rfl|rfl|rfl|rfl <;> rfl
theorem Yn5{i:Nat}(h:i<6):1<=lenL (Yq (i*1) [.int .i64 2,.int .i64 3,.int .i64 5,.int .i64 7,.int .i64 11,.int .i64 13]):=by
 rcases six h with rfl|rfl|rfl|rfl|rfl|rfl <;> exact Nat.le_of_ble_eq_true rfl
theorem YF{α:Type}[Inhabited α]{l m:List α}{k:Nat}(h:k<l.length):(l++m).getD k default=l.getD k default:=by
 rw[Yzl,List.getElem?_append_left h,<-Yzl]
theorem YG{α:Type}[Inhabited α]{l m:List α}{k:Nat}(h:l.length<=k):(l++m).getD k default=m.getD (k-l.length) default:=by
 rw[Yzl,List.getElem?_append_right h,<-Yzl]
theorem Yco{l:List (Int×Int)}{p q:Int}{a b j k:Nat}(hk:k<l.length+1):
   leL a b (if k<l.length then [SV.int .i64 (l.getD k default).fst,SV.int .i64 (l.getD k default).snd]else Yj j (Yu 2 (Yq ((k-l.length)*2) [SV.int .i64 p,SV.int .i64 q])))
     [SV.int .i64 ((l++[(p,q)]).getD k default).fst,SV.int .i64 ((l++[(p,q)]).getD k default).snd]:=by
 by_cases h:k<l.length
 . rw[if_pos h,YF h];exact⟨⟨rfl,rfl⟩,⟨rfl,rfl⟩,trivial⟩
 . rw[if_neg h,YG (by omega),show k-l.length=0 by omega];exact⟨⟨rfl,rfl⟩,⟨rfl,rfl⟩,trivial⟩
theorem one2{p q:Int}{k:Nat}(hk:k<1):lenL (Yu 2 (Yq (k*2) [SV.int .i64 p,SV.int .i64 q]))=2/\ones (Yu 2 (Yq (k*2) [SV.int .i64 p,SV.int .i64 q])):=by
 obtain rfl:k=0:=by omega
 exact⟨rfl,trivial,trivial,trivial⟩
def trmC:Ctr:={ alias:=false,of:=fun l=>match l with
 | [.agg [.int .i64 a,.int .i64 b,.int .i64 c,.int .i64 d,.int .i64 e,.int .i64 f,.int .i64 n]]=>
   if chkR ⟨a,b,c,d,e,f,n⟩≠0 then .fin (.tup [.nil,.int .i64 0,.int .i64 (chkR ⟨a,b,c,d,e,f,n⟩)]) [.box [.int .i64 a,.int .i64 b,.int .i64 c,.int .i64 d,.int .i64 e,.int .i64 f,.int .i64 n]]
   else .all Bool fun z=> .fin (.tup [.own 1 0 (Yx ⟨a,b,c,d,e,f,n⟩).length 2,.int .i64 n,.int .i64 0]) [.box [.int .i64 a,.int .i64 b,.int .i64 c,.int .i64 d,.int .i64 e,.int .i64 f,.int .i64 n],.own z 2 (Yx ⟨a,b,c,d,e,f,n⟩).length (fun k=>enc2 ((Yx ⟨a,b,c,d,e,f,n⟩).getD k default))]
 |_=>noC}
def TC0:Env:={ ct:=fun n=>match n with|89=>some chkRC|_=>none,fn:=fun _=>none,meth:=fun _ _=>none}
theorem YpY:TC0.ct 89=some chkRC:=rfl
theorem Yvz:Yp Yzg TC0:=by
 refine⟨fun f c h=>?_,fun f vf h=>?_,(fun _ _ _ h=>by cases h),by kernel_rfl,(fun _ h=>by cases h)⟩
 . simp only[TC0]at h
   split at h
   . cases h;exact⟨Ylo,Tryz.f89,Tryz.func89,by kernel_rfl,by kernel_rfl⟩
   . cases h
 . cases h
theorem Yyh:trmC.ok Yzg 64:=by
 refine Yex Tryz.func64 YyG Yvz 300 trmC fun args k h=>?_
 simp only[trmC]at h
 split at h
 . rename_i a b c d e f n
   refine⟨[.agg [.int .i64 a,.int .i64 b,.int .i64 c,.int .i64 d,.int .i64 e,.int .i64 f,.int .i64 n]],by simp [leL,le],?_⟩
   obtain⟨r,hr⟩:∃r:Rt,r=⟨a,b,c,d,e,f,n⟩:=⟨_,rfl⟩
   rw[<-hr]at h
   rw[show a=r.a by rw[hr],show b=r.b by rw[hr],show c=r.c by rw[hr],show d=r.d by rw[hr],show e=r.e by rw[hr],show f=r.f by rw[hr],show n=r.n by rw[hr]]at h⊢
   clear hr
   dsimp only[v64,YpY,chkRC,go_sem,reduceIte,Yzb]
   simp only[Yd,Yzb,Yzd,reduceCtorEq,Yzc]
   refine⟨fun hc=>?_,fun hc=>?_⟩
   . rw[if_pos hc]at h
     exact⟨h,⟨trivial,trivial,trivial,trivial⟩,by simp [Ybf,Ym,Yl]⟩
   . rw[if_neg (by rw[show chkR r=0 from hc];decide)]at h
     refine Loop.keep [1,0,0,0,10] (Nat×Bool) (fun s=>[(6,.own 1 0 (tP r s.1).length 2),(16,.int .i64 s.1)]) (fun s=>[(1,.own s.2 2 (tP r s.1).length (fun k=>enc2 ((tP r s.1).getD k default)))]) [.gone] (fun s=>s.1<=6/\(s.2=true->(tP r s.1).length=0)) (fun s=>6-s.1) ?_ ?_
     . refine⟨(0,true),⟨by decide,fun _=>rfl⟩,?_⟩
       dsimp only[tP,Yzw,go_sem,reduceIte,Yzb]
       simp only[Ya]
       repeat' apply Yzm
       all_goals first|exact trivial|decide|rfl|omega|exact(Yzt (by omega)).symm|exact Yf _ (YV _ _ _ _) |simp
     . rintro⟨i,z⟩ ⟨hi,hz⟩
       dsimp only at hi hz
       dsimp only[Yzh,enc2,go_sem,reduceIte,Yzb]
       simp only[Yd,Yzb,Yzd,reduceCtorEq,Yzc]
       refine⟨fun hlt=>?_,fun hge=>?_⟩
       . have hi6:i<6:=by omega
         have hl:=Yyd r i
         rw[YdL r hi6]
         dsimp only[Yzh,enc2,go_sem,reduceIte,Yzb]
         simp only[Yd,Yzb,Yzd,reduceCtorEq,Yzc]
         rw[Ylx hi6]
         dsimp only[Yzh,enc2,go_sem,reduceIte,Yzb]
         simp only[Yd,Yzb,Yzd,reduceCtorEq,Yzc]
         refine⟨⟨by omega,by omega⟩,fun hn=>⟨⟨by omega,by omega,by decide⟩,Yn5 hi6,by decide,⟨by unfold YR;omega,fun k hk=>one2 hk⟩,(i+1,false),⟨by simp only;omega,fun hh=>by cases hh⟩,by simp only;omega,?_⟩,fun hn=>⟨(i+1,z),⟨by simp only;omega,fun hh=>by simp only[tP,Yyf hn,List.append_nil];exact hz hh⟩,by simp only;omega,?_⟩⟩
         . simp only[tP,tm1_n hn,Yzv,List.length_singleton]
           rw[Yzi ((i:Int)+1) (by omega)]
           simp only[Ya]
           refine⟨?_,by simp,fun k hk=>Yco hk⟩
           repeat' apply Yzm
           all_goals first|exact trivial|decide|rfl|omega|exact(Yzt (by omega)).symm|exact Yf _ (YV _ _ _ _) |simp
         . simp only[tP,Yyf hn,List.append_nil]
           rw[Yzi ((i:Int)+1) (by omega)]
           simp only[Ya]
           repeat' apply Yzm
           all_goals first|exact trivial|decide|rfl|omega|exact(Yzt (by omega)).symm|exact Yf _ (YV _ _ _ _) |simp
       . obtain rfl:i=6:=by omega
         simp only[tP_6]
         exact⟨h z,⟨trivial,trivial,trivial,trivial⟩,by simp [Ybf,Ym,Yl]⟩
 . exact h.1.elim
def Yde(q p:Nat->Int)(n:Int)(i:Nat):List SV:=
 [.int .i64 (if 0<i then q 0 else p 0),.int .i64 (if 1<i then q 1 else p 1),.int .i64 (if 2<i then q 2 else p 2),.int .i64 (if 3<i then q 3 else p 3),.int .i64 (if 4<i then q 4 else p 4),.int .i64 (if 5<i then q 5 else p 5),.int .i64 n]
theorem YnR(q p:Nat->Int)(n:Int):Yde q p n 6=[.int .i64 (q 0),.int .i64 (q 1),.int .i64 (q 2),.int .i64 (q 3),.int .i64 (q 4),.int .i64 (q 5),.int .i64 n]:=rfl
theorem YiX(q p:Nat->Int)(n:Int)(i:Nat):lenL (Yde q p n i)=7:=rfl
theorem YiV(q p:Nat->Int)(n:Int)(i m:Nat):bndL m (Yde q p n i):=by simp [Yde,bndL,bnd]
theorem Ygu(q p:Nat->Int)(n:Int){i:Nat}(h:i<6):YC (Yde q p n i) (idxN (i:Int) 1) [.int .i64 (q i)]=Yde q p n (i+1):=by
 rcases six h with rfl|rfl|rfl|rfl|rfl|rfl <;> rfl
theorem YiW(q p:Nat->Int)(n:Int){i:Nat}(h:i<6):Yu 1 (Yq (idxN (i:Int) 1) (Yde q p n i))=[.int .i64 (p i)]:=by
 rcases six h with rfl|rfl|rfl|rfl|rfl|rfl <;> rfl
theorem Ygt(q p:Nat->Int)(n:Int){i:Nat}(h:i<6):1<=lenL (Yq (idxN (i:Int) 1) (Yde q p n i)):=by
 rcases six h with rfl|rfl|rfl|rfl|rfl|rfl <;> exact Nat.le_of_ble_eq_true rfl
def YnE(n d:Int):Bool:=decide (n< -1000) || decide (1000<n) || decide (d< -1000) || decide (1000<d) || decide (d=0)
theorem YsA{n d:Int}(h:YnE n d=false):(-1000<=n/\n<=1000)/\(-1000<=d/\d<=1000)/\d≠0:=by
 simp only[YnE,Bool.or_eq_false_iff,decide_eq_false_iff_not]at h;omega
def powN(r:Rt)(n d:Int):Rt×Int:=Ydx ⟨r.a*n,r.b*n,r.c*n,r.d*n,r.e*n,r.f*n,r.n*d⟩
def pwrF(r:Rt)(n d:Int):Rt×Int:=
 if chkR r≠0 then(Yav,chkR r)else if YnE n d=true then(Yav,2)else if d<0 then powN r (-n) (-d)else powN r n d
def powRC:Ctr:={ alias:=false,of:=fun l=>match l with
 | [.agg [.int .i64 a,.int .i64 b,.int .i64 c,.int .i64 d,.int .i64 e,.int .i64 f,.int .i64 n],.int .i64 p,.int .i64 q]=> .fin (.tup [.agg (encR (pwrF ⟨a,b,c,d,e,f,n⟩ p q).1),.int .i64 (pwrF ⟨a,b,c,d,e,f,n⟩ p q).2]) []
 |_=>noC}
def TC1:Env:={ ct:=fun n=>match n with|89=>some chkRC|107=>some madeC|_=>none,fn:=fun _=>none,meth:=fun _ _=>none}
theorem YpZ:TC1.ct 89=some chkRC:=rfl
theorem YbB:TC1.ct 107=some madeC:=rfl
theorem YvA:Yp Yzg TC1:=by
 refine⟨fun f c h=>?_,fun f vf h=>?_,(fun _ _ _ h=>by cases h),by kernel_rfl,(fun _ h=>by cases h)⟩
 . simp only[TC1]at h
   split at h
   . cases h;exact⟨Ylo,Tryz.f89,Tryz.func89,by kernel_rfl,by kernel_rfl⟩
   . cases h;exact⟨YoJ,Tryz.f107,Tryz.func107,by kernel_rfl,by kernel_rfl⟩
   . cases h
 . cases h
theorem pow_c:powRC.ok Yzg 121:=by
 refine Yc Tryz.func121 YuJ YvA 300 powRC fun args k h=>?_
 simp only[powRC]at h
 split at h
 . rename_i a b c d e f n p q
   refine⟨[.agg [.int .i64 a,.int .i64 b,.int .i64 c,.int .i64 d,.int .i64 e,.int .i64 f,.int .i64 n],.int .i64 p,.int .i64 q],by simp [leL,le],?_⟩
   obtain⟨r,hr⟩:∃r:Rt,r=⟨a,b,c,d,e,f,n⟩:=⟨_,rfl⟩
   rw[<-hr]at h
   rw[show a=r.a by rw[hr],show b=r.b by rw[hr],show c=r.c by rw[hr],show d=r.d by rw[hr],show e=r.e by rw[hr],show f=r.f by rw[hr],show n=r.n by rw[hr]]
   clear hr
   have h:k (.tup [.agg (encR (pwrF r p q).1),.int .i64 (pwrF r p q).2]) []:=h
   dsimp only[v121,YpZ,chkRC,go_sem,reduceIte,Yzb]
   simp only[Yd,Yzb,Yzd,reduceCtorEq,Yzc]
   refine⟨fun hc=>?_,fun hc=>⟨fun hb=>?_,fun hb=>?_⟩⟩
   . rw[pwrF,if_pos hc]at h
     exact Ybt (r:=Yav) h
   all_goals
     have hc:chkR r=0:=hc
     rw[pwrF,if_neg (by rw[hc];decide)]at h
   . rw[if_pos (show YnE p q=true from hb)]at h
     exact Ybt (r:=Yav) h
   . have hb:YnE p q=false:=hb
     rw[if_neg (by rw[hb];decide)]at h
     obtain⟨hp,hq,hq0⟩:=YsA hb
     refine⟨fun hneg=>?_,fun hpos=>?_⟩
     . rw[if_pos hneg]at h
       rw[Yzi (0-p) (by omega),Yzi (0-q) (by omega),Int.zero_sub,Int.zero_sub]
       obtain⟨P,hP⟩:∃P,P= -p:=⟨_,rfl⟩
       obtain⟨Q,hQ⟩:∃Q,Q= -q:=⟨_,rfl⟩
       rw[<-hP,<-hQ]at h⊢
       have hPb: -1000<=P/\P<=1000:=by omega
       have hQb:1<=Q/\Q<=1000:=by omega
       clear hp hq hP hQ
       refine Loop.keep [1,0,0,2,0] Nat (fun i=>[(41,.int .i64 i)]) (fun i=>[(0,.box (Yde (fun j=>r.num j*P) r.num r.n i))]) [] (fun i=>i<=6) (fun i=>6-i) ?_ ?_
       . refine⟨0,by omega,?_⟩
         dsimp only[Yde,go_sem,reduceIte,Yzb]
         simp only[Ya]
         repeat' apply Yzm
         all_goals first|exact trivial|decide|rfl|omega|exact(Yzt (by omega)).symm|exact Yf _ (YV _ _ _ _) |simp
       . rintro i hi
         dsimp only[YbB,madeC,Yzh,go_sem,reduceIte,Yzb]
         simp only[Yd,Yzb,Yzd,reduceCtorEq,Yzc]
         refine⟨fun hlt=>?_,fun hge=>?_⟩
         . have hi6:i<6:=by omega
           rw[YiW _ _ _ hi6]
           dsimp only[YbB,madeC,Yzh,go_sem,reduceIte,Yzb]
           simp only[Yd,Yzb,Yzd,reduceCtorEq,Yzc]
           have h1:=YcN hc hi6
           have hm:=Ybi (x:=r.num i) (y:=P) (X:=100000) (Y:=1000) h1 (by omega)
           have e:YC (Yde (fun j=>r.num j*P) r.num r.n i) (idxN (i:Int) 1) [.int .i64 (r.num i*P)]=Yde (fun j=>r.num j*P) r.num r.n (i+1):=Ygu (fun j=>r.num j*P) r.num r.n hi6
           rw[Yzi (r.num i*P) (by omega),Yzi ((i:Int)+1) (by omega),e]
           refine⟨⟨by omega,by omega⟩,Ygt _ _ _ hi6,⟨by omega,by omega⟩,by rw[Yjk,YiX];omega,i+1,by omega,by omega,?_⟩
           simp only[Ya]
           refine⟨?_,Yf _ (YiV _ _ _ _ _)⟩
           repeat' apply Yzm
           all_goals first|exact trivial|decide|rfl|omega|exact(Yzt (by omega)).symm|exact Yf _ (YV _ _ _ _) |simp
         . obtain rfl:i=6:=by omega
           have hn:=Yey hc
           have hm:=Ybi (x:=r.n) (y:=Q) (X:=1000) (Y:=1000) (by omega) (by omega)
           have hm1:1<=r.n*Q:=Int.mul_pos (by omega) (by omega)
           simp only[YnR]
           dsimp only[YbB,madeC,encR,go_sem,reduceIte,Yzb]
           simp only[Yd,Yzb,Yzd,reduceCtorEq,Yzc]
           rw[Yzi (r.n*Q) (by omega)]
           refine⟨⟨hm1,by omega,fun i hi=>?_⟩,?_⟩
           . have h1:=YcN hc hi
             have hm:=Ybi (x:=r.num i) (y:=P) (X:=100000) (Y:=1000) h1 (by omega)
             rcases six hi with rfl|rfl|rfl|rfl|rfl|rfl <;> (simp only[Rt.num]at hm⊢;omega)
           . exact⟨by decide,by decide,Ybt (r:=(powN r P Q).1) h⟩
     . rw[if_neg hpos]at h
       obtain⟨P,hP⟩:∃P,P=p:=⟨_,rfl⟩
       obtain⟨Q,hQ⟩:∃Q,Q=q:=⟨_,rfl⟩
       rw[<-hP,<-hQ]at h⊢
       have hPb: -1000<=P/\P<=1000:=by omega
       have hQb:1<=Q/\Q<=1000:=by omega
       refine Loop.keep [1,0,0,2,0] Nat (fun i=>[(41,.int .i64 i)]) (fun i=>[(0,.box (Yde (fun j=>r.num j*P) r.num r.n i))]) [] (fun i=>i<=6) (fun i=>6-i) ?_ ?_
       . refine⟨0,by omega,?_⟩
         dsimp only[Yde,go_sem,reduceIte,Yzb]
         simp only[Ya]
         repeat' apply Yzm
         all_goals first|exact trivial|decide|rfl|omega|exact(Yzt (by omega)).symm|exact Yf _ (YV _ _ _ _) |simp
       . rintro i hi
         dsimp only[YbB,madeC,Yzh,go_sem,reduceIte,Yzb]
         simp only[Yd,Yzb,Yzd,reduceCtorEq,Yzc]
         refine⟨fun hlt=>?_,fun hge=>?_⟩
         . have hi6:i<6:=by omega
           rw[YiW _ _ _ hi6]
           dsimp only[YbB,madeC,Yzh,go_sem,reduceIte,Yzb]
           simp only[Yd,Yzb,Yzd,reduceCtorEq,Yzc]
           have h1:=YcN hc hi6
           have hm:=Ybi (x:=r.num i) (y:=P) (X:=100000) (Y:=1000) h1 (by omega)
           have e:YC (Yde (fun j=>r.num j*P) r.num r.n i) (idxN (i:Int) 1) [.int .i64 (r.num i*P)]=Yde (fun j=>r.num j*P) r.num r.n (i+1):=Ygu (fun j=>r.num j*P) r.num r.n hi6
           rw[Yzi (r.num i*P) (by omega),Yzi ((i:Int)+1) (by omega),e]
           refine⟨⟨by omega,by omega⟩,Ygt _ _ _ hi6,⟨by omega,by omega⟩,by rw[Yjk,YiX];omega,i+1,by omega,by omega,?_⟩
           simp only[Ya]
           refine⟨?_,Yf _ (YiV _ _ _ _ _)⟩
           repeat' apply Yzm
           all_goals first|exact trivial|decide|rfl|omega|exact(Yzt (by omega)).symm|exact Yf _ (YV _ _ _ _) |simp
         . obtain rfl:i=6:=by omega
           have hn:=Yey hc
           have hm:=Ybi (x:=r.n) (y:=Q) (X:=1000) (Y:=1000) (by omega) (by omega)
           have hm1:1<=r.n*Q:=Int.mul_pos (by omega) (by omega)
           simp only[YnR]
           dsimp only[YbB,madeC,encR,go_sem,reduceIte,Yzb]
           simp only[Yd,Yzb,Yzd,reduceCtorEq,Yzc]
           rw[Yzi (r.n*Q) (by omega)]
           refine⟨⟨hm1,by omega,fun i hi=>?_⟩,?_⟩
           . have h1:=YcN hc hi
             have hm:=Ybi (x:=r.num i) (y:=P) (X:=100000) (Y:=1000) h1 (by omega)
             rcases six hi with rfl|rfl|rfl|rfl|rfl|rfl <;> (simp only[Rt.num]at hm⊢;omega)
           . exact⟨by decide,by decide,Ybt (r:=(powN r P Q).1) h⟩
 . exact h.1.elim
def v120:VF:=⟨64,[.cell 4 true 7,.tmp 5],(ZR [u1 4 (.alloc [(.int .i64 0),(.int .i64 0),(.int .i64 0),(.int .i64 0),(.int .i64 0),(.int .i64 0),(.int .i64 0)]) [],Zi 5 0] (.seq (ZR [Zm 9 0,Zq 10 .lss 9 1,Zm 11 10,Zg 12 11 false 0,u2 13 11 false (.cmp .gtr) [.tm 12,.cn (.int .i64 1000000000000)],u1 14 .or [.tm 11,.tm 13],Zm 15 14,Zg 16 15 false 1,u2 17 15 false (.cmp .lss) [.tm 16,.cn (.int .i64 1)],u1 18 .or [.tm 15,.tm 17],Zm 19 18,Zg 20 19 false 1,u2 21 19 false (.cmp .gtr) [.tm 20,.cn (.int .i64 1000000000000)],u1 22 .or [.tm 19,.tm 21]] (ZC 22 (ZR [u1 23 (.build [(.int .i64 0),(.int .i64 0),(.int .i64 0),(.int .i64 0),(.int .i64 0),(.int .i64 0),(.int .i64 0)] []) [],Zs 7 4 23,Zi 5 2] .ret) .skip)) (ZR [u1 24 (.build [(.int .i64 0),(.int .i64 0),(.int .i64 0),(.int .i64 0),(.int .i64 0),(.int .i64 0),(.int .i64 0)] [(6,1)]) [.cn (.int .i64 1)],u1 6 (.alloc [(.int .i64 0),(.int .i64 0),(.int .i64 0),(.int .i64 0),(.int .i64 0),(.int .i64 0),(.int .i64 0)]) [],Zs 7 6 24] (.seq (ZR [u1 25 (.load true 6) [.cn (.xp false [(.int .i64 2),(.int .i64 3),(.int .i64 5),(.int .i64 7),(.int .i64 11),(.int .i64 13)])],Zi 26 0] (.block 0 (.loop (ZR [Zq 27 .lss 26 6] (.seq (ZC 27 .skip (.exit 0)) (.seq (.block 1 (ZR [Zm 28 26,u1 29 (.index false 6 1) [.tm 25,.tm 26],Zm 7 28,Zm 8 29] (.seq (.block 2 (.loop (.seq (ZR [Zm 30 0,Zm 31 8,u1 32 .rem [.tm 30,.tm 31],Zq 33 .eql 32 0] (ZC 33 .skip (.exit 2))) (.seq (.block 3 (.region [Zm 37 7,Za 38 0 6,u1 39 (.idxArr 6 1) [.tm 38,.tm 37],Zf 40 1 39,Zp 41 40 1,Za 42 0 6,u1 43 (.idxArr 6 1) [.tm 42,.tm 37],Zs 1 43 41])) (.region [Zm 34 0,Zm 35 8,u1 36 .quo [.tm 34,.tm 35],Zm 0 36]))))) (.block 4 (.loop (.seq (ZR [Zm 44 1,Zm 45 8,u1 46 .rem [.tm 44,.tm 45],Zq 47 .eql 46 0] (ZC 47 .skip (.exit 4))) (.seq (.block 5 (.region [Zm 51 7,Za 52 0 6,u1 53 (.idxArr 6 1) [.tm 52,.tm 51],Zf 54 1 53,u1 55 (.ari .sub) [.tm 54,.cn (.int .i64 1)],Za 56 0 6,u1 57 (.idxArr 6 1) [.tm 56,.tm 51],Zs 1 57 55])) (.region [Zm 48 1,Zm 49 8,u1 50 .quo [.tm 48,.tm 49],Zm 1 50])))))))) (.region [Zp 58 26 1,Zm 26 58]))))))) (.seq (ZR [Zm 59 0,Zm 60 1,Zr 61 .neq 59 60] (ZC 61 (ZR [u1 62 (.build [(.int .i64 0),(.int .i64 0),(.int .i64 0),(.int .i64 0),(.int .i64 0),(.int .i64 0),(.int .i64 0)] []) [],Zs 7 4 62,Zi 5 7] .ret) .skip)) (ZR [Zt 63 7 6,Zs 7 4 63,Zi 5 0] .ret))))))⟩
theorem YuI:Yh Yzg Tryz.f120=some v120:=by kernel_rfl
def valL:Nat->Int->Int->Int->Int->Int×Int
 |0,_,n,c,_=>(n,c)
 |f+1,p,n,c,s=>if n%p=0 then valL f p (n/p) (c+s) s else(n,c)
def ofL(num den:Int):Nat->Int×Int×(Nat->Int)
 |0=>(num,den,fun _=>0)
 |i+1=>
   ((valL 64 (prm i) (ofL num den i).1 0 1).1,(valL 64 (prm i) (ofL num den i).2.1 (valL 64 (prm i) (ofL num den i).1 0 1).2 (-1)).1,
     fun k=>if k=i then(valL 64 (prm i) (ofL num den i).2.1 (valL 64 (prm i) (ofL num den i).1 0 1).2 (-1)).2 else(ofL num den i).2.2 k)
def Yqx(a b:Int):Bool:=decide (a<1) || decide (1000000000000<a) || decide (b<1) || decide (1000000000000<b)
def ofRF(a b:Int):Rt×Int:=
 if Yqx a b=true then(Yav,2)else if(ofL a b 6).1≠(ofL a b 6).2.1 then(Yav,7)
 else(⟨(ofL a b 6).2.2 0,(ofL a b 6).2.2 1,(ofL a b 6).2.2 2,(ofL a b 6).2.2 3,(ofL a b 6).2.2 4,(ofL a b 6).2.2 5,1⟩,0)
def YeM(g:Nat->Int)(n:Int):List SV:=[.int .i64 (g 0),.int .i64 (g 1),.int .i64 (g 2),.int .i64 (g 3),.int .i64 (g 4),.int .i64 (g 5),.int .i64 n]
def setF(g:Nat->Int)(i:Nat)(v:Int):Nat->Int:=fun k=>if k=i then v else g k
theorem YiS(g:Nat->Int)(n:Int){i:Nat}(h:i<6):Yu 1 (Yq (idxN (i:Int) 1) (YeM g n))=[.int .i64 (g i)]:=by
 rcases six h with rfl|rfl|rfl|rfl|rfl|rfl <;> rfl
theorem Ygs(g:Nat->Int)(n:Int){i:Nat}(h:i<6):1<=lenL (Yq (idxN (i:Int) 1) (YeM g n)):=by
 rcases six h with rfl|rfl|rfl|rfl|rfl|rfl <;> exact Nat.le_of_ble_eq_true rfl
theorem YiU(g:Nat->Int)(n:Int){i:Nat}(h:i<6)(v:Int):YC (YeM g n) (idxN (i:Int) 1) [.int .i64 v]=YeM (setF g i v) n:=by
 rcases six h with rfl|rfl|rfl|rfl|rfl|rfl <;> rfl
theorem YiT(g:Nat->Int)(n:Int):lenL (YeM g n)=7:=rfl
theorem Ycp(g:Nat->Int)(n:Int)(m:Nat):bndL m (YeM g n):=by simp [YeM,bndL,bnd]
theorem Yl6(g:Nat->Int)(i:Nat)(v w:Int):setF (setF g i v) i w=setF g i w:=by
 funext k;unfold setF;split <;> rfl
theorem YjL(g:Nat->Int)(i:Nat)(v:Int):setF g i v i=v:=if_pos rfl
theorem Yuk(g:Nat->Int)(i:Nat):setF g i (g i)=g:=by
 funext k;unfold setF;split
 . rename_i h;rw[h]
 . rfl
theorem YtM(i:Nat):2<=prm i/\prm i<=13:=by
 unfold prm;split <;> omega
theorem YnW{i:Nat}(h:i<6):Yu 1 (Yq (i*1) [.int .i64 2,.int .i64 3,.int .i64 5,.int .i64 7,.int .i64 11,.int .i64 13])=[.int .i64 (prm i)]:=Ylx h
theorem Ymg{n p:Int}{f:Nat}(hp:2<=p)(h1:1<=n)(h2:n<2^(f+1))(h3:n<=1000000000000)(hd:n%p=0):1<=n/p/\n/p<2^f/\n/p<=1000000000000:=by
 have e:=Int.mul_ediv_add_emod n p
 rw[hd,Int.add_zero]at e
 have hq:1<=n/p:=by
   rcases(show n/p<1\/1<=n/p by omega)with h|h
   . have:p*(n/p)<=p*0:=Int.mul_le_mul_of_nonneg_left (by omega) (by omega)
     omega
   . exact h
 have h4:2*(n/p)<=n:=by
   have:2*(n/p)<=p*(n/p):=Int.mul_le_mul_of_nonneg_right hp (by omega)
   omega
 rw[Int.pow_succ]at h2
 exact⟨hq,by omega,by omega⟩
def ofRC:Ctr:={ alias:=false,of:=fun l=>match l with
 | [.int .i64 a,.int .i64 b]=> .fin (.tup [.agg (encR (ofRF a b).1),.int .i64 (ofRF a b).2]) []
 |_=>noC}
theorem Yw6(a b:Int):∀i j,i<=j->(ofL a b i).2.2 j=0
 |0,_,_=>rfl
 |i+1,j,h=>by
   rw[ofL]
   show(if j=i then _ else _)=(0:Int)
   rw[if_neg (by omega)]
   exact Yw6 a b i j (by omega)
def TD0:Env:={ ct:=fun _=>none,fn:=fun _=>none,meth:=fun _ _=>none}
theorem YvB:Yp Yzg TD0:=by
 refine⟨fun f c h=>?_,fun f vf h=>?_,(fun _ _ _ h=>by cases h),by kernel_rfl,(fun _ h=>by cases h)⟩
 . cases h
 . cases h
theorem of_c:ofRC.ok Yzg 120:=by
 refine Yc Tryz.func120 YuI YvB 300 ofRC fun args k h=>?_
 simp only[ofRC]at h
 split at h
 . rename_i a b
   refine⟨[.int .i64 a,.int .i64 b],by simp [leL,le],?_⟩
   have h:k (.tup [.agg (encR (ofRF a b).1),.int .i64 (ofRF a b).2]) []:=h
   dsimp only[v120,go_sem,reduceIte,Yzb]
   simp only[Yd,Yzb,Yzd,reduceCtorEq,Yzc]
   refine⟨fun hb=>?_,fun hb=>?_⟩
   . rw[ofRF,if_pos (show Yqx a b=true from hb)]at h
     exact Ybt (r:=Yav) h
   . have hb:Yqx a b=false:=hb
     rw[ofRF,if_neg (by rw[hb];decide)]at h
     simp only[Yqx,Bool.or_eq_false_iff,decide_eq_false_iff_not]at hb
     refine Loop.keep [4,0,0,18] Nat (fun i=>[(0,.int .i64 (ofL a b i).1),(1,.int .i64 (ofL a b i).2.1),(26,.int .i64 i)]) (fun i=>[(1,.box (YeM (ofL a b i).2.2 1))]) [] (fun i=>i<=6/\(1<=(ofL a b i).1/\(ofL a b i).1<=1000000000000)/\1<=(ofL a b i).2.1/\(ofL a b i).2.1<=1000000000000) (fun i=>6-i) ?_ ?_
     . refine⟨0,⟨by omega,⟨by simp only[ofL];omega,by simp only[ofL];omega⟩,by simp only[ofL];omega,by simp only[ofL];omega⟩,?_⟩
       dsimp only[YeM,ofL,go_sem,reduceIte,Yzb]
       simp only[Ya]
       repeat' apply Yzm
       all_goals first|exact trivial|decide|rfl|omega|exact(Yzt (by omega)).symm|simp
     . rintro i ⟨hi,hx,hy⟩
       obtain⟨X,hX⟩:∃X,X=(ofL a b i).1:=⟨_,rfl⟩
       obtain⟨Y,hY⟩:∃Y,Y=(ofL a b i).2.1:=⟨_,rfl⟩
       obtain⟨g,hg⟩:∃g,g=(ofL a b i).2.2:=⟨_,rfl⟩
       rw[<-hX]at hx
       rw[<-hY]at hy
       rw[<-hX,<-hY,<-hg]
       dsimp only[Yzh,go_sem,reduceIte,Yzb]
       simp only[Yd,Yzb,Yzd,reduceCtorEq,Yzc]
       refine⟨fun hlt=>?_,fun hge=>?_⟩
       . have hi6:i<6:=by omega
         have hp:=YtM i
         have hg0:g i=0:=by rw[hg];exact Yw6 a b i i (Yzk _)
         rw[YnW hi6]
         refine⟨⟨by omega,by omega⟩,?_⟩
         have hS:ofL a b (i+1)=((valL 64 (prm i) X 0 1).1,(valL 64 (prm i) Y (valL 64 (prm i) X 0 1).2 (-1)).1,setF g i (valL 64 (prm i) Y (valL 64 (prm i) X 0 1).2 (-1)).2):=by
           rw[ofL,<-hX,<-hY,<-hg];rfl
         generalize prm i=p at hp hS⊢
         obtain⟨A,hA⟩:∃A,A=valL 64 p X 0 1:=⟨_,rfl⟩
         rw[<-hA]at hS
         refine Loop.keep [1,2,0,0,0,0,16,0] (Nat×Int×Int) (fun s=>[(0,.int .i64 s.2.1)]) (fun s=>[(1,.box (YeM (setF g i s.2.2) 1))]) [] (fun s=>A=valL s.1 p s.2.1 s.2.2 1/\1<=s.2.1/\s.2.1<2^s.1/\s.2.1<=1000000000000/\ -1000+s.1<=s.2.2/\s.2.2<=1000-s.1) (fun s=>s.1) ?_ ?_
         . refine⟨(64,X,0),⟨hA,hx.1,by simp only;omega,hx.2,by simp,by simp⟩,?_⟩
           rw[show setF g i (64,X,(0:Int)).2.2=g by rw[<-hg0];exact Yuk g i]
           dsimp only[go_sem,reduceIte,Yzb]
           simp only[Ya]
           refine⟨by decide,Yf _ (Ycp _ _ _)⟩
         . rintro⟨f,n,c⟩ ⟨hf,n1,n2,n3,c1,c2⟩
           dsimp only at hf n1 n2 n3 c1 c2
           dsimp only[Yzh,go_sem,reduceIte,Yzb]
           simp only[Yd,Yzb,Yzd,reduceCtorEq,Yzc]
           have e1:n.tmod p=n%p:=Int.tmod_eq_emod_of_nonneg (by omega)
           have e2:n.tdiv p=n/p:=Int.tdiv_eq_ediv_of_nonneg (by omega)
           rw[e1]
           obtain⟨q,rfl⟩:∃q,f=q+1:=by
             cases f with
             |zero=>simp at n2;omega
             |succ q=>exact⟨q,rfl⟩
           rw[valL]at hf
           refine⟨by omega,fun hd=>?_,fun hd=>?_⟩
           . rw[if_pos hd]at hf
             obtain⟨w1,w2,w3⟩:=Ymg (by omega) n1 n2 n3 hd
             rw[YiS _ _ hi6,YjL]
             dsimp only[Yzh,go_sem,reduceIte,Yzb]
             simp only[Yd,Yzb,Yzd,reduceCtorEq,Yzc]
             rw[YiU _ _ hi6,Yl6,e2,Yzi (n/p) (by omega),Yzi (c+1) (by omega)]
             refine⟨⟨by omega,by omega⟩,Ygs _ _ hi6,⟨by omega,by omega⟩,by rw[Yjk,YiT];omega,by omega,(q,n/p,c+1),⟨hf,w1,w2,w3,by simp only;omega,by simp only;omega⟩,by simp only;omega,?_⟩
             simp only[Ya]
             refine⟨by decide,Yf _ (Ycp _ _ _)⟩
           . rw[if_neg hd]at hf
             have hA1:A.1=n:=by rw[hf]
             have hA2:A.2=c:=by rw[hf]
             rw[hA2]at hS
             obtain⟨B,hB⟩:∃B,B=valL 64 p Y c (-1):=⟨_,rfl⟩
             rw[<-hB,hA1]at hS
             have n1':=n1
             have n3':=n3
             have c1': -2000+(64:Int)<=c/\c<=2000-64:=by omega
             clear hf hA n2 e1 e2 c1 c2 hA1 hA2
             refine Loop.keep [0,3,0,0,0,0,16,0] (Nat×Int×Int) (fun s=>[(1,.int .i64 s.2.1)]) (fun s=>[(1,.box (YeM (setF g i s.2.2) 1))]) [] (fun s=>B=valL s.1 p s.2.1 s.2.2 (-1)/\1<=s.2.1/\s.2.1<2^s.1/\s.2.1<=1000000000000/\ -2000+s.1<=s.2.2/\s.2.2<=2000-s.1) (fun s=>s.1) ?_ ?_
             . refine⟨(64,Y,c),⟨hB,hy.1,by simp only;omega,hy.2,by simp only;omega,by simp only;omega⟩,?_⟩
               dsimp only[go_sem,reduceIte,Yzb]
               simp only[Ya]
               refine⟨by decide,Yf _ (Ycp _ _ _)⟩
             . obtain⟨N,hN⟩:∃N,N=n:=⟨_,rfl⟩
               rw[<-hN]at n1' n3' hS⊢
               clear hN n1 n3 hd c1' hB
               rintro⟨f,n,c⟩ ⟨hf,n1,n2,n3,c1,c2⟩
               dsimp only at hf n1 n2 n3 c1 c2
               dsimp only[Yzh,go_sem,reduceIte,Yzb]
               simp only[Yd,Yzb,Yzd,reduceCtorEq,Yzc]
               have e1:n.tmod p=n%p:=Int.tmod_eq_emod_of_nonneg (by omega)
               have e2:n.tdiv p=n/p:=Int.tdiv_eq_ediv_of_nonneg (by omega)
               rw[e1]
               obtain⟨q,rfl⟩:∃q,f=q+1:=by
                 cases f with
                 |zero=>simp at n2;omega
                 |succ q=>exact⟨q,rfl⟩
               rw[valL]at hf
               refine⟨by omega,fun hd=>?_,fun hd=>?_⟩
               . rw[if_pos hd]at hf
                 obtain⟨w1,w2,w3⟩:=Ymg (by omega) n1 n2 n3 hd
                 rw[YiS _ _ hi6,YjL]
                 dsimp only[Yzh,go_sem,reduceIte,Yzb]
                 simp only[Yd,Yzb,Yzd,reduceCtorEq,Yzc]
                 rw[YiU _ _ hi6,Yl6,e2,Yzi (n/p) (by omega),Yzi (c-1) (by omega)]
                 refine⟨⟨by omega,by omega⟩,Ygs _ _ hi6,⟨by omega,by omega⟩,by rw[Yjk,YiT];omega,by omega,(q,n/p,c+(-1)),⟨hf,w1,w2,w3,by simp only;omega,by simp only;omega⟩,by simp only;omega,?_⟩
                 simp only[Ya]
                 refine⟨by decide,Yf _ (Ycp _ _ _)⟩
               . rw[if_neg hd]at hf
                 have hB1:B.1=n:=by rw[hf]
                 have hB2:B.2=c:=by rw[hf]
                 rw[hB1,hB2]at hS
                 refine⟨i+1,⟨by omega,⟨by rw[hS];exact n1',by rw[hS];exact n3'⟩,by rw[hS];exact n1,by rw[hS];exact n3⟩,by omega,?_⟩
                 rw[hS,Yzi ((i:Int)+1) (by omega)]
                 simp only[Ya]
                 refine⟨?_,Yf _ (Ycp _ _ _)⟩
                 repeat' apply Yzm
                 all_goals first|exact trivial|decide|rfl|omega|exact(Yzt (by omega)).symm|simp
       . obtain rfl:i=6:=by omega
         rw[<-hX,<-hY,<-hg]at h
         refine⟨fun hn=>?_,fun he=>?_⟩
         . rw[if_pos hn]at h
           exact Ybt (r:=Yav) h
         . rw[if_neg (by omega)]at h
           exact⟨Yzk 7,⟨rfl,by simp [YeM,Yu,ones,one]⟩,Yzk 7,Ybt (r:=⟨g 0,g 1,g 2,g 3,g 4,g 5,1⟩) h⟩
 . exact h.1.elim
def v43:VF:=⟨71,[.tmp 6,.tmp 7,.tmp 8],(ZR [u1 3 .box [.tm 0],u1 4 .box [.tm 1],Zi 6 0,u1 7 .mov [.cn (.bool false)],Zi 8 0] (.seq (ZR [Zf 15 1 3,Zc 16 66 15,Zm 9 16] (ZR [Zm 17 9,Zq 18 .neq 17 0] (ZC 18 (ZR [Zm 19 9,Zi 6 0,u1 7 .mov [.cn (.bool false)],Zm 8 19] .ret) .skip))) (.seq (ZR [Zf 20 1 4,Zq 21 .lss 20 1,Zm 22 21,Zh 23 22 false 1 4,u2 24 22 false (.cmp .gtr) [.tm 23,.cn (.int .i64 1000000)],u1 25 .or [.tm 22,.tm 24],Zm 26 25,Zg 27 26 false 2,u2 28 26 false (.cmp .lss) [.tm 27,.cn (.int .i64 1)],u1 29 .or [.tm 26,.tm 28],Zm 30 29,Zg 31 30 false 2,u2 32 30 false (.cmp .gtr) [.tm 31,.cn (.int .i64 10000000)],u1 33 .or [.tm 30,.tm 32]] (ZC 33 (ZR [Zi 6 0,u1 7 .mov [.cn (.bool false)],Zi 8 2] .ret) .skip)) (ZR [Zf 34 1 3,Zl 35 34,Zp 36 35 1,u1 37 (.make 2 16 [(.int .i64 0),(.int .i64 0)]) [.cn (.int .i64 0),.tm 36],u1 10 (.alloc [.nil]) [],Zs 1 10 37] (.seq (ZR [Zf 38 1 3,Zl 39 38,Zi 40 0] (.block 0 (.loop (ZR [Zr 41 .lss 40 39] (.seq (ZC 41 .skip (.exit 0)) (.seq (.block 1 (ZR [Zx 42 2 38 40,Zt 43 2 42,Zn 12,Zs 2 12 43] (.region [Zf 44 1 10,Za 45 0 12,Zf 46 1 45,Za 47 1 12,Zf 48 1 47,Zm 49 2,Zo 50 .mul 48 49,u1 51 (.build [(.int .i64 0),(.int .i64 0)] [(0,1),(1,1)]) [.tm 46,.tm 50],u1 52 (.buildSlice 2 1 [(.int .i64 0),(.int .i64 0)] [(0,2)]) [.tm 51],u1 53 (.append 2 16 [(.int .i64 0),(.int .i64 0)]) [.tm 44,.tm 52],Zs 1 10 53]))) (.region [Zp 54 40 1,Zm 40 54]))))))) (ZR [u1 55 (.mkfn (.func 69) 0) [.tm 10,.tm 3,.tm 4],u1 13 (.alloc [(.val .nilFunc)]) [],Zs 1 13 55] (ZR [u1 56 (.mkfn (.func 70) 0) [.tm 13],Zm 14 56] (.seq (ZR [Zm 57 14,u1 58 .callv [.tm 57,.cn (.int .i64 1000000000001)],Zm 59 58,Zg 60 59 false 14,u2 61 59 false .callv [.tm 60,.cn (.int .i64 (-1000000000000))],u2 62 59 false .not [.tm 61],u1 63 .or [.tm 59,.tm 62]] (ZC 63 (ZR [Zi 6 0,u1 7 .mov [.cn (.bool false)],Zi 8 7] .ret) .skip)) (ZR [Zm 64 14,u1 65 (.call 71) [.cn (.int .i64 (-1000000000000)),.cn (.int .i64 1000000000001),.tm 64],Zm 6 65] (ZR [Zm 66 6,Zf 67 1 13,Zm 68 6,u1 69 .callv [.tm 67,.tm 68],Zc 70 72 69,Zm 6 66,Zm 7 70,Zi 8 0] .ret))))))))))⟩
theorem YyA:Yh Yzg Tryz.f43=some v43:=by kernel_rfl
def v69:VF:=⟨19,[.tmp 5],(ZR [u1 5 .mov [.cn .nil]] (.seq (.draw [] [Zv 6 1 1,Zv 7 1 2,w1 8 .len [.tm 7],Zv 9 1 2,w1 10 .len [.tm 9],w1 11 (.slice3 2) [.tm 6,.tm 8,.tm 10],Zu 12 0,w1 13 .neg [.tm 12],Zv 14 1 3,w1 15 (.ari .mul) [.tm 13,.tm 14],w1 16 (.build [(.int .i64 0),(.int .i64 0)] [(0,1),(1,1)]) [.cn (.int .i64 2),.tm 15],w1 17 (.buildSlice 2 1 [(.int .i64 0),(.int .i64 0)] [(0,2)]) [.tm 16],w1 18 (.append 2 16 [(.int .i64 0),(.int .i64 0)]) [.tm 11,.tm 17],Zu 5 18]) .ret))⟩
theorem YyL:Yh Yzg Tryz.f69=some v69:=by kernel_rfl
def v70:VF:=⟨9,[.tmp 3],(ZR [u1 3 .mov [.cn (.bool false)]] (ZR [Zf 4 1 1,Zm 5 0,u1 6 .callv [.tm 4,.tm 5],Zc 7 67 6,Zq 8 .geq 7 0,Zm 3 8] .ret))⟩
theorem YyM:Yh Yzg Tryz.f70=some v70:=by kernel_rfl
def sclT(s:Int)(x:Int×Int):Int×Int:=(x.1,x.2*s)
def atG(all:List (Int×Int))(den m:Int):List (Int×Int):=all++[(2, -m*den)]
def isG(all:List (Int×Int))(den m:Int):Bool:=decide (0<=Ykv (atG all den m))
def Yqw(den s:Int):Bool:=decide (den<1) || decide (1000000<den) || decide (s<1) || decide (10000000<s)
def flrG(all:List (Int×Int))(den:Int):Int×Bool×Int:=
 if(isG all den 1000000000001|| !isG all den (-1000000000000))=true then(0,false,7)
 else(bisL 64 (isG all den) (-1000000000000) 1000000000001,oneF (atG all den (bisL 64 (isG all den) (-1000000000000) 1000000000001)),0)
def flrF(l:List (Int×Int))(den s:Int):Int×Bool×Int:=
 if Yfo l≠0 then(0,false,Yfo l)else if Yqw den s=true then(0,false,2)else flrG (l.map (sclT s)) den
theorem Ykl{α β:Type}[Inhabited α][Inhabited β]{l:List α}{f:α->β}{k:Nat}(h:k<l.length):(l.map f).getD k default=f (l.getD k default):=by
 rw[Yzl,List.getElem?_map,List.getElem?_eq_getElem h,Yzl,List.getElem?_eq_getElem h];rfl
theorem Yli{A:List (Int×Int)}{L:Nat}(hL:A.length=L){q:Int}{hp:List HO}{r:List SV->List SV}:
   lsP 2 enc2 (L+1) 2 (fun k=>Ycf false hp r (if k<L then [SV.int .i64 (A.getD k default).fst,SV.int .i64 (A.getD k default).snd]else Yu 2 (Yq ((k-L)*2) [SV.int .i64 2,SV.int .i64 q]))) (A++[(2,q)]):=by
 subst hL
 refine⟨rfl,by simp,fun k hk=>?_⟩
 by_cases h:k<A.length
 . simp only[if_pos h]
   rw[YF h]
   exact Yb _
 . simp only[if_neg h]
   rw[YG (by omega),show k-A.length=0 by omega]
   exact Yb _
theorem Yv8{l:List (Int×Int)}{s den m:Int}(hl:∀x,x∈l->okT0 x=false)(hs:1<=s/\s<=10000000)(hd:1<=den/\den<=1000000)(hm: -1000000000001<=m/\m<=1000000000001):∀x,x∈atG (l.map (sclT s)) den m->okT x:=by
 intro x hx
 rw[atG,YzF,List.mem_singleton,List.mem_map]at hx
 rcases hx with⟨y,hy,rfl⟩ |rfl
 . have:=hl y hy
   simp only[okT0,Bool.or_eq_false_iff,decide_eq_false_iff_not]at this
   have hb:=Ybi (x:=y.2) (y:=s) (X:=1000000000) (Y:=10000000) (by omega) (by omega)
   simp only[okT,sclT]
   omega
 . have hb:=Ybi (x:= -m) (y:=den) (X:=1000000000001) (Y:=1000000) (by omega) (by omega)
   simp only[okT]
   omega
theorem Yic{m den:Int}(hd:1<=den/\den<=1000000)(hm: -1000000000001<=m/\m<=1000000000001):IntKind.i64.wrap (IntKind.i64.wrap (0-m)*den)= -m*den:=by
 have hb:=Ybi (x:= -m) (y:=den) (X:=1000000000001) (Y:=1000000) (by omega) (by omega)
 rw[Yzi (0-m) (by omega),Int.zero_sub,Yzi _ (by omega)]
theorem Yuj{A:List (Int×Int)}{L:Nat}{x y:Int}{k a b:Nat}(hk:k<L+1):leL a b (if k<L then [SV.int .i64 (A.getD k default).fst,SV.int .i64 (A.getD k default).snd]else Yu 2 (Yq ((k-L)*2) [SV.int .i64 x,SV.int .i64 y])) (if k<L then [SV.int .i64 (A.getD k default).fst,SV.int .i64 (A.getD k default).snd]else Yu 2 (Yq ((k-L)*2) [SV.int .i64 x,SV.int .i64 y])):=by
 by_cases h:k<L
 . rw[if_pos h];exact⟨⟨rfl,rfl⟩,⟨rfl,rfl⟩,trivial⟩
 . rw[if_neg h,show k-L=0 by omega];exact⟨⟨rfl,rfl⟩,⟨rfl,rfl⟩,trivial⟩
def flrC:Ctr:={ alias:=false,of:=fun l=>match l with
 | [.vs _ _ n sz get,.int .i64 den,.int .i64 s]=> .ex (List (Int×Int)) fun l=> .pre (lsP 2 enc2 n sz get l/\n<=1000000000000) (.fin (.tup [.int .i64 (flrF l den s).1,.bool (flrF l den s).2.1,.int .i64 (flrF l den s).2.2]) [])
 |_=>noC}
def TE0:Env:={ ct:=fun n=>match n with|66=>some chkTC|67=>some signC|72=>some oneC|_=>none,fn:=fun n=>match n with|69=>some v69|70=>some v70|71=>some v71|_=>none,meth:=fun _ _=>none}
theorem Yp0:TE0.ct 66=some chkTC:=rfl
theorem YgX:TE0.ct 67=some signC:=rfl
theorem Yg0:TE0.ct 72=some oneC:=rfl
theorem YgY:TE0.ct 69=none:=rfl
theorem Yg1:TE0.fn 69=some v69:=rfl
theorem YgZ:TE0.ct 70=none:=rfl
theorem Yg2:TE0.fn 70=some v70:=rfl
theorem Yp1:TE0.ct 71=none:=rfl
theorem Yp2:TE0.fn 71=some v71:=rfl
theorem YvC:Yp Yzg TE0:=by
 refine⟨fun f c h=>?_,fun f vf h=>?_,(fun _ _ _ h=>by cases h),by kernel_rfl,(fun _ h=>by cases h)⟩
 . simp only[TE0]at h
   split at h
   . cases h;exact⟨YnV,Tryz.f66,Tryz.func66,by kernel_rfl,by kernel_rfl⟩
   . cases h;exact⟨Yph,Tryz.f67,Tryz.func67,by kernel_rfl,by kernel_rfl⟩
   . cases h;exact⟨YtE,Tryz.f72,Tryz.func72,by kernel_rfl,by kernel_rfl⟩
   . cases h
 . simp only[TE0]at h
   split at h
   . cases h;exact⟨Tryz.f69,Tryz.func69,YyL,Tryz.f69,Tryz.func69,by kernel_rfl,by kernel_rfl⟩
   . cases h;exact⟨Tryz.f70,Tryz.func70,YyM,Tryz.f70,Tryz.func70,by kernel_rfl,by kernel_rfl⟩
   . cases h;exact⟨Tryz.f71,Tryz.func71,Ysf,Tryz.f71,Tryz.func71,by kernel_rfl,by kernel_rfl⟩
   . cases h
theorem Ys3:flrC.ok Yzg 43:=by
 refine Yc Tryz.func43 YyA YvC 800 flrC fun args k h=>?_
 simp only[flrC]at h
 split at h
 . rename_i tt z n sz get den s
   obtain⟨l,⟨⟨rfl,rfl,hg⟩,hnb⟩,h⟩:=h
   refine⟨[.vs tt z l.length 2 (fun k=>enc2 (l.getD k default)),.int .i64 den,.int .i64 s],⟨⟨id,rfl,rfl,rfl,hg⟩,⟨rfl,rfl⟩,⟨rfl,rfl⟩,trivial⟩,?_⟩
   dsimp only[v43,Yp0,chkTC,enc2,go_sem,reduceIte,Yzb]
   simp only[Yd,Yzb,Yzd,reduceCtorEq,Yzc]
   refine⟨l,⟨⟨rfl,rfl,fun k _=>Yb _⟩,by omega⟩,fun hh=>by rw[flrF,if_pos hh]at h;exact Ydg h,fun hchk=>?_⟩
   obtain⟨hl,hn⟩:=Ykc hchk
   rw[flrF,if_neg (by rw[hchk];decide)]at h
   refine⟨fun hh=>?_,fun hb=>?_⟩
   . rw[if_pos (show Yqw den s=true from hh)]at h
     exact Ydg h
   have hb:Yqw den s=false:=hb
   rw[if_neg (by rw[hb];decide)]at h
   simp only[Yqw,Bool.or_eq_false_iff,decide_eq_false_iff_not]at hb
   have hb:(1<=den/\den<=1000000)/\1<=s/\s<=10000000:=by omega
   have hlw:IntKind.i64.wrap ((l.length:Int)+1)=(l.length:Int)+1:=Yzi _ (by omega)
   rw[hlw]
   refine⟨⟨by decide,by decide,by omega,by unfold YR;omega⟩,?_⟩
   obtain⟨A,hA⟩:∃A,A=l.map (sclT s):=⟨_,rfl⟩
   have hAl:A.length=l.length:=by rw[hA,List.length_map]
   have hAk:∀k,k<l.length->A.getD k default=sclT s (l.getD k default):=fun k hk=>by rw[hA,Ykl hk]
   rw[<-hA]at h
   refine Loop.keep [2,0,0,1,0,0,1,27,0] Nat (fun i=>[(40,.int .i64 i)]) (fun i=>[(2,.own false 2 i (fun k=>enc2 (A.getD k default))),(3,.box [.own 2 0 i 2])]) [] (fun i=>i<=l.length) (fun i=>l.length-i) ?_ ?_
   . refine⟨0,Nat.zero_le _,?_⟩
     dsimp only[go_sem,reduceIte,Yzb]
     simp only[Ya]
     refine⟨⟨by decide,by decide,by decide,rfl⟩,⟨rfl,fun k hk=>absurd hk (Nat.not_lt_zero _)⟩,rfl,by decide⟩
   . rintro i hi
     dsimp only[Yzh,enc2,go_sem,reduceIte,Yzb]
     simp only[Yd,Yzb,Yzd,reduceCtorEq,Yzc]
     refine⟨fun hlt=>?_,fun hge=>?_⟩
     . have hil:i<l.length:=by omega
       have hx:=hl _ (YP hil)
       simp only[okT0,Bool.or_eq_false_iff,decide_eq_false_iff_not]at hx
       have hm:=Ybi (x:=(l.getD i default).2) (y:=s) (X:=1000000000) (Y:=10000000) (by omega) (by omega)
       rw[Yzi ((l.getD i default).2*s) (by omega),YaQ (i:=i) (n:=l.length) hil (by omega)]
       refine⟨⟨by omega,by omega⟩,by decide,⟨by unfold YR;omega,fun k hk=>one2 hk⟩,i+1,by omega,by omega,?_⟩
       simp only[Ya]
       refine⟨?_,⟨rfl,fun q hq=>?_⟩,?_⟩
       . repeat' apply Yzm
         all_goals first|exact trivial|decide|rfl|omega|exact(Yzt (by omega)).symm|simp
       . by_cases hqi:q<i
         . rw[if_pos hqi];exact⟨⟨rfl,rfl⟩,⟨rfl,rfl⟩,trivial⟩
         . obtain rfl:q=i:=by omega
           rw[if_neg hqi,hAk _ hil,Nat.sub_self]
           exact⟨⟨rfl,rfl⟩,⟨rfl,rfl⟩,trivial⟩
       . repeat' apply Yzm
         all_goals first|exact trivial|decide|rfl|omega|exact(Yzt (by omega)).symm|simp
     . obtain rfl:i=l.length:=by omega
       clear hi hge
       dsimp only[YgZ,Yg2,v70,YgY,Yg1,v69,YgX,Yg0,signC,go_sem,reduceIte,Yzb]
       simp only[Yd,Yzb,Yzd,reduceCtorEq,Yzc]
       rw[Yic hb.1 (by decide),Yic hb.1 (by decide)]
       simp only[Yzh]
       have hok:∀m:Int,(-1000000000001<=m/\m<=1000000000001)->∀x,x∈atG A den m->okT x:=fun m hm=>by rw[hA];exact Yv8 hl hb.2 hb.1 hm
       refine⟨⟨by omega,by omega⟩,by decide,⟨by decide,by unfold YR;omega,fun k hk=>one2 hk⟩,atG A den 1000000000001,⟨Yli hAl,hok _ (by decide),by omega⟩,?_⟩
       refine⟨fun hs1=>?_,fun hs1=>?_⟩
       . refine⟨⟨by omega,by omega⟩,by decide,⟨by decide,by unfold YR;omega,fun k hk=>one2 hk⟩,atG A den (-1000000000000),⟨Yli hAl,hok _ (by decide),by omega⟩,fun hc=>?_,fun hc=>?_⟩
         . rw[flrG,if_pos (show(isG A den 1000000000001|| !isG A den (-1000000000000))=true from hc)]at h
           exact Ydg h
         . rw[flrG,if_neg (by rw[show(isG A den 1000000000001|| !isG A den (-1000000000000))=false from hc];decide)]at h
           dsimp only[Yp1,Yp2,v71,go_sem,reduceIte,Yzb]
           simp only[Yd,Yzb,Yzd,reduceCtorEq,Yzc]
           obtain⟨t,ht⟩:∃t,t=isG A den:=⟨_,rfl⟩
           obtain⟨R,hR⟩:∃R,R=bisL 64 t (-1000000000000) 1000000000001:=⟨_,rfl⟩
           rw[<-ht,<-hR]at h
           refine Loop.keep [2] (Nat×Int×Int) (fun s=>[(0,.int .i64 s.2.1),(1,.int .i64 s.2.2)]) (fun _=>[]) [] (fun s=>R=bisL s.1 t s.2.1 s.2.2/\ -1000000000000<=s.2.1/\s.2.1<s.2.2/\s.2.2<=1000000000001/\s.2.2-s.2.1<=2^s.1) (fun s=>s.1) ?_ ?_
           . refine⟨(64, -1000000000000,1000000000001),⟨hR,by decide,by decide,by decide,by decide⟩,?_⟩
             dsimp only[go_sem,reduceIte,Yzb]
             simp only[Ya]
             repeat' apply Yzm
             all_goals first|decide|rfl| (intro k hk;exact Yuj hk)
           . rintro⟨f,lo,hi⟩ ⟨hf,b0,b1,b2,b3⟩
             dsimp only at hf b0 b1 b2 b3
             dsimp only[YgZ,Yg2,v70,YgY,Yg1,v69,YgX,Yg0,signC,oneC,go_sem,reduceIte,Yzb]
             simp only[Yd,Yzb,Yzd,reduceCtorEq,Yzc]
             simp only[Yzh]
             have ed:IntKind.i64.wrap (hi-lo)=hi-lo:=Yzi _ (by omega)
             have e2:IntKind.i64.wrap ((hi-lo).tdiv 2)=(hi-lo)/2:=by
               rw[Int.tdiv_eq_ediv_of_nonneg (by omega),Yzi _ (by omega)]
             have e3:IntKind.i64.wrap (lo+(hi-lo)/2)=lo+(hi-lo)/2:=Yzi _ (by omega)
             rw[ed,e2,e3]
             refine⟨fun hc1=>?_,fun hc1=>?_⟩
             . obtain⟨m,hm⟩:∃m,m=lo+(hi-lo)/2:=⟨_,rfl⟩
               rw[<-hm,Yic hb.1 (by omega)]
               obtain⟨g,rfl⟩:∃g,f=g+1:=by
                 cases f with
                 |zero=>simp at b3;omega
                 |succ g=>exact⟨g,rfl⟩
               rw[bisL,if_pos hc1,<-hm]at hf
               have b4:hi-lo<=2^g*2:=by rw[<-Int.pow_succ];exact b3
               refine⟨by decide,⟨by omega,by omega⟩,by decide,⟨by decide,by unfold YR;omega,fun k hk=>one2 hk⟩,atG A den m,⟨Yli hAl,hok _ (by omega),by omega⟩,fun hd1=>?_,fun hd1=>?_⟩
               . have hd1:t m=true:=by rw[ht];exact decide_eq_true hd1
                 rw[if_pos hd1]at hf
                 refine⟨(g,m,hi),⟨hf,by simp only;omega,by simp only;omega,b2,by simp only;omega⟩,by simp only;omega,?_⟩
                 simp only[Ya]
                 repeat' apply Yzm
                 all_goals first|decide|rfl| (intro k hk;exact Yuj hk)
               . have hd1:t m=false:=by rw[ht];exact decide_eq_false hd1
                 rw[if_neg (by rw[hd1];decide)]at hf
                 refine⟨(g,lo,m),⟨hf,by simp only;omega,by simp only;omega,by simp only;omega,by simp only;omega⟩,by simp only;omega,?_⟩
                 simp only[Ya]
                 repeat' apply Yzm
                 all_goals first|decide|rfl| (intro k hk;exact Yuj hk)
             . have hRlo:R=lo:=by
                 cases f with
                 |zero=>exact hf
                 |succ g=>rw[hf,bisL,if_neg hc1]
               subst hRlo
               rw[Yic hb.1 (by omega)]
               exact⟨⟨by omega,by omega⟩,by decide,⟨by decide,by unfold YR;omega,fun k hk=>one2 hk⟩,atG A den R,⟨Yli hAl,hok _ (by omega),by omega⟩,Ydg h⟩
       . refine⟨hs1,.bool false,?_⟩
         dsimp only[YgZ,Yg2,v70,YgY,Yg1,v69,YgX,Yg0,signC,go_sem,reduceIte,Yzb]
         simp only[Yd,Yzb,Yzd,reduceCtorEq,Yzc]
         have hw:isG A den 1000000000001=true:=decide_eq_true hs1
         rw[flrG,if_pos (by rw[hw];rfl)]at h
         refine⟨fun _=>Ydg h,fun hc=>?_⟩
         rw[decide_eq_true hs1]at hc
         cases hc
 . exact h.1.elim
def v123:VF:=⟨51,[.cell 2 true 7,.tmp 3,.tmp 4],(ZR [u1 1 .box [.tm 0],u1 2 (.alloc [(.int .i64 0),(.int .i64 0),(.int .i64 0),(.int .i64 0),(.int .i64 0),(.int .i64 0),(.int .i64 0)]) [],Zi 3 0,Zi 4 0] (ZR [Zt 11 7 1,Zc 12 64 11,Zm 10 12,Ze 13 0 10,Ze 14 1 10,Ze 15 2 10,Zm 5 13,Zm 6 14,Zm 4 15] (.seq (ZR [Zm 16 4,Zq 17 .neq 16 0] (ZC 17 (ZR [u1 18 (.build [(.int .i64 0),(.int .i64 0),(.int .i64 0),(.int .i64 0),(.int .i64 0),(.int .i64 0),(.int .i64 0)] []) [],Zm 19 4,Zs 7 2 18,Zi 3 0,Zm 4 19] .ret) .skip)) (ZR [Zm 21 5,Zm 22 6,u1 23 (.call 43) [.tm 21,.tm 22,.cn (.int .i64 1)],Zm 20 23,Ze 24 0 20,Ze 25 1 20,Ze 26 2 20,Zm 7 24,Zm 8 25,Zm 9 26] (ZR [Za 27 0 1,u1 28 (.idxArr 6 1) [.tm 27,.cn (.int .i64 0)],Zf 29 1 28,Zm 30 7,Za 31 6 1,Zf 32 1 31,Zo 33 .mul 30 32,Zo 34 .sub 29 33,Za 35 0 1,u1 36 (.idxArr 6 1) [.tm 35,.cn (.int .i64 0)],Zs 1 36 34] (.seq (ZR [Za 38 0 1,Zt 39 6 38,Za 40 6 1,Zf 41 1 40,Zd 42 107 39 41,Zm 37 42,Ze 43 0 37,Ze 44 1 37,Zs 7 2 43,Zm 4 44] (ZR [Zm 45 4,Zq 46 .neq 45 0] (ZC 46 (ZR [u1 47 (.build [(.int .i64 0),(.int .i64 0),(.int .i64 0),(.int .i64 0),(.int .i64 0),(.int .i64 0),(.int .i64 0)] []) [],Zm 48 4,Zs 7 2 47,Zi 3 0,Zm 4 48] .ret) .skip))) (ZR [Zt 49 7 2,Zm 50 7,Zs 7 2 49,Zm 3 50,Zi 4 0] .ret)))))))⟩
theorem YuL:Yh Yzg Tryz.f123=some v123:=by kernel_rfl
def v96:VF:=⟨14,[.cell 4 true 7],(ZR [u1 4 (.alloc [(.int .i64 0),(.int .i64 0),(.int .i64 0),(.int .i64 0),(.int .i64 0),(.int .i64 0),(.int .i64 0)]) []] (ZR [Zm 8 0,Zm 9 1,Zd 10 120 8 9,Zm 7 10,Ze 11 0 7,Ze 12 1 7,u1 5 (.alloc [(.int .i64 0),(.int .i64 0),(.int .i64 0),(.int .i64 0),(.int .i64 0),(.int .i64 0),(.int .i64 0)]) [],Zs 7 5 11,Zm 6 12] (ZR [Zt 13 7 5,Zs 7 4 13] .ret)))⟩
theorem Yy1:Yh Yzg Tryz.f96=some v96:=by kernel_rfl
def v99:VF:=⟨14,[.cell 4 true 7],(ZR [u1 2 .box [.tm 0],u1 3 .box [.tm 1],u1 4 (.alloc [(.int .i64 0),(.int .i64 0),(.int .i64 0),(.int .i64 0),(.int .i64 0),(.int .i64 0),(.int .i64 0)]) []] (ZR [Zt 8 7 2,Zt 9 7 3,Zd 10 124 8 9,Zm 7 10,Ze 11 0 7,Ze 12 1 7,u1 5 (.alloc [(.int .i64 0),(.int .i64 0),(.int .i64 0),(.int .i64 0),(.int .i64 0),(.int .i64 0),(.int .i64 0)]) [],Zs 7 5 11,Zm 6 12] (ZR [Zt 13 7 5,Zs 7 4 13] .ret)))⟩
theorem Yy4:Yh Yzg Tryz.f99=some v99:=by kernel_rfl
def v122:VF:=⟨14,[.cell 4 true 7],(ZR [u1 2 .box [.tm 0],u1 3 .box [.tm 1],u1 4 (.alloc [(.int .i64 0),(.int .i64 0),(.int .i64 0),(.int .i64 0),(.int .i64 0),(.int .i64 0),(.int .i64 0)]) []] (ZR [Zt 8 7 2,Zt 9 7 3,Zd 10 63 8 9,Zm 7 10,Ze 11 0 7,Ze 12 1 7,u1 5 (.alloc [(.int .i64 0),(.int .i64 0),(.int .i64 0),(.int .i64 0),(.int .i64 0),(.int .i64 0),(.int .i64 0)]) [],Zs 7 5 11,Zm 6 12] (ZR [Zt 13 7 5,Zs 7 4 13] .ret)))⟩
theorem YuK:Yh Yzg Tryz.f122=some v122:=by kernel_rfl
def v98:VF:=⟨13,[.cell 2 true 7],(ZR [u1 1 .box [.tm 0],u1 2 (.alloc [(.int .i64 0),(.int .i64 0),(.int .i64 0),(.int .i64 0),(.int .i64 0),(.int .i64 0),(.int .i64 0)]) []] (ZR [Zt 7 7 1,Zc 8 123 7,Zm 6 8,Ze 9 0 6,Ze 10 1 6,Ze 11 2 6,u1 3 (.alloc [(.int .i64 0),(.int .i64 0),(.int .i64 0),(.int .i64 0),(.int .i64 0),(.int .i64 0),(.int .i64 0)]) [],Zs 7 3 9,Zm 4 10,Zm 5 11] (ZR [Zt 12 7 3,Zs 7 2 12] .ret)))⟩
theorem Yy3:Yh Yzg Tryz.f98=some v98:=by kernel_rfl
theorem YhB{t:Int->Bool}:∀(f:Nat)(a b:Int),a<b->a<=bisL f t a b/\bisL f t a b<b
 |0,a,b,h=>⟨Int.le_refl _,h⟩
 |f+1,a,b,h=>by
   rw[bisL]
   split
   . split
     . have:=YhB (t:=t) f (a+(b-a)/2) b (by omega);omega
     . have:=YhB (t:=t) f a (a+(b-a)/2) (by omega);omega
   . omega
theorem YqN(l:List (Int×Int))(den s:Int): -1000000000000<=(flrF l den s).1/\(flrF l den s).1<=1000000000000:=by
 unfold flrF
 split
 . simp only;omega
 . split
   . simp only;omega
   . unfold flrG
     split
     . simp only;omega
     . have:=YhB (t:=isG (l.map (sclT s)) den) 64 (-1000000000000) 1000000000001 (by decide)
       simp only
       omega
def offR(r:Rt)(k:Int):Rt:=⟨r.a-k*r.n,r.b,r.c,r.d,r.e,r.f,r.n⟩
def YeN(r:Rt):Rt×Int×Int:=
 if chkR r≠0 then(Yav,0,chkR r)
 else if(Ydx (offR r (flrF (Yx r) r.n 1).1)).2≠0 then(Yav,0,(Ydx (offR r (flrF (Yx r) r.n 1).1)).2)
 else((Ydx (offR r (flrF (Yx r) r.n 1).1)).1,(flrF (Yx r) r.n 1).1,0)
def foldC:Ctr:={ alias:=false,of:=fun l=>match l with
 | [.agg [.int .i64 a,.int .i64 b,.int .i64 c,.int .i64 d,.int .i64 e,.int .i64 f,.int .i64 n]]=> .fin (.tup [.agg (encR (YeN ⟨a,b,c,d,e,f,n⟩).1),.int .i64 (YeN ⟨a,b,c,d,e,f,n⟩).2.1,.int .i64 (YeN ⟨a,b,c,d,e,f,n⟩).2.2]) []
 |_=>noC}
theorem Yj2{k:SV->List HO->Prop}{al:Bool}{hp:List HO}{r:Rt}{o e:Int}(h:k (.tup [.agg (encR r),.int .i64 o,.int .i64 e]) []):YH al k (.tup [.agg (encR r),.int .i64 o,.int .i64 e]) hp:=
 YD (show k _ []from h) (YQ (.tup [.agg (encR r),.int .i64 o,.int .i64 e]) ⟨⟨trivial,trivial,trivial,trivial,trivial,trivial,trivial,trivial⟩,trivial,trivial,trivial⟩) (fun _=>by simp [Yl,Ym,encR])
def TF0:Env:={ ct:=fun n=>match n with|64=>some trmC|43=>some flrC|107=>some madeC|_=>none,fn:=fun _=>none,meth:=fun _ _=>none}
theorem Yg4:TF0.ct 64=some trmC:=rfl
theorem Yg3:TF0.ct 43=some flrC:=rfl
theorem Yff:TF0.ct 107=some madeC:=rfl
theorem YvD:Yp Yzg TF0:=by
 refine⟨fun f c h=>?_,fun f vf h=>?_,(fun _ _ _ h=>by cases h),by kernel_rfl,(fun _ h=>by cases h)⟩
 . simp only[TF0]at h
   split at h
   . cases h;exact⟨Yyh,Tryz.f64,Tryz.func64,by kernel_rfl,by kernel_rfl⟩
   . cases h;exact⟨Ys3,Tryz.f43,Tryz.func43,by kernel_rfl,by kernel_rfl⟩
   . cases h;exact⟨YoJ,Tryz.f107,Tryz.func107,by kernel_rfl,by kernel_rfl⟩
   . cases h
 . cases h
theorem Ywv:foldC.ok Yzg 123:=by
 refine Yc Tryz.func123 YuL YvD 300 foldC fun args k h=>?_
 simp only[foldC]at h
 split at h
 . rename_i a b c d e f n
   refine⟨[.agg [.int .i64 a,.int .i64 b,.int .i64 c,.int .i64 d,.int .i64 e,.int .i64 f,.int .i64 n]],by simp [leL,le],?_⟩
   obtain⟨r,hr⟩:∃r:Rt,r=⟨a,b,c,d,e,f,n⟩:=⟨_,rfl⟩
   rw[<-hr]at h
   rw[show a=r.a by rw[hr],show b=r.b by rw[hr],show c=r.c by rw[hr],show d=r.d by rw[hr],show e=r.e by rw[hr],show f=r.f by rw[hr],show n=r.n by rw[hr]]
   clear hr
   have h:k (.tup [.agg (encR (YeN r).1),.int .i64 (YeN r).2.1,.int .i64 (YeN r).2.2]) []:=h
   dsimp only[v123,Yg4,Yg3,Yff,trmC,flrC,madeC,encR,go_sem,reduceIte,Yzb]
   simp only[Yd,Yzb,Yzd,reduceCtorEq,Yzc]
   rw[show Rt.mk r.a r.b r.c r.d r.e r.f r.n=r from rfl]
   by_cases hc:chkR r=0
   . rw[if_neg (by rw[hc];decide)]
     rw[YeN,if_neg (by rw[hc];decide)]at h
     dsimp only[Yg4,Yg3,Yff,trmC,flrC,madeC,encR,go_sem,reduceIte,Yzb]
     simp only[Yd,Yzb,Yzd,reduceCtorEq,Yzc]
     have hk:=YqN (Yx r) r.n 1
     have hn:=Yey hc
     have ha:=YcN hc (i:=0) (by decide)
     simp only[Rt.num]at ha
     have hm:=Ybi (x:=(flrF (Yx r) r.n 1).1) (y:=r.n) (X:=1000000000000) (Y:=1000) hk (by omega)
     refine fun y=>⟨by decide,by decide,by decide,fun hh=>absurd trivial hh,Yx r,⟨⟨rfl,rfl,fun q _=>Yb _⟩,by have:=Yes r;omega⟩,?_⟩
     rw[Yzi ((flrF (Yx r) r.n 1).1*r.n) (by omega),Yzi (r.a-(flrF (Yx r) r.n 1).1*r.n) (by omega)]
     refine⟨by decide,by decide,by decide,by decide,by decide,⟨by omega,by omega,fun i hi=>?_⟩,by decide,by decide,fun he=>?_,fun he=>?_⟩
     . have:=YcN hc hi
       rcases six hi with rfl|rfl|rfl|rfl|rfl|rfl <;> (simp only[Rt.num]at this⊢;omega)
     . rw[if_pos (show(Ydx (offR r (flrF (Yx r) r.n 1).1)).2≠0 from he)]at h
       exact Yj2 (r:=Yav) h
     . rw[if_neg (show¬(Ydx (offR r (flrF (Yx r) r.n 1).1)).2≠0 from fun hh=>hh he)]at h
       exact(Yj2 (r:=(Ydx (offR r (flrF (Yx r) r.n 1).1)).1) h)
   . rw[if_pos hc]
     rw[YeN,if_pos hc]at h
     dsimp only[Yg4,Yg3,Yff,trmC,flrC,madeC,encR,go_sem,reduceIte,Yzb]
     simp only[Yd,Yzb,Yzd,reduceCtorEq,Yzc]
     exact⟨by decide,by decide,by decide,fun _=>Yj2 (r:=Yav) h,fun hh=>absurd hh hc⟩
 . exact h.1.elim
def Yei:Ctr:=YcA 1
def Yaz:Ctr:=YcA (-1)
def wholeC:Ctr:={ alias:=false,of:=fun l=>match l with
 | [.int .i64 a,.int .i64 b]=> .fin (.agg (encR (ofRF a b).1)) []
 |_=>noC}
def m2C(s:Int):Ctr:={ alias:=false,of:=fun l=>match l with
 | [.agg [.int .i64 a,.int .i64 b,.int .i64 c,.int .i64 d,.int .i64 e,.int .i64 f,.int .i64 n],.agg [.int .i64 a',.int .i64 b',.int .i64 c',.int .i64 d',.int .i64 e',.int .i64 f',.int .i64 n']]=>
   .fin (.agg (encR (Ybr ⟨a,b,c,d,e,f,n⟩ ⟨a',b',c',d',e',f',n'⟩ s).1)) []
 |_=>noC}
def folC:Ctr:={ alias:=false,of:=fun l=>match l with
 | [.agg [.int .i64 a,.int .i64 b,.int .i64 c,.int .i64 d,.int .i64 e,.int .i64 f,.int .i64 n]]=> .fin (.agg (encR (YeN ⟨a,b,c,d,e,f,n⟩).1)) []
 |_=>noC}
def TF1:Env:={ ct:=fun n=>match n with|120=>some ofRC|124=>some Yei|63=>some Yaz|123=>some foldC|_=>none,fn:=fun _=>none,meth:=fun _ _=>none}
theorem YdD:TF1.ct 120=some ofRC:=rfl
theorem YdF:TF1.ct 124=some Yei:=rfl
theorem YeU:TF1.ct 63=some Yaz:=rfl
theorem YdE:TF1.ct 123=some foldC:=rfl
theorem YkN:Yp Yzg TF1:=by
 refine⟨fun f c h=>?_,fun f vf h=>?_,(fun _ _ _ h=>by cases h),by kernel_rfl,(fun _ h=>by cases h)⟩
 . simp only[TF1]at h
   split at h
   . cases h;exact⟨of_c,Tryz.f120,Tryz.func120,by kernel_rfl,by kernel_rfl⟩
   . cases h;exact⟨Yw0,Tryz.f124,Tryz.func124,by kernel_rfl,by kernel_rfl⟩
   . cases h;exact⟨YrJ,Tryz.f63,Tryz.func63,by kernel_rfl,by kernel_rfl⟩
   . cases h;exact⟨Ywv,Tryz.f123,Tryz.func123,by kernel_rfl,by kernel_rfl⟩
   . cases h
 . cases h
theorem Ypz:wholeC.ok Yzg 96:=by
 refine Yc Tryz.func96 Yy1 YkN 300 wholeC fun args k h=>?_
 simp only[wholeC]at h
 split at h
 . rename_i a b
   refine⟨[.int .i64 a,.int .i64 b],by simp [leL,le],?_⟩
   dsimp only[v96,YdD,YdF,YeU,YdE,ofRC,Yei,Yaz,YcA,foldC,encR,go_sem,reduceIte,Yzb]
   simp only[Yd,Yzb,Yzd,reduceCtorEq,Yzc]
   exact⟨by decide,by decide,Yqs (r:=(ofRF a b).1) h⟩
 . exact h.1.elim
theorem Ywu:folC.ok Yzg 98:=by
 refine Yc Tryz.func98 Yy3 YkN 300 folC fun args k h=>?_
 simp only[folC]at h
 split at h
 . rename_i a b c d e f n
   refine⟨[.agg [.int .i64 a,.int .i64 b,.int .i64 c,.int .i64 d,.int .i64 e,.int .i64 f,.int .i64 n]],by simp [leL,le],?_⟩
   dsimp only[v98,YdD,YdF,YeU,YdE,ofRC,Yei,Yaz,YcA,foldC,encR,go_sem,reduceIte,Yzb]
   simp only[Yd,Yzb,Yzd,reduceCtorEq,Yzc]
   exact⟨by decide,by decide,by decide,Yqs (r:=(YeN ⟨a,b,c,d,e,f,n⟩).1) h⟩
 . exact h.1.elim
theorem Yyg:(m2C 1).ok Yzg 99:=by
 refine Yc Tryz.func99 Yy4 YkN 300 (m2C 1) fun args k h=>?_
 simp only[m2C]at h
 split at h
 . rename_i a b c d e f n a' b' c' d' e' f' n'
   refine⟨[.agg [.int .i64 a,.int .i64 b,.int .i64 c,.int .i64 d,.int .i64 e,.int .i64 f,.int .i64 n],.agg [.int .i64 a',.int .i64 b',.int .i64 c',.int .i64 d',.int .i64 e',.int .i64 f',.int .i64 n']],by simp [leL,le],?_⟩
   dsimp only[v99,YdD,YdF,YeU,YdE,ofRC,Yei,Yaz,YcA,foldC,encR,go_sem,reduceIte,Yzb]
   simp only[Yd,Yzb,Yzd,reduceCtorEq,Yzc]
   exact⟨by decide,by decide,Yqs (r:=(Ybr ⟨a,b,c,d,e,f,n⟩ ⟨a',b',c',d',e',f',n'⟩ 1).1) h⟩
 . exact h.1.elim
theorem ovr_c:(m2C (-1)).ok Yzg 122:=by
 refine Yc Tryz.func122 YuK YkN 300 (m2C (-1)) fun args k h=>?_
 simp only[m2C]at h
 split at h
 . rename_i a b c d e f n a' b' c' d' e' f' n'
   refine⟨[.agg [.int .i64 a,.int .i64 b,.int .i64 c,.int .i64 d,.int .i64 e,.int .i64 f,.int .i64 n],.agg [.int .i64 a',.int .i64 b',.int .i64 c',.int .i64 d',.int .i64 e',.int .i64 f',.int .i64 n']],by simp [leL,le],?_⟩
   dsimp only[v122,YdD,YdF,YeU,YdE,ofRC,Yei,Yaz,YcA,foldC,encR,go_sem,reduceIte,Yzb]
   simp only[Yd,Yzb,Yzd,reduceCtorEq,Yzc]
   exact⟨by decide,by decide,Yqs (r:=(Ybr ⟨a,b,c,d,e,f,n⟩ ⟨a',b',c',d',e',f',n'⟩ (-1)).1) h⟩
 . exact h.1.elim
def letF(c:Int):Bool:=(decide (97<=c)&&decide (c<=122)) || (decide (65<=c)&&decide (c<=90))
def digF(c:Int):Bool:=decide (48<=c)&&decide (c<=57)
def okB(b:ByteArray)(i:Nat):Bool:=letF (YaW b i) || (decide (i≠0)&&(decide (YaW b i=95) || digF (YaW b i)))
def Ymz(b:ByteArray):Bool:=decide (1<=b.size)&&decide (b.size<=16)&&(List.range b.size).all (okB b)
theorem YoU(b:ByteArray)(i:Nat):(!letF (YaW b i)&&(decide ((i:Int)=0) || !decide (YaW b i=95)&& !digF (YaW b i)))= !okB b i:=by
 unfold okB
 have e:decide ((i:Int)=0)=decide (i=0):=decide_eq_decide.2 (by omega)
 rw[e,decide_not]
 cases letF (YaW b i) <;> cases decide (i=0) <;> cases decide (YaW b i=95) <;> cases digF (YaW b i) <;> rfl
theorem YtC{b:ByteArray}(h:∀j,j<b.size->okB b j=true):(List.range b.size).all (okB b)=true:=by
 rw[List.all_eq_true];intro j hj;exact h j (List.mem_range.1 hj)
theorem Yw7{b:ByteArray}{i:Nat}(hi:i<b.size)(h:okB b i=false):(List.range b.size).all (okB b)=false:=by
 rw[List.all_eq_false];exact⟨i,List.mem_range.2 hi,by simp [h]⟩
theorem Ytz{b:ByteArray}{i:Nat}(hi:i<b.size)(h:okB b i=false):Ymz b=false:=by
 unfold Ymz;rw[Yw7 hi h,Bool.and_false]
theorem Yq5{b:ByteArray}(h:∀j,j<b.size->okB b j=true):Ymz b=(decide (1<=(b.size:Int))&&decide ((b.size:Int)<=16)):=by
 unfold Ymz
 rw[YtC h,Bool.and_true,show decide (1<=(b.size:Int))=decide (1<=b.size)from decide_eq_decide.2 (by omega),show decide ((b.size:Int)<=16)=decide (b.size<=16)from decide_eq_decide.2 (by omega)]
theorem Ymo(b:ByteArray)(i:Nat):0<=YaW b i/\YaW b i<=255:=by
 unfold YaW
 have h:=UInt8.toNat_lt (b.data.toList.getD i 0)
 omega
set_option maxRecDepth 100000 in
theorem YwX{c:Int}(h0:0<=c)(h1:c<=255):(decide (97<=bitI .or .u8 c 32)&&decide (bitI .or .u8 c 32<=122))=letF c:=by
 have key:∀n:Fin 256,(decide (97<=bitI .or .u8 ((n.val:Nat):Int) 32)&&decide (bitI .or .u8 ((n.val:Nat):Int) 32<=122))=letF ((n.val:Nat):Int):=by decide
 have:=key ⟨c.toNat,by omega⟩
 have e:((c.toNat:Nat):Int)=c:=by omega
 simp only[e]at this
 exact this
def v118:VF:=⟨11,[.tmp 2],(ZR [u1 2 .mov [.cn (.bool false)]] (ZR [Zm 3 0,u1 4 (.bit .or) [.tm 3,.cn (.int .u8 32)],u1 5 (.cmp .geq) [.tm 4,.cn (.int .u8 97)],Zm 6 5,Zg 7 6 true 0,u2 8 6 true (.bit .or) [.tm 7,.cn (.int .u8 32)],u2 9 6 true (.cmp .leq) [.tm 8,.cn (.int .u8 122)],u1 10 .and [.tm 6,.tm 9],Zm 2 10] .ret))⟩
theorem YuG:Yh Yzg Tryz.f118=some v118:=by kernel_rfl
def v119:VF:=⟨9,[.tmp 2],(ZR [u1 2 .mov [.cn (.bool false)]] (ZR [Zm 3 0,u1 4 (.cmp .geq) [.tm 3,.cn (.int .u8 48)],Zm 5 4,Zg 6 5 true 0,u2 7 5 true (.cmp .leq) [.tm 6,.cn (.int .u8 57)],u1 8 .and [.tm 5,.tm 7],Zm 2 8] .ret))⟩
theorem YuH:Yh Yzg Tryz.f119=some v119:=by kernel_rfl
def v95:VF:=⟨38,[.tmp 2],(ZR [u1 2 .mov [.cn (.bool false)]] (.seq (ZR [Zm 5 0,u1 6 .lenStr [.tm 5],Zi 7 0] (.block 0 (.loop (ZR [Zr 8 .lss 7 6] (.seq (ZC 8 .skip (.exit 0)) (.seq (.block 1 (ZR [Zm 9 7,Zm 3 9] (ZR [Zm 10 0,Zm 11 3,u1 12 .idxStr [.tm 10,.tm 11],Zm 4 12] (ZR [Zm 13 4,Zc 14 118 13,u1 15 .not [.tm 14],Zm 16 15,Zg 17 16 true 3,u2 18 16 true (.cmp .eql) [.tm 17,.cn (.int .i64 0)],Zg 19 16 true 18,Zg 20 19 false 4,u2 21 19 false (.cmp .neq) [.tm 20,.cn (.int .u8 95)],Zg 22 19 false 21,Zg 23 22 true 4,u2 24 22 true (.call 119) [.tm 23],u2 25 22 true .not [.tm 24],u2 26 19 false .and [.tm 22,.tm 25],u2 27 16 true .or [.tm 19,.tm 26],u1 28 .and [.tm 16,.tm 27]] (ZC 28 (ZR [u1 2 .mov [.cn (.bool false)]] .ret) .skip))))) (.region [Zp 29 7 1,Zm 7 29]))))))) (ZR [Zm 30 0,u1 31 .lenStr [.tm 30],Zq 32 .geq 31 1,Zm 33 32,Zg 34 33 true 0,u2 35 33 true .lenStr [.tm 34],u2 36 33 true (.cmp .leq) [.tm 35,.cn (.int .i64 16)],u1 37 .and [.tm 33,.tm 36],Zm 2 37] .ret)))⟩
theorem Yy0:Yh Yzg Tryz.f95=some v95:=by kernel_rfl
def letC:Ctr:={ alias:=false,of:=fun l=>match l with
 | [.int .u8 c]=> .pre (0<=c/\c<=255) (.fin (.bool (letF c)) [])
 |_=>noC}
def digC:Ctr:={ alias:=false,of:=fun l=>match l with
 | [.int .u8 c]=> .fin (.bool (digF c)) []
 |_=>noC}
def NM0:Env:={ ct:=fun _=>none,fn:=fun _=>none,meth:=fun _ _=>none}
theorem Yrz:Yp Yzg NM0:=by
 refine⟨fun f c h=>?_,fun f vf h=>?_,(fun _ _ _ h=>by cases h),by kernel_rfl,(fun _ h=>by cases h)⟩
 . cases h
 . cases h
theorem YwW:letC.ok Yzg 118:=by
 refine Yc Tryz.func118 YuG Yrz 100 letC fun args k h=>⟨args,?_⟩
 simp only[letC]at h
 split at h
 . refine⟨by simp [leL,le],?_⟩
   dsimp only[v118,go_sem,reduceIte,Yzb]
   simp only[Yd,Yzb,Yzd,reduceCtorEq,Yzc]
   obtain⟨⟨h0,h1⟩,h⟩:=h
   have h:k _ []:=h
   rw[<-YwX h0 h1]at h
   exact Yaf h
 . exact h.1.elim
theorem Ywn:digC.ok Yzg 119:=by
 refine Yc Tryz.func119 YuH Yrz 100 digC fun args k h=>⟨args,?_⟩
 simp only[digC]at h
 split at h
 . refine⟨by simp [leL,le],?_⟩
   dsimp only[v119,go_sem,reduceIte,Yzb]
   simp only[Yd,Yzb,Yzd,reduceCtorEq,Yzc]
   have h:k _ []:=h
   unfold digF at h
   exact Yaf h
 . exact h.1.elim
def nameC:Ctr:={ alias:=false,of:=fun l=>match l with
 | [.val (.string b)]=> .pre (b.size<=9223372036854775807) (.fin (.bool (Ymz b)) [])
 |_=>noC}
def NM1:Env:={ ct:=fun n=>match n with|118=>some letC|119=>some digC|_=>none,fn:=fun _=>none,meth:=fun _ _=>none}
theorem YmW:NM1.ct 118=some letC:=rfl
theorem YmX:NM1.ct 119=some digC:=rfl
theorem Yvf:Yp Yzg NM1:=by
 refine⟨fun f c h=>?_,fun f vf h=>?_,(fun _ _ _ h=>by cases h),by kernel_rfl,(fun _ h=>by cases h)⟩
 . simp only[NM1]at h
   split at h
   . cases h;exact⟨YwW,Tryz.f118,Tryz.func118,by kernel_rfl,by kernel_rfl⟩
   . cases h;exact⟨Ywn,Tryz.f119,Tryz.func119,by kernel_rfl,by kernel_rfl⟩
   . cases h
 . cases h
theorem YtA:nameC.ok Yzg 95:=by
 refine Yc Tryz.func95 Yy0 Yvf 200 nameC fun args k h=>⟨args,?_⟩
 simp only[nameC]at h
 split at h
 . rename_i b
   refine⟨by simp [leL,le,bnd],?_⟩
   obtain⟨hb,h⟩:=h
   have h:k _ []:=h
   dsimp only[v95,go_sem,reduceIte,Yzb]
   simp only[Yd,Yzb,Yzd,reduceCtorEq,Yzc]
   refine Loop.keep [0,4,0,0] Nat (fun i=>[(7,.int .i64 i)]) (fun _=>[]) [] (fun i=>i<=b.size/\∀j,j<i->okB b j=true) (fun i=>b.size-i) ?_ ?_
   . refine⟨0,⟨Nat.zero_le _,fun j h=>by omega⟩,?_⟩
     dsimp only[go_sem,reduceIte,Yzb]
     simp only[Ya]
     simp
   . rintro i ⟨hi,ha⟩
     dsimp only[YmW,YmX,letC,digC,go_sem,reduceIte,Yzb]
     simp only[Yd,Yzb,Yzd,reduceCtorEq,Yzc,Yzh]
     refine⟨fun hlt=>⟨⟨by omega,hlt⟩,Ymo b i,fun a c=>by rw[a,decide_eq_false c];rfl,fun a c=>by rw[a,decide_eq_false c];rfl,fun hc=>?_,fun hc=>?_⟩,fun hge=>?_⟩
     . rw[YoU]at hc
       rw[Ytz (by omega:i<b.size) (by simpa using hc)]at h
       exact Yaf h
     . rw[YoU]at hc
       refine⟨i+1,⟨by omega,fun j hj=>?_⟩,by omega,?_⟩
       . rcases Yzx j i with h'|h'
         . exact ha j h'
         . obtain rfl:j=i:=by omega
           simpa using hc
       . simp only[Ya]
         exact YaQ (by omega:i<b.size) (by omega)
     . obtain rfl:i=b.size:=by omega
       rw[Yq5 ha]at h
       exact Yaf h
 . exact h.1.elim
def v94:VF:=⟨12,[.tmp 4],(ZR [Zi 4 0] (.seq (.block 0 (.loop (.seq (ZR [Zm 5 1,Zq 6 .neq 5 0] (ZC 6 .skip (.exit 0))) (.block 1 (.draw [] [Zu 7 1,Zu 8 0,Zu 9 1,w1 10 .rem [.tm 8,.tm 9],Zu 0 7,Zu 1 10]))))) (ZR [Zm 11 0,Zm 4 11] .ret)))⟩
theorem YyZ:Yh Yzg Tryz.f94=some v94:=by kernel_rfl
def v74:VF:=⟨90,[.tmp 2],(ZR [u1 1 .box [.tm 0],Zi 2 0] (.seq (ZR [Za 7 2 1,Zf 8 1 7,Zq 9 .lss 8 0,Zm 10 9,Zj 11 10 false 2 1,Zh 12 10 false 1 11,u2 13 10 false (.cmp .gtr) [.tm 12,.cn (.int .i64 11)],u1 14 .or [.tm 10,.tm 13]] (ZC 14 (ZR [Zi 2 2] .ret) .skip)) (ZR [u1 3 .mov [.cn (.bool true)],Zi 4 1] (.seq (ZR [Za 15 3 1,Zt 16 24 15,Zi 17 0] (.block 0 (.loop (ZR [Zq 18 .lss 17 12] (.seq (ZC 18 .skip (.exit 0)) (.seq (.block 1 (ZR [u1 19 (.index true 12 2) [.tm 16,.tm 17],Zn 6,Zs 2 6 19] (.seq (ZR [Za 20 1 6,Zf 21 1 20,Zq 22 .lss 21 1,Zm 23 22,Zj 24 23 false 1 6,Zh 25 23 false 1 24,u2 26 23 false (.cmp .gtr) [.tm 25,.cn (.int .i64 24)],u1 27 .or [.tm 23,.tm 26],Zm 28 27,Zj 29 28 false 0 6,Zh 30 28 false 1 29,Zj 31 28 false 1 6,Zh 32 28 false 1 31,u2 33 28 false (.ari .mul) [.cn (.int .i64 (-2)),.tm 32],u2 34 28 false (.cmp .lss) [.tm 30,.tm 33],u1 35 .or [.tm 28,.tm 34],Zm 36 35,Zj 37 36 false 0 6,Zh 38 36 false 1 37,Zj 39 36 false 1 6,Zh 40 36 false 1 39,u2 41 36 false (.ari .mul) [.cn (.int .i64 2),.tm 40],u2 42 36 false (.cmp .gtr) [.tm 38,.tm 41],u1 43 .or [.tm 36,.tm 42]] (ZC 43 (ZR [Zi 2 2] .ret) .skip)) (ZR [Zm 44 3,Zm 45 44,Zj 46 45 true 0 6,Zh 47 45 true 1 46,Zj 48 45 true 0 6,Zh 49 45 true 1 48,u2 50 45 true .neg [.tm 49],u2 51 45 true .max [.tm 47,.tm 50],Zj 52 45 true 1 6,Zh 53 45 true 1 52,u2 54 45 true (.call 94) [.tm 51,.tm 53],u2 55 45 true (.cmp .eql) [.tm 54,.cn (.int .i64 1)],u1 56 .and [.tm 45,.tm 55],Zm 3 56] (ZR [Zm 57 4,Zq 58 .leq 57 120] (ZC 58 (.draw [] [Zu 59 4,Zu 60 4,Zy 61 1 6,Zv 62 1 61,Zy 65 1 6,Zv 66 1 65,Zz 63 94 60 62,w1 64 .quo [.tm 59,.tm 63],w1 67 (.ari .mul) [.tm 64,.tm 66],Zu 4 67]) .skip)))))) (.region [Zp 68 17 1,Zm 17 68]))))))) (.seq (.block 2 (ZR [Za 70 0 1,Zf 71 1 70,Zc 72 95 71,u1 73 .not [.tm 72],Zm 74 73,Zg 75 74 false 3,u2 76 74 false .not [.tm 75],u1 77 .or [.tm 74,.tm 76],Zm 78 77,Zj 79 78 false 2 1,Zh 80 78 false 1 79,Zj 81 78 false 3 1,u2 82 78 false (.idxArr 12 2) [.tm 81,.tm 80],Zj 83 78 false 0 82,Zh 84 78 false 1 83,u2 85 78 false (.cmp .neq) [.tm 84,.cn (.int .i64 0)],u1 86 .or [.tm 78,.tm 85],Zm 69 86] (ZC 69 (ZR [Zi 2 6] .ret) (ZR [Zm 88 4,Zq 89 .gtr 88 120,Zm 87 89] (ZC 87 (ZR [Zi 2 7] .ret) .skip))))) (ZR [Zi 2 0] .ret))))))⟩
theorem YyP:Yh Yzg Tryz.f74=some v74:=by kernel_rfl
structure Tm where
 nm:ByteArray
 syn:Bool
 wolf:Int
 p:Nat->Int×Int
def encP(p:Nat->Int×Int):List SV:=[.int .i64 (p 0).1,.int .i64 (p 0).2,.int .i64 (p 1).1,.int .i64 (p 1).2,.int .i64 (p 2).1,.int .i64 (p 2).2,.int .i64 (p 3).1,.int .i64 (p 3).2,.int .i64 (p 4).1,.int .i64 (p 4).2,.int .i64 (p 5).1,.int .i64 (p 5).2,.int .i64 (p 6).1,.int .i64 (p 6).2,.int .i64 (p 7).1,.int .i64 (p 7).2,.int .i64 (p 8).1,.int .i64 (p 8).2,.int .i64 (p 9).1,.int .i64 (p 9).2,.int .i64 (p 10).1,.int .i64 (p 10).2,.int .i64 (p 11).1,.int .i64 (p 11).2]
def encT(T:Tm):List SV:= .val (.string T.nm):: .bool T.syn:: .int .i64 T.wolf::encP T.p
theorem YgT{i:Nat}(h:i<12):i=0\/i=1\/i=2\/i=3\/i=4\/i=5\/i=6\/i=7\/i=8\/i=9\/i=10\/i=11:=by omega
theorem YhT(p:Nat->Int×Int){i:Nat}(h:i<12):Yu 2 (Yq (i*2) (encP p))=[.int .i64 (p i).1,.int .i64 (p i).2]:=by
 rcases YgT h with rfl|rfl|rfl|rfl|rfl|rfl|rfl|rfl|rfl|rfl|rfl|rfl <;> rfl
theorem YqI(T:Tm){i:Nat}(h:i<12):Yu 1 (Yq (3+idxN (i:Int) 2) (encT T))=[.int .i64 (T.p i).1]:=by
 rcases YgT h with rfl|rfl|rfl|rfl|rfl|rfl|rfl|rfl|rfl|rfl|rfl|rfl <;> rfl
theorem YqJ(T:Tm){i:Nat}(h:i<12):1<=lenL (Yq (3+idxN (i:Int) 2) (encT T)):=by
 rcases YgT h with rfl|rfl|rfl|rfl|rfl|rfl|rfl|rfl|rfl|rfl|rfl|rfl <;> exact Nat.le_of_ble_eq_true rfl
theorem YO(T:Tm)(m:Nat):bndL m (encT T):=by simp [encT,encP,bndL,bnd]
def badT(x:Int×Int):Bool:=decide (x.2<1) || decide (24<x.2) || decide (x.1< -2*x.2) || decide (2*x.2<x.1)
def gcdT(x:Int×Int):Nat:=YzI x.1.natAbs x.2.toNat
def lowT(T:Tm)(i:Nat):Bool:=(List.range i).all fun j=>decide (gcdT (T.p j)=1)
def allT(T:Tm):Nat->Nat
 |0=>1
 |i+1=>if allT T i<=120 then allT T i/YzI (allT T i) (T.p i).2.toNat*(T.p i).2.toNat else allT T i
def badA(T:Tm):Bool:=(List.range 12).any fun i=>badT (T.p i)
def Yci(T:Tm):Int:=
 if T.wolf<0\/11<T.wolf then 2 else if badA T=true then 2
 else if Ymz T.nm=false\/lowT T 12=false\/(T.p T.wolf.toNat).1≠0 then 6 else if 120<allT T 12 then 7 else 0
theorem YrI{x:Int×Int}(h:badT x=false):(1<=x.2/\x.2<=24)/\ -2*x.2<=x.1/\x.1<=2*x.2:=by
 simp only[badT,Bool.or_eq_false_iff,decide_eq_false_iff_not]at h;omega
theorem Yhv{T:Tm}:∀{i:Nat},(∀j,j<i->badT (T.p j)=false)->1<=allT T i/\allT T i<=2880
 |0,_=>⟨Yzk _,by simp [allT]⟩
 |i+1,h=>by
   have ih:=Yhv (i:=i) fun j hj=>h j (by omega)
   have hb:=YrI (h i (by omega))
   rw[allT]
   split
   . rename_i hle
     have hg:1<=YzI (allT T i) (T.p i).2.toNat:=Nat.gcd_pos_of_pos_left _ (by omega)
     have h1:allT T i/YzI (allT T i) (T.p i).2.toNat<=120:=YzE (Nat.div_le_self _ _) hle
     have h2:1<=allT T i/YzI (allT T i) (T.p i).2.toNat:=Nat.div_pos (Nat.gcd_le_left _ (by omega)) hg
     have h3:(T.p i).2.toNat<=24:=by omega
     have h4:1<=(T.p i).2.toNat:=by omega
     have:=Nat.mul_le_mul h1 h3
     have:=Nat.mul_le_mul h2 h4
     omega
   . exact ih
theorem Ywe(x:Int×Int):(decide (x.2<1) || decide (24<x.2) || decide (x.1<IntKind.i64.wrap (-2*x.2)) || decide (IntKind.i64.wrap (2*x.2)<x.1))=badT x:=by
 unfold badT
 by_cases h1:x.2<1
 . rw[decide_eq_true h1];simp
 . by_cases h2:24<x.2
   . rw[decide_eq_true h2];simp
   . rw[Yzi (-2*x.2) (by omega),Yzi (2*x.2) (by omega)]
theorem YoI(T:Tm)(i:Nat):lowT T (i+1)=(lowT T i&&decide (gcdT (T.p i)=1)):=by
 unfold lowT;rw[List.range_succ,List.all_append];simp
theorem YrH{T:Tm}{i:Nat}(hi:i<12)(h:badT (T.p i)=true):badA T=true:=List.any_eq_true.2 ⟨i,List.mem_range.2 hi,h⟩
theorem Ywd{T:Tm}(h:∀i,i<12->badT (T.p i)=false):badA T=false:=List.any_eq_false.2 fun i hi=>by rw[h i (List.mem_range.1 hi)];decide
def tgcdC:Ctr:={ alias:=false,of:=fun l=>match l with
 | [.int .i64 a,.int .i64 b]=> .ex Nat fun x=> .ex Nat fun y=> .pre (a=x/\b=y/\x<=9223372036854775807/\y<=9223372036854775807) (.fin (.int .i64 (YzI x y)) [])
 |_=>noC}
def TG0:Env:={ ct:=fun _=>none,fn:=fun _=>none,meth:=fun _ _=>none}
theorem YvE:Yp Yzg TG0:=by
 refine⟨fun f c h=>?_,fun f vf h=>?_,(fun _ _ _ h=>by cases h),by kernel_rfl,(fun _ h=>by cases h)⟩
 . cases h
 . cases h
theorem Yye:tgcdC.ok Yzg 94:=by
 refine Yc Tryz.func94 YyZ YvE 100 tgcdC fun args k h=>?_
 simp only[tgcdC]at h
 split at h
 . rename_i a b
   obtain⟨x,y,⟨rfl,rfl,hx,hy⟩,h⟩:=h
   refine⟨[.int .i64 x,.int .i64 y],by simp [leL,le],?_⟩
   dsimp only[v94,go_sem,reduceIte,Yzb]
   simp only[Yd,Yzb,Yzd,reduceCtorEq,Yzc]
   refine Loop.keep [4] (Nat×Nat) (fun s=>[(0,.int .i64 s.1),(1,.int .i64 s.2)]) (fun _=>[]) [] (fun s=>YzI s.1 s.2=YzI x y/\s.1<=9223372036854775807/\s.2<=9223372036854775807) (fun s=>s.2) ?_ ?_
   . refine⟨(x,y),⟨rfl,hx,hy⟩,?_⟩
     dsimp only[go_sem,reduceIte,Yzb]
     simp only[Ya]
   . rintro⟨p,q⟩ ⟨he,hp,hq⟩
     dsimp only at he hp hq
     dsimp only[go_sem,reduceIte,Yzb]
     simp only[Yd,Yzb,Yzd,reduceCtorEq,Yzc]
     refine⟨fun hc=>⟨hc,(q,p%q),⟨?_,by simp only;omega,?_⟩,?_,?_⟩,fun hc=>Yt ?_⟩
     . rw[<-he,Nat.gcd_comm p q]
       show YzI q (p%q)=YzI q p
       rw[Nat.gcd_comm q (p%q),<-Nat.gcd_rec]
     . have:=YzH p (by omega:0<q)
       simp only;omega
     . exact YzH p (by omega:0<q)
     . have e:(p:Int).tmod q=((p%q:Nat):Int):=IntWalk.up_tmod rfl rfl
       rw[e]
       simp only[Ya]
     . obtain rfl:q=0:=by omega
       rw[Nat.gcd_zero_right]at he
       rw[he];exact h
 . exact h.1.elim
def chkTmC:Ctr:={ alias:=false,of:=fun l=>match l with
 | [.agg cs]=> .ex Tm fun T=> .pre (cs=encT T/\T.nm.size<=9223372036854775807) (.fin (.int .i64 (Yci T)) [])
 |_=>noC}
def TG1:Env:={ ct:=fun n=>match n with|94=>some tgcdC|95=>some nameC|_=>none,fn:=fun _=>none,meth:=fun _ _=>none}
theorem YeV:TG1.ct 94=some tgcdC:=rfl
theorem YeW:TG1.ct 95=some nameC:=rfl
theorem YvF:Yp Yzg TG1:=by
 refine⟨fun f c h=>?_,fun f vf h=>?_,(fun _ _ _ h=>by cases h),by kernel_rfl,(fun _ h=>by cases h)⟩
 . simp only[TG1]at h
   split at h
   . cases h;exact⟨Yye,Tryz.f94,Tryz.func94,by kernel_rfl,by kernel_rfl⟩
   . cases h;exact⟨YtA,Tryz.f95,Tryz.func95,by kernel_rfl,by kernel_rfl⟩
   . cases h
 . cases h
theorem YsO:chkTmC.ok Yzg 74:=by
 refine Yc Tryz.func74 YyP YvF 300 chkTmC fun args k h=>?_
 simp only[chkTmC]at h
 split at h
 . rename_i cs
   obtain⟨T,⟨rfl,hnm⟩,h⟩:=h
   refine⟨[.agg (encT T)],⟨Yf _ (YO T _),trivial⟩,?_⟩
   have h:k (.int .i64 (Yci T)) []:=h
   dsimp only[v74,encT,encP,YeV,YeW,tgcdC,nameC,go_sem,reduceIte,Yzb]
   simp only[Yd,Yzb,Yzd,reduceCtorEq,Yzc]
   refine⟨rfl,fun hb=>?_,fun hb=>?_⟩
   . rw[Yci,if_pos (by simpa using hb)]at h;exact Yt h
   have hw:0<=T.wolf/\T.wolf<=11:=by simp only[Bool.or_eq_false_iff,decide_eq_false_iff_not]at hb;omega
   rw[Yci,if_neg (by omega)]at h
   refine Loop.keep [1,0,13] Nat (fun i=>[(3,.bool (lowT T i)),(4,.int .i64 (allT T i:Nat)),(17,.int .i64 i)]) (fun _=>[]) [] (fun i=>i<=12/\∀j,j<i->badT (T.p j)=false) (fun i=>12-i) ?_ ?_
   . refine⟨0,⟨by omega,fun j hj=>by omega⟩,?_⟩
     dsimp only[go_sem,reduceIte,Yzb]
     simp only[Ya]
     exact⟨by decide,rfl,rfl,rfl⟩
   . rintro i ⟨hi,hall⟩
     obtain⟨r1,r2⟩:=Yhv hall
     dsimp only[YeV,YeW,tgcdC,nameC,Yzh,go_sem,reduceIte,Yzb]
     simp only[Yd,Yzb,Yzd,reduceCtorEq,Yzc]
     refine⟨fun hlt=>?_,fun hge=>?_⟩
     . have hi12:i<12:=by omega
       have e:=YhT T.p hi12
       simp only[encP]at e
       rw[e]
       dsimp only[YeV,YeW,tgcdC,nameC,Yzh,go_sem,reduceIte,Yzb]
       simp only[Yd,Yzb,Yzd,reduceCtorEq,Yzc]
       simp only[Ywe (T.p i)]
       refine⟨⟨by omega,by omega⟩,fun hb=>?_,fun hb=>?_⟩
       . rw[if_pos (YrH hi12 hb)]at h;exact Yt h
       . obtain⟨⟨x1,x2⟩,x3,x4⟩:=YrI hb
         have hsn:(T.p i).2=((T.p i).2.toNat:Int):=by omega
         have hall':∀j,j<i+1->badT (T.p j)=false:=fun j hj=>by
           rcases Yzx j i with h1|h1
           . exact hall j h1
           . obtain rfl:j=i:=by omega
             exact hb
         have hlow:(lowT T i&&decide ((((T.p i).1.natAbs).gcd (T.p i).2.toNat:Int)=1))=lowT T (i+1):=by
           rw[YoI];congr 1
           exact decide_eq_decide.2 (by unfold gcdT;omega)
         refine⟨(T.p i).1.natAbs,(T.p i).2.toNat,fun _=>⟨YgH _ (by omega),hsn,by omega,by omega⟩,fun hle=>⟨allT T i,(T.p i).2.toNat,⟨rfl,hsn,by omega,by omega⟩,?_,i+1,⟨by omega,hall'⟩,by omega,?_⟩,fun hgt=>⟨i+1,⟨by omega,hall'⟩,by omega,?_⟩⟩
         . have:=Nat.gcd_pos_of_pos_left (T.p i).2.toNat (by omega:0<allT T i)
           omega
         . have r3:=Yhv hall'
           have ha:allT T (i+1)=allT T i/YzI (allT T i) (T.p i).2.toNat*(T.p i).2.toNat:=by rw[allT,if_pos (by omega)]
           have e1:((allT T i:Nat):Int).tdiv ((YzI (allT T i) (T.p i).2.toNat:Nat):Int)=((allT T i/YzI (allT T i) (T.p i).2.toNat:Nat):Int):=IntWalk.up_tdiv rfl rfl
           have hd:=Nat.div_le_self (allT T i) (YzI (allT T i) (T.p i).2.toNat)
           have e2:IntKind.i64.wrap ((allT T i/YzI (allT T i) (T.p i).2.toNat:Nat):Int)=((allT T i/YzI (allT T i) (T.p i).2.toNat:Nat):Int):=by
             generalize allT T i/YzI (allT T i) (T.p i).2.toNat=q at hd
             exact Yzi _ (by omega)
           have e3:((allT T i/YzI (allT T i) (T.p i).2.toNat:Nat):Int)*(T.p i).2=(allT T (i+1):Nat):=by rw[ha,Int.natCast_mul,<-hsn]
           rw[e1,e2,e3,Yzi (allT T (i+1):Int) (by omega),Yzi ((i:Int)+1) (by omega)]
           simp only[Ya]
           exact⟨by decide,hlow,by simp⟩
         . have ha:allT T (i+1)=allT T i:=by rw[allT,if_neg (by omega)]
           rw[ha,Yzi ((i:Int)+1) (by omega)]
           simp only[Ya]
           exact⟨by decide,hlow,by simp⟩
     . obtain rfl:i=12:=by omega
       rw[if_neg (by rw[Ywd hall];decide)]at h
       obtain⟨w,hwe⟩:∃w:Nat,T.wolf=(w:Int):=⟨T.wolf.toNat,by omega⟩
       have hw12:w<12:=by omega
       have e:=YqI T hw12
       have el:=YqJ T hw12
       simp only[encT,encP,hwe]at e el
       rw[hwe,Yzh]at h
       simp only[Nat.add_zero,hwe]
       rw[e]
       dsimp only[YeV,YeW,tgcdC,nameC,Yzh,go_sem,reduceIte,Yzb]
       simp only[Yd,Yzb,Yzd,reduceCtorEq,Yzc]
       refine⟨hnm,fun _=>⟨by omega,by omega⟩,fun _=>el,fun hc=>?_,fun hc=>?_⟩
       . rw[if_pos (by simpa [or_assoc]using hc)]at h;exact Yt h
       . rw[if_neg (by simpa [or_assoc,and_assoc]using hc)]at h
         refine⟨fun ha=>?_,fun ha=>?_⟩
         . rw[if_pos (by omega)]at h;exact Yt h
         . rw[if_neg (by omega)]at h;exact Yt h
 . exact h.1.elim
def v97:VF:=⟨58,[.cell 2 true 84],(ZR [u1 2 (.allocArr 12 7 [(.int .i64 0),(.int .i64 0),(.int .i64 0),(.int .i64 0),(.int .i64 0),(.int .i64 0),(.int .i64 0),(.int .i64 0),(.int .i64 0),(.int .i64 0),(.int .i64 0),(.int .i64 0),(.int .i64 0),(.int .i64 0),(.int .i64 0),(.int .i64 0),(.int .i64 0),(.int .i64 0),(.int .i64 0),(.int .i64 0),(.int .i64 0),(.int .i64 0),(.int .i64 0),(.int .i64 0),(.int .i64 0),(.int .i64 0),(.int .i64 0),(.int .i64 0),(.int .i64 0),(.int .i64 0),(.int .i64 0),(.int .i64 0),(.int .i64 0),(.int .i64 0),(.int .i64 0),(.int .i64 0),(.int .i64 0),(.int .i64 0),(.int .i64 0),(.int .i64 0),(.int .i64 0),(.int .i64 0),(.int .i64 0),(.int .i64 0),(.int .i64 0),(.int .i64 0),(.int .i64 0),(.int .i64 0),(.int .i64 0),(.int .i64 0),(.int .i64 0),(.int .i64 0),(.int .i64 0),(.int .i64 0),(.int .i64 0),(.int .i64 0),(.int .i64 0),(.int .i64 0),(.int .i64 0),(.int .i64 0),(.int .i64 0),(.int .i64 0),(.int .i64 0),(.int .i64 0),(.int .i64 0),(.int .i64 0),(.int .i64 0),(.int .i64 0),(.int .i64 0),(.int .i64 0),(.int .i64 0),(.int .i64 0),(.int .i64 0),(.int .i64 0),(.int .i64 0),(.int .i64 0),(.int .i64 0),(.int .i64 0),(.int .i64 0),(.int .i64 0),(.int .i64 0),(.int .i64 0),(.int .i64 0),(.int .i64 0)]) []] (ZR [u1 10 (.call 96) [.cn (.int .i64 531441),.cn (.int .i64 524288)],u1 3 (.alloc [(.int .i64 0),(.int .i64 0),(.int .i64 0),(.int .i64 0),(.int .i64 0),(.int .i64 0),(.int .i64 0)]) [],Zs 7 3 10] (.seq (ZR [Zm 11 0,u1 12 .nilCheck [.tm 11],Za 13 1 12,Zf 14 1 13] (ZC 14 (.region [u1 15 (.call 96) [.cn (.int .i64 81),.cn (.int .i64 80)],Zs 7 3 15]) .skip)) (ZR [u1 4 (.allocArr 12 7 [(.int .i64 0),(.int .i64 0),(.int .i64 0),(.int .i64 0),(.int .i64 0),(.int .i64 0),(.int .i64 0),(.int .i64 0),(.int .i64 0),(.int .i64 0),(.int .i64 0),(.int .i64 0),(.int .i64 0),(.int .i64 0),(.int .i64 0),(.int .i64 0),(.int .i64 0),(.int .i64 0),(.int .i64 0),(.int .i64 0),(.int .i64 0),(.int .i64 0),(.int .i64 0),(.int .i64 0),(.int .i64 0),(.int .i64 0),(.int .i64 0),(.int .i64 0),(.int .i64 0),(.int .i64 0),(.int .i64 0),(.int .i64 0),(.int .i64 0),(.int .i64 0),(.int .i64 0),(.int .i64 0),(.int .i64 0),(.int .i64 0),(.int .i64 0),(.int .i64 0),(.int .i64 0),(.int .i64 0),(.int .i64 0),(.int .i64 0),(.int .i64 0),(.int .i64 0),(.int .i64 0),(.int .i64 0),(.int .i64 0),(.int .i64 0),(.int .i64 0),(.int .i64 0),(.int .i64 0),(.int .i64 0),(.int .i64 0),(.int .i64 0),(.int .i64 0),(.int .i64 0),(.int .i64 0),(.int .i64 0),(.int .i64 0),(.int .i64 0),(.int .i64 0),(.int .i64 0),(.int .i64 0),(.int .i64 0),(.int .i64 0),(.int .i64 0),(.int .i64 0),(.int .i64 0),(.int .i64 0),(.int .i64 0),(.int .i64 0),(.int .i64 0),(.int .i64 0),(.int .i64 0),(.int .i64 0),(.int .i64 0),(.int .i64 0),(.int .i64 0),(.int .i64 0),(.int .i64 0),(.int .i64 0),(.int .i64 0)]) []] (ZR [u1 16 (.call 96) [.cn (.int .i64 128),.cn (.int .i64 1)],u1 5 (.alloc [(.int .i64 0),(.int .i64 0),(.int .i64 0),(.int .i64 0),(.int .i64 0),(.int .i64 0),(.int .i64 0)]) [],Zs 7 5 16] (.seq (ZR [Zm 17 0,u1 18 .nilCheck [.tm 17],Za 19 3 18,Zt 20 24 19,Zi 21 0] (.block 0 (.loop (ZR [Zq 22 .lss 21 12] (.seq (ZC 22 .skip (.exit 0)) (.seq (.block 1 (ZR [Zm 23 21,u1 24 (.index true 12 2) [.tm 20,.tm 21],Zn 7,Zm 6 23,Zs 2 7 24] (ZR [Zm 25 6,Zm 26 0,u1 27 .nilCheck [.tm 26],Za 28 2 27,Zf 29 1 28,Zr 30 .neq 25 29] (ZC 30 (ZR [Zt 32 7 3,Za 33 0 7,Zf 34 1 33,Za 35 1 7,Zf 36 1 35,u1 37 (.call 121) [.tm 32,.tm 34,.tm 36],Zm 31 37,Ze 38 0 31,Ze 39 1 31,u1 8 (.alloc [(.int .i64 0),(.int .i64 0),(.int .i64 0),(.int .i64 0),(.int .i64 0),(.int .i64 0),(.int .i64 0)]) [],Zs 7 8 38,Zm 9 39] (.seq (.draw [] [Zu 40 6,Zw 42 7 8,w1 41 (.call 96) [.cn (.int .i64 3),.cn (.int .i64 2)],Zz 43 122 41 42,w1 44 (.idxArr 12 7) [.tm 4,.tm 40],ZS 7 44 43]) (.draw [] [Zw 45 7 5,Zu 46 6,w1 47 (.idxArr 12 7) [.tm 4,.tm 46],Zw 48 7 47,Zz 49 122 45 48,ZS 7 5 49]))) .skip)))) (.region [Zp 50 21 1,Zm 21 50]))))))) (.seq (.draw [] [Zu 51 0,w1 52 .nilCheck [.tm 51],Zy 53 2 52,Zv 54 1 53,Zw 55 7 5,w1 56 (.idxArr 12 7) [.tm 4,.tm 54],ZS 7 56 55]) (ZR [Zt 57 84 4,Zs 84 2 57] .ret))))))))⟩
theorem Yy2:Yh Yzg Tryz.f97=some v97:=by kernel_rfl
def v75:VF:=⟨25,[.cell 2 true 84],(ZR [u1 2 (.allocArr 12 7 [(.int .i64 0),(.int .i64 0),(.int .i64 0),(.int .i64 0),(.int .i64 0),(.int .i64 0),(.int .i64 0),(.int .i64 0),(.int .i64 0),(.int .i64 0),(.int .i64 0),(.int .i64 0),(.int .i64 0),(.int .i64 0),(.int .i64 0),(.int .i64 0),(.int .i64 0),(.int .i64 0),(.int .i64 0),(.int .i64 0),(.int .i64 0),(.int .i64 0),(.int .i64 0),(.int .i64 0),(.int .i64 0),(.int .i64 0),(.int .i64 0),(.int .i64 0),(.int .i64 0),(.int .i64 0),(.int .i64 0),(.int .i64 0),(.int .i64 0),(.int .i64 0),(.int .i64 0),(.int .i64 0),(.int .i64 0),(.int .i64 0),(.int .i64 0),(.int .i64 0),(.int .i64 0),(.int .i64 0),(.int .i64 0),(.int .i64 0),(.int .i64 0),(.int .i64 0),(.int .i64 0),(.int .i64 0),(.int .i64 0),(.int .i64 0),(.int .i64 0),(.int .i64 0),(.int .i64 0),(.int .i64 0),(.int .i64 0),(.int .i64 0),(.int .i64 0),(.int .i64 0),(.int .i64 0),(.int .i64 0),(.int .i64 0),(.int .i64 0),(.int .i64 0),(.int .i64 0),(.int .i64 0),(.int .i64 0),(.int .i64 0),(.int .i64 0),(.int .i64 0),(.int .i64 0),(.int .i64 0),(.int .i64 0),(.int .i64 0),(.int .i64 0),(.int .i64 0),(.int .i64 0),(.int .i64 0),(.int .i64 0),(.int .i64 0),(.int .i64 0),(.int .i64 0),(.int .i64 0),(.int .i64 0),(.int .i64 0)]) []] (ZR [u1 3 (.allocArr 12 7 [(.int .i64 0),(.int .i64 0),(.int .i64 0),(.int .i64 0),(.int .i64 0),(.int .i64 0),(.int .i64 0),(.int .i64 0),(.int .i64 0),(.int .i64 0),(.int .i64 0),(.int .i64 0),(.int .i64 0),(.int .i64 0),(.int .i64 0),(.int .i64 0),(.int .i64 0),(.int .i64 0),(.int .i64 0),(.int .i64 0),(.int .i64 0),(.int .i64 0),(.int .i64 0),(.int .i64 0),(.int .i64 0),(.int .i64 0),(.int .i64 0),(.int .i64 0),(.int .i64 0),(.int .i64 0),(.int .i64 0),(.int .i64 0),(.int .i64 0),(.int .i64 0),(.int .i64 0),(.int .i64 0),(.int .i64 0),(.int .i64 0),(.int .i64 0),(.int .i64 0),(.int .i64 0),(.int .i64 0),(.int .i64 0),(.int .i64 0),(.int .i64 0),(.int .i64 0),(.int .i64 0),(.int .i64 0),(.int .i64 0),(.int .i64 0),(.int .i64 0),(.int .i64 0),(.int .i64 0),(.int .i64 0),(.int .i64 0),(.int .i64 0),(.int .i64 0),(.int .i64 0),(.int .i64 0),(.int .i64 0),(.int .i64 0),(.int .i64 0),(.int .i64 0),(.int .i64 0),(.int .i64 0),(.int .i64 0),(.int .i64 0),(.int .i64 0),(.int .i64 0),(.int .i64 0),(.int .i64 0),(.int .i64 0),(.int .i64 0),(.int .i64 0),(.int .i64 0),(.int .i64 0),(.int .i64 0),(.int .i64 0),(.int .i64 0),(.int .i64 0),(.int .i64 0),(.int .i64 0),(.int .i64 0),(.int .i64 0)]) []] (ZR [u1 7 (.call 96) [.cn (.int .i64 1),.cn (.int .i64 1)],u1 4 (.alloc [(.int .i64 0),(.int .i64 0),(.int .i64 0),(.int .i64 0),(.int .i64 0),(.int .i64 0),(.int .i64 0)]) [],Zs 7 4 7] (.seq (ZR [Zm 8 0,Zc 9 97 8,Zi 10 0] (.block 0 (.loop (ZR [Zq 11 .lss 10 12] (.seq (ZC 11 .skip (.exit 0)) (.seq (.block 1 (ZR [Zm 12 10,u1 13 (.index true 12 7) [.tm 9,.tm 10],u1 6 (.alloc [(.int .i64 0),(.int .i64 0),(.int .i64 0),(.int .i64 0),(.int .i64 0),(.int .i64 0),(.int .i64 0)]) [],Zm 5 12,Zs 7 6 13] (ZR [Zm 14 5,u1 15 (.ari .mul) [.cn (.int .i64 7),.tm 14],u1 16 .rem [.tm 15,.cn (.int .i64 12)],Zt 17 7 4,Zc 18 98 17,u1 19 (.idxArr 12 7) [.tm 3,.tm 16],Zs 7 19 18] (.region [Zt 20 7 4,Zt 21 7 6,Zd 22 99 20 21,Zs 7 4 22])))) (.region [Zp 23 10 1,Zm 10 23]))))))) (ZR [Zt 24 84 3,Zs 84 2 24] .ret)))))⟩
theorem YyQ:Yh Yzg Tryz.f75=some v75:=by kernel_rfl
def v47:VF:=⟨13,[.tmp 2,.tmp 3],(ZR [u1 1 .box [.tm 0],u1 2 .mov [.cn .nil],Zi 3 0] (.seq (ZR [Zt 6 27 1,Zc 7 74 6,Zm 4 7] (ZR [Zm 8 4,Zq 9 .neq 8 0] (ZC 9 (ZR [Zm 10 4,u1 2 .mov [.cn .nil],Zm 3 10] .ret) .skip))) (ZR [Zc 11 75 1,u1 5 (.allocArr 12 7 [(.int .i64 0),(.int .i64 0),(.int .i64 0),(.int .i64 0),(.int .i64 0),(.int .i64 0),(.int .i64 0),(.int .i64 0),(.int .i64 0),(.int .i64 0),(.int .i64 0),(.int .i64 0),(.int .i64 0),(.int .i64 0),(.int .i64 0),(.int .i64 0),(.int .i64 0),(.int .i64 0),(.int .i64 0),(.int .i64 0),(.int .i64 0),(.int .i64 0),(.int .i64 0),(.int .i64 0),(.int .i64 0),(.int .i64 0),(.int .i64 0),(.int .i64 0),(.int .i64 0),(.int .i64 0),(.int .i64 0),(.int .i64 0),(.int .i64 0),(.int .i64 0),(.int .i64 0),(.int .i64 0),(.int .i64 0),(.int .i64 0),(.int .i64 0),(.int .i64 0),(.int .i64 0),(.int .i64 0),(.int .i64 0),(.int .i64 0),(.int .i64 0),(.int .i64 0),(.int .i64 0),(.int .i64 0),(.int .i64 0),(.int .i64 0),(.int .i64 0),(.int .i64 0),(.int .i64 0),(.int .i64 0),(.int .i64 0),(.int .i64 0),(.int .i64 0),(.int .i64 0),(.int .i64 0),(.int .i64 0),(.int .i64 0),(.int .i64 0),(.int .i64 0),(.int .i64 0),(.int .i64 0),(.int .i64 0),(.int .i64 0),(.int .i64 0),(.int .i64 0),(.int .i64 0),(.int .i64 0),(.int .i64 0),(.int .i64 0),(.int .i64 0),(.int .i64 0),(.int .i64 0),(.int .i64 0),(.int .i64 0),(.int .i64 0),(.int .i64 0),(.int .i64 0),(.int .i64 0),(.int .i64 0),(.int .i64 0)]) [],Zs 84 5 11] (ZR [u1 12 (.sliceArr 12 7 false false) [.tm 5],Zm 2 12,Zi 3 0] .ret))))⟩
theorem YyC:Yh Yzg Tryz.f47=some v47:=by kernel_rfl
def Ycr(L:Nat->Rt):List SV:=encR (L 0)++(encR (L 1)++(encR (L 2)++(encR (L 3)++(encR (L 4)++(encR (L 5)++(encR (L 6)++(encR (L 7)++(encR (L 8)++(encR (L 9)++(encR (L 10)++(encR (L 11)++[])))))))))))
theorem Yxq{get:Nat->List SV}:Yed 12 0 get=get 0++(get 1++(get 2++(get 3++(get 4++(get 5++(get 6++(get 7++(get 8++(get 9++(get 10++(get 11++[]))))))))))):=rfl
attribute [go_sem] Yxq
theorem Yja(L:Nat->Rt){i:Nat}(h:i<12):Yu 7 (Yq (i*7) (Ycr L))=encR (L i):=by
 rcases YgT h with rfl|rfl|rfl|rfl|rfl|rfl|rfl|rfl|rfl|rfl|rfl|rfl <;> rfl
theorem YpE{k:Nat}(h:k<12):YaJ 7 [SV.int .i64 0,SV.int .i64 0,SV.int .i64 0,SV.int .i64 0,SV.int .i64 0,SV.int .i64 0,SV.int .i64 0,SV.int .i64 0,SV.int .i64 0,SV.int .i64 0,SV.int .i64 0,SV.int .i64 0,SV.int .i64 0,SV.int .i64 0,SV.int .i64 0,SV.int .i64 0,SV.int .i64 0,SV.int .i64 0,SV.int .i64 0,SV.int .i64 0,SV.int .i64 0,SV.int .i64 0,SV.int .i64 0,SV.int .i64 0,SV.int .i64 0,SV.int .i64 0,SV.int .i64 0,SV.int .i64 0,SV.int .i64 0,SV.int .i64 0,SV.int .i64 0,SV.int .i64 0,SV.int .i64 0,SV.int .i64 0,SV.int .i64 0,SV.int .i64 0,SV.int .i64 0,SV.int .i64 0,SV.int .i64 0,SV.int .i64 0,SV.int .i64 0,SV.int .i64 0,SV.int .i64 0,SV.int .i64 0,SV.int .i64 0,SV.int .i64 0,SV.int .i64 0,SV.int .i64 0,SV.int .i64 0,SV.int .i64 0,SV.int .i64 0,SV.int .i64 0,SV.int .i64 0,SV.int .i64 0,SV.int .i64 0,SV.int .i64 0,SV.int .i64 0,SV.int .i64 0,SV.int .i64 0,SV.int .i64 0,SV.int .i64 0,SV.int .i64 0,SV.int .i64 0,SV.int .i64 0,SV.int .i64 0,SV.int .i64 0,SV.int .i64 0,SV.int .i64 0,SV.int .i64 0,SV.int .i64 0,SV.int .i64 0,SV.int .i64 0,SV.int .i64 0,SV.int .i64 0,SV.int .i64 0,SV.int .i64 0,SV.int .i64 0,SV.int .i64 0,SV.int .i64 0,SV.int .i64 0,SV.int .i64 0,SV.int .i64 0,SV.int .i64 0,SV.int .i64 0] k=encR Yav:=by
 rcases YgT h with rfl|rfl|rfl|rfl|rfl|rfl|rfl|rfl|rfl|rfl|rfl|rfl <;> rfl
theorem Ya0{a b:Nat}(r:Rt):leL a b (encR r) (encR r):=Yf _ ⟨trivial,trivial,trivial,trivial,trivial,trivial,trivial,trivial⟩
theorem YaP(x:Rt):Rt.mk x.a x.b x.c x.d x.e x.f x.n=x:=rfl
def Yn0(T:Tm):Rt:=if T.syn=true then(ofRF 81 80).1 else(ofRF 531441 524288).1
def fifR(T:Tm)(i:Nat):Rt:=(Ybr (ofRF 3 2).1 (pwrF (Yn0 T) (T.p i).1 (T.p i).2).1 (-1)).1
def Ya5(T:Tm):Nat->Rt
 |0=>(ofRF 128 1).1
 |i+1=>if(i:Int)=T.wolf then Ya5 T i else(Ybr (Ya5 T i) (fifR T i) (-1)).1
def fifL(T:Tm)(i k:Nat):Rt:=if k<i then(if(k:Int)=T.wolf then Yav else fifR T k)else Yav
def Yct(T:Tm)(k:Nat):Rt:=if k=T.wolf.toNat then Ya5 T 12 else fifL T 12 k
theorem Yoa(T:Tm)(j:Nat):(if j=T.wolf.toNat then [SV.int .i64 (Ya5 T 12).a,SV.int .i64 (Ya5 T 12).b,SV.int .i64 (Ya5 T 12).c,SV.int .i64 (Ya5 T 12).d,SV.int .i64 (Ya5 T 12).e,SV.int .i64 (Ya5 T 12).f,SV.int .i64 (Ya5 T 12).n]else [SV.int .i64 (fifL T 12 j).a,SV.int .i64 (fifL T 12 j).b,SV.int .i64 (fifL T 12 j).c,SV.int .i64 (fifL T 12 j).d,SV.int .i64 (fifL T 12 j).e,SV.int .i64 (fifL T 12 j).f,SV.int .i64 (fifL T 12 j).n])=encR (Yct T j):=by
 unfold Yct;split <;> rfl
theorem YrQ(T:Tm)(k:Nat):fifL T 0 k=Yav:=if_neg (Nat.not_lt_zero _)
theorem Yi9(L:Nat->Rt)(m:Nat):bndL m (Ycr L):=by simp [Ycr,encR,bndL,bnd]
theorem Ynv{k:SV->List HO->Prop}{al:Bool}{hp:List HO}{L:Nat->Rt}(h:k (.agg (Ycr L)) []):YH al k (.agg (Ycr L)) hp:=
 YD (show k _ []from h) (YQ (.agg (Ycr L)) (Yi9 L _)) (fun _=>by simp [Yl,Ym,Ycr,encR])
theorem Yn9{T:Tm}{i:Nat}(h:¬(i:Int)=T.wolf):fifL T (i+1) i=fifR T i:=by
 unfold fifL;rw[if_pos (by omega),if_neg h]
theorem Ykg{T:Tm}{i k:Nat}(h:¬k=i):fifL T (i+1) k=fifL T i k:=by
 unfold fifL
 by_cases h1:k<i
 . rw[if_pos h1,if_pos (by omega)]
 . rw[if_neg h1,if_neg (by omega)]
theorem YrP{T:Tm}{i k:Nat}(h:(i:Int)=T.wolf):fifL T (i+1) k=fifL T i k:=by
 by_cases hk:k=i
 . subst hk;unfold fifL;rw[if_pos (by omega),if_pos h,if_neg (by omega)]
 . exact Ykg hk
def fifC:Ctr:={ alias:=false,of:=fun l=>match l with
 | [.xp _ cs]=> .ex Tm fun T=> .pre (cs=encT T/\Yci T=0) (.fin (.agg (Ycr (Yct T))) [])
 |_=>noC}
theorem YsN{T:Tm}(h:Yci T=0):(0<=T.wolf/\T.wolf<=11)/\(∀i,i<12->badT (T.p i)=false):=by
 unfold Yci at h
 split at h
 . cases h
 . split at h
   . cases h
   . rename_i h1 h2
     refine⟨by omega,fun i hi=>?_⟩
     cases hb:badT (T.p i)with
     |false=>rfl
     |true=>exact absurd (YrH hi hb) h2
def mc1:Ctr:=m2C 1
def mcm:Ctr:=m2C (-1)
def TH0:Env:={ ct:=fun n=>match n with|96=>some wholeC|122=>some mcm|99=>some mc1|121=>some powRC|98=>some folC|_=>none,fn:=fun _=>none,meth:=fun _ _=>none}
theorem YbV:TH0.ct 96=some wholeC:=rfl
theorem Ybb:TH0.ct 122=some mcm:=rfl
theorem YbX:TH0.ct 99=some mc1:=rfl
theorem Yba:TH0.ct 121=some powRC:=rfl
theorem YbW:TH0.ct 98=some folC:=rfl
theorem YvG:Yp Yzg TH0:=by
 refine⟨fun f c h=>?_,fun f vf h=>?_,(fun _ _ _ h=>by cases h),by kernel_rfl,(fun _ h=>by cases h)⟩
 . simp only[TH0]at h
   split at h
   . cases h;exact⟨Ypz,Tryz.f96,Tryz.func96,by kernel_rfl,by kernel_rfl⟩
   . cases h;exact⟨ovr_c,Tryz.f122,Tryz.func122,by kernel_rfl,by kernel_rfl⟩
   . cases h;exact⟨Yyg,Tryz.f99,Tryz.func99,by kernel_rfl,by kernel_rfl⟩
   . cases h;exact⟨pow_c,Tryz.f121,Tryz.func121,by kernel_rfl,by kernel_rfl⟩
   . cases h;exact⟨Ywu,Tryz.f98,Tryz.func98,by kernel_rfl,by kernel_rfl⟩
   . cases h
 . cases h
theorem fif_c:fifC.ok Yzg 97:=by
 refine Yc Tryz.func97 Yy2 YvG 300 fifC fun args k h=>?_
 simp only[fifC]at h
 split at h
 . rename_i tt cs
   obtain⟨T,⟨rfl,hT⟩,h⟩:=h
   refine⟨[.xp tt (encT T)],by simp only[Ya],?_⟩
   obtain⟨hw,hp⟩:=YsN hT
   dsimp only[v97,encT,encP,encR,YaP,YbV,Ybb,YbX,Yba,YbW,wholeC,mc1,mcm,m2C,powRC,folC,go_sem,reduceIte,Yzb]
   simp only[Yd,Yzb,Yzd,reduceCtorEq,Yzc]
   refine⟨fun hs=>?_,fun hs=>?_⟩
   . have hC:Yn0 T=(ofRF 81 80).1:=if_pos hs
     obtain⟨C,hCe⟩:∃C,C=(ofRF 81 80).1:=⟨_,rfl⟩
     rw[<-hCe]at hC⊢
     clear hCe hs
     refine Loop.keep [0,1,0,0,0,14] Nat (fun i=>[(21,.int .i64 i)]) (fun i=>[(2,.own false 7 12 (fun k=>encR (fifL T i k))),(3,.box (encR (Ya5 T i)))]) [] (fun i=>i<=12) (fun i=>12-i) ?_ ?_
     . refine⟨0,by omega,?_⟩
       dsimp only[encR,go_sem,reduceIte,Yzb]
       simp only[Ya]
       refine⟨⟨by decide,by decide,by decide,by decide,rfl⟩,fun k hk=>?_,rfl,rfl,rfl,rfl,rfl,rfl,rfl⟩
       rw[YpE hk,YrQ]
       exact Ya0 Yav
     . rintro i hi
       dsimp only[YaP,YbV,Ybb,YbX,Yba,YbW,wholeC,mc1,mcm,m2C,powRC,folC,encR,Yzh,go_sem,reduceIte,Yzb]
       simp only[Yd,Yzb,Yzd,reduceCtorEq,Yzc]
       refine⟨fun hlt=>?_,fun hge=>?_⟩
       . have hi12:i<12:=by omega
         have e:=YhT T.p hi12
         simp only[encP]at e
         rw[e]
         dsimp only[YaP,YbV,Ybb,YbX,Yba,YbW,wholeC,mc1,mcm,m2C,powRC,folC,encR,Yzh,go_sem,reduceIte,Yzb]
         simp only[Yd,Yzb,Yzd,reduceCtorEq,Yzc]
         have hF:(Ybr (ofRF 3 2).1 (pwrF C (T.p i).1 (T.p i).2).1 (-1)).1=fifR T i:=by rw[fifR,hC]
         simp only[if_true,YaP,hF]
         dsimp only[YaP,YbV,Ybb,YbX,Yba,YbW,wholeC,mc1,mcm,m2C,powRC,folC,encR,Yzh,go_sem,reduceIte,Yzb]
         simp only[Yd,Yzb,Yzd,reduceCtorEq,Yzc]
         refine⟨⟨by omega,by omega⟩,fun hne=>⟨by decide,by decide,⟨by omega,by omega⟩,hi12,⟨by omega,by omega⟩,hi12,i+1,by omega,by omega,?_⟩,fun heq=>⟨i+1,by omega,by omega,?_⟩⟩
         . have hR:Ya5 T (i+1)=(Ybr (Ya5 T i) (fifR T i) (-1)).1:=by rw[Ya5,if_neg hne]
           rw[hR,Yzi ((i:Int)+1) (by omega)]
           simp only[Ya]
           refine⟨⟨by decide,by decide,by decide,by decide,by simp⟩,fun k hk=>?_⟩
           split
           . rename_i hki
             subst hki
             rw[Yn9 hne]
             exact Ya0 _
           . rename_i hki
             rw[Ykg hki]
             exact Ya0 _
         . have hR:Ya5 T (i+1)=Ya5 T i:=by rw[Ya5,if_pos heq]
           rw[hR,Yzi ((i:Int)+1) (by omega)]
           simp only[Ya]
           refine⟨⟨by decide,by decide,by decide,by decide,by simp⟩,fun k hk=>?_⟩
           rw[YrP heq]
           exact⟨rfl,rfl,rfl,rfl,rfl,rfl,rfl⟩
       . obtain rfl:i=12:=by omega
         simp only[Yoa]
         dsimp only[encR,go_sem,reduceIte,Yzb]
         simp only[Yd,Yzb,Yzd,reduceCtorEq,Yzc]
         exact⟨⟨by omega,by omega⟩,by omega,by decide,Ynv (L:=Yct T) h⟩
   . have hC:Yn0 T=(ofRF 531441 524288).1:=if_neg (by rw[hs];decide)
     obtain⟨C,hCe⟩:∃C,C=(ofRF 531441 524288).1:=⟨_,rfl⟩
     rw[<-hCe]at hC⊢
     clear hCe hs
     refine Loop.keep [0,1,0,0,0,14] Nat (fun i=>[(21,.int .i64 i)]) (fun i=>[(2,.own false 7 12 (fun k=>encR (fifL T i k))),(3,.box (encR (Ya5 T i)))]) [] (fun i=>i<=12) (fun i=>12-i) ?_ ?_
     . refine⟨0,by omega,?_⟩
       dsimp only[encR,go_sem,reduceIte,Yzb]
       simp only[Ya]
       refine⟨⟨by decide,by decide,by decide,by decide,rfl⟩,fun k hk=>?_,rfl,rfl,rfl,rfl,rfl,rfl,rfl⟩
       rw[YpE hk,YrQ]
       exact Ya0 Yav
     . rintro i hi
       dsimp only[YaP,YbV,Ybb,YbX,Yba,YbW,wholeC,mc1,mcm,m2C,powRC,folC,encR,Yzh,go_sem,reduceIte,Yzb]
       simp only[Yd,Yzb,Yzd,reduceCtorEq,Yzc]
       refine⟨fun hlt=>?_,fun hge=>?_⟩
       . have hi12:i<12:=by omega
         have e:=YhT T.p hi12
         simp only[encP]at e
         rw[e]
         dsimp only[YaP,YbV,Ybb,YbX,Yba,YbW,wholeC,mc1,mcm,m2C,powRC,folC,encR,Yzh,go_sem,reduceIte,Yzb]
         simp only[Yd,Yzb,Yzd,reduceCtorEq,Yzc]
         have hF:(Ybr (ofRF 3 2).1 (pwrF C (T.p i).1 (T.p i).2).1 (-1)).1=fifR T i:=by rw[fifR,hC]
         simp only[if_true,YaP,hF]
         dsimp only[YaP,YbV,Ybb,YbX,Yba,YbW,wholeC,mc1,mcm,m2C,powRC,folC,encR,Yzh,go_sem,reduceIte,Yzb]
         simp only[Yd,Yzb,Yzd,reduceCtorEq,Yzc]
         refine⟨⟨by omega,by omega⟩,fun hne=>⟨by decide,by decide,⟨by omega,by omega⟩,hi12,⟨by omega,by omega⟩,hi12,i+1,by omega,by omega,?_⟩,fun heq=>⟨i+1,by omega,by omega,?_⟩⟩
         . have hR:Ya5 T (i+1)=(Ybr (Ya5 T i) (fifR T i) (-1)).1:=by rw[Ya5,if_neg hne]
           rw[hR,Yzi ((i:Int)+1) (by omega)]
           simp only[Ya]
           refine⟨⟨by decide,by decide,by decide,by decide,by simp⟩,fun k hk=>?_⟩
           split
           . rename_i hki
             subst hki
             rw[Yn9 hne]
             exact Ya0 _
           . rename_i hki
             rw[Ykg hki]
             exact Ya0 _
         . have hR:Ya5 T (i+1)=Ya5 T i:=by rw[Ya5,if_pos heq]
           rw[hR,Yzi ((i:Int)+1) (by omega)]
           simp only[Ya]
           refine⟨⟨by decide,by decide,by decide,by decide,by simp⟩,fun k hk=>?_⟩
           rw[YrP heq]
           exact⟨rfl,rfl,rfl,rfl,rfl,rfl,rfl⟩
       . obtain rfl:i=12:=by omega
         simp only[Yoa]
         dsimp only[encR,go_sem,reduceIte,Yzb]
         simp only[Yd,Yzb,Yzd,reduceCtorEq,Yzc]
         exact⟨⟨by omega,by omega⟩,by omega,by decide,Ynv (L:=Yct T) h⟩
 . exact h.1.elim
theorem Ypf(n:Nat)(L:Nat->Rt):Ybo n (Ycr L)=Ycr L:=rfl
theorem Yoq{a b:Nat}(L:Nat->Rt):leL a b (Ycr L) (Ycr L):=Yf _ (Yi9 L _)
def Yul(L:Nat->Rt)(i:Nat)(r:Rt):Nat->Rt:=fun k=>if k=i then r else L k
def notL(T:Tm):Nat->(Nat->Rt)×Rt
 |0=>(fun _=>Yav,(ofRF 1 1).1)
 |i+1=>(Yul (notL T i).1 (7*i%12) (YeN (notL T i).2).1,(Ybr (notL T i).2 (Yct T i) 1).1)
def Yz(T:Tm):Nat->Rt:=(notL T 12).1
def notC:Ctr:={ alias:=false,of:=fun l=>match l with
 | [.xp _ cs]=> .ex Tm fun T=> .pre (cs=encT T/\Yci T=0) (.fin (.agg (Ycr (Yz T))) [])
 |_=>noC}
def TH1:Env:={ ct:=fun n=>match n with|96=>some wholeC|99=>some mc1|98=>some folC|97=>some fifC|_=>none,fn:=fun _=>none,meth:=fun _ _=>none}
theorem Yg5:TH1.ct 96=some wholeC:=rfl
theorem Yg8:TH1.ct 99=some mc1:=rfl
theorem Yg7:TH1.ct 98=some folC:=rfl
theorem Yg6:TH1.ct 97=some fifC:=rfl
theorem YvH:Yp Yzg TH1:=by
 refine⟨fun f c h=>?_,fun f vf h=>?_,(fun _ _ _ h=>by cases h),by kernel_rfl,(fun _ h=>by cases h)⟩
 . simp only[TH1]at h
   split at h
   . cases h;exact⟨Ypz,Tryz.f96,Tryz.func96,by kernel_rfl,by kernel_rfl⟩
   . cases h;exact⟨Yyg,Tryz.f99,Tryz.func99,by kernel_rfl,by kernel_rfl⟩
   . cases h;exact⟨Ywu,Tryz.f98,Tryz.func98,by kernel_rfl,by kernel_rfl⟩
   . cases h;exact⟨fif_c,Tryz.f97,Tryz.func97,by kernel_rfl,by kernel_rfl⟩
   . cases h
 . cases h
theorem not_c:notC.ok Yzg 75:=by
 refine Yc Tryz.func75 YyQ YvH 300 notC fun args k h=>?_
 simp only[notC]at h
 split at h
 . rename_i tt cs
   obtain⟨T,⟨rfl,hT⟩,h⟩:=h
   refine⟨[.xp tt (encT T)],by simp only[Ya],?_⟩
   dsimp only[v75,encR,YaP,Yg5,Yg8,Yg7,Yg6,wholeC,mc1,mcm,m2C,folC,fifC,go_sem,reduceIte,Yzb]
   simp only[Yd,Yzb,Yzd,reduceCtorEq,Yzc]
   refine⟨T,⟨rfl,hT⟩,?_⟩
   refine Loop.keep [2,0,0,4] Nat (fun i=>[(10,.int .i64 i)]) (fun i=>[(1,.own false 7 12 (fun k=>encR ((notL T i).1 k))),(2,.box (encR (notL T i).2))]) [] (fun i=>i<=12) (fun i=>12-i) ?_ ?_
   . refine⟨0,by omega,?_⟩
     dsimp only[encR,Ycr,go_sem,reduceIte,Yzb]
     simp only[Ya]
     refine⟨⟨by decide,by decide,by decide,rfl⟩,fun k hk=>?_,rfl,rfl,rfl,rfl,rfl,rfl,rfl⟩
     rw[YpE hk]
     exact Ya0 Yav
   . rintro i hi
     dsimp only[encR,Yzh,YaP,Yg5,Yg8,Yg7,Yg6,wholeC,mc1,mcm,m2C,folC,fifC,go_sem,reduceIte,Yzb]
     simp only[Yd,Yzb,Yzd,reduceCtorEq,Yzc]
     refine⟨fun hlt=>?_,fun hge=>?_⟩
     . have hi12:i<12:=by omega
       have e7:(IntKind.i64.wrap (7*(i:Int))).tmod 12=((7*i%12:Nat):Int):=by
         rw[Yzi _ (by omega),Int.tmod_eq_emod_of_nonneg (by omega)];omega
       simp only[Ypf,Yja (Yct T) hi12,e7,Yzh]
       dsimp only[encR,Yzh,YaP,Yg5,Yg8,Yg7,Yg6,wholeC,mc1,mcm,m2C,folC,fifC,go_sem,reduceIte,Yzb]
       simp only[Yd,Yzb,Yzd,reduceCtorEq,Yzc]
       have hS:notL T (i+1)=(Yul (notL T i).1 (7*i%12) (YeN (notL T i).2).1,(Ybr (notL T i).2 (Yct T i) 1).1):=rfl
       refine⟨⟨by omega,by omega,rfl⟩,by decide,⟨by omega,by omega⟩,by omega,i+1,by omega,by omega,?_⟩
       rw[hS,Yzi ((i:Int)+1) (by omega)]
       simp only[Ya]
       refine⟨⟨by decide,by decide,by decide,Yoq _,by simp⟩,fun k hk=>?_⟩
       unfold Yul
       split
       . exact Ya0 _
       . exact Ya0 _
     . obtain rfl:i=12:=by omega
       exact⟨by decide,Ynv (L:=Yz T) h⟩
 . exact h.1.elim
theorem Yaw(T:Tm):ones (encT T):=by simp [encT,encP,ones,one];rfl
theorem YtG(L:Nat->Rt):ones (Ycr L):=by simp [Ycr,encR,ones,one]
theorem Yv6{k:SV->List HO->Prop}{al:Bool}{hp:List HO}{e:Int}(h:k (.tup [.nil,.int .i64 e]) []):YH al k (.tup [.nil,.int .i64 e]) hp:=
 YD h (YQ (.tup [.nil,.int .i64 e]) ⟨trivial,trivial,trivial⟩) (fun _=>by simp [Yl,Ym])
theorem Yst{k:SV->List HO->Prop}{x:HO}{e:Int}{L:Nat->Rt}(h:k (.tup [.vs true false 12 7 (fun k=>encR (L k)),.int .i64 e]) []):YH false k (.tup [.own 1 0 12 7,.int .i64 e]) [x,.own false 7 12 (YaJ 7 (Ybo 1 (Ycr L)))]:=by
 refine YD h ?_ (fun _=>by simp [Yl,Ym,encR])
 dsimp only[expo,go_sem,reduceIte,Yzb]
 simp only[Ya]
 intro q hq
 rw[Ypf,Yja L hq]
 exact Yb _
def NotC:Ctr:={ alias:=false,of:=fun l=>match l with
 | [.agg cs]=> .ex Tm fun T=> .pre (cs=encT T/\T.nm.size<=9223372036854775807) (if Yci T≠0 then .fin (.tup [.nil,.int .i64 (Yci T)]) []else .fin (.tup [.vs true false 12 7 (fun k=>encR (Yz T k)),.int .i64 0]) [])
 |_=>noC}
def TH2:Env:={ ct:=fun n=>match n with|74=>some chkTmC|75=>some notC|_=>none,fn:=fun _=>none,meth:=fun _ _=>none}
theorem Yp3:TH2.ct 74=some chkTmC:=rfl
theorem Yp4:TH2.ct 75=some notC:=rfl
theorem YvI:Yp Yzg TH2:=by
 refine⟨fun f c h=>?_,fun f vf h=>?_,(fun _ _ _ h=>by cases h),by kernel_rfl,(fun _ h=>by cases h)⟩
 . simp only[TH2]at h
   split at h
   . cases h;exact⟨YsO,Tryz.f74,Tryz.func74,by kernel_rfl,by kernel_rfl⟩
   . cases h;exact⟨not_c,Tryz.f75,Tryz.func75,by kernel_rfl,by kernel_rfl⟩
   . cases h
 . cases h
theorem YpG:NotC.ok Yzg 47:=by
 refine Yc Tryz.func47 YyC YvI 300 NotC fun args k h=>?_
 simp only[NotC]at h
 split at h
 . rename_i cs
   obtain⟨T,⟨rfl,hnm⟩,h⟩:=h
   refine⟨[.agg (encT T)],⟨Yf _ (YO T _),trivial⟩,?_⟩
   dsimp only[v47,Yp3,Yp4,chkTmC,notC,go_sem,reduceIte,Yzb]
   simp only[Yd,Yzb,Yzd,reduceCtorEq,Yzc]
   refine⟨Yaw T,Yzk 27,T,⟨rfl,hnm⟩,fun hc=>?_,fun hc=>⟨T,⟨rfl,hc⟩,⟨rfl,YtG _,by decide⟩,?_⟩⟩
   . rw[if_pos hc]at h
     exact Yv6 (show k _ []from h)
   . rw[if_neg (by rw[hc];decide)]at h
     exact Yst (show k _ []from h)
 . exact h.1.elim
def v32:VF:=⟨9,[.tmp 2],(ZR [u1 2 .mov [.cn (.bool false)]] (ZR [Zm 3 0,Zq 4 .geq 3 (-20000),Zm 5 4,Zg 6 5 true 0,u2 7 5 true (.cmp .leq) [.tm 6,.cn (.int .i64 50000)],u1 8 .and [.tm 5,.tm 7],Zm 2 8] .ret))⟩
theorem Ysd:Yh Yzg Tryz.f32=some v32:=by kernel_rfl
def v34:VF:=⟨9,[.cell 4 true 2],(ZR [Zn 4] (ZR [Zm 5 0,u1 6 (.ari .add) [.cn (.int .i64 273150),.tm 5],Zm 7 1,u1 8 (.build [(.int .i64 0),(.int .i64 0)] [(0,1),(1,1)]) [.tm 6,.tm 7],Zs 2 4 8] .ret))⟩
theorem Yse:Yh Yzg Tryz.f34=some v34:=by kernel_rfl
def v33:VF:=⟨26,[.cell 6 true 2],(ZR [Zn 6] (ZR [Zm 11 0,Zm 12 2,Zm 13 1,u1 14 (.call 62) [.tm 11,.tm 12,.tm 13],Zm 10 14,Ze 15 0 10,Ze 16 1 10,Ze 17 2 10,Zm 7 15,Zm 8 16,Zm 9 17] (.seq (ZR [Zm 18 8] (ZC 18 (ZR [Zm 19 7,Zm 20 7,u1 21 (.build [(.int .i64 0),(.int .i64 0)] [(0,1),(1,1)]) [.tm 19,.tm 20],Zs 2 6 21] .ret) .skip)) (ZR [Zm 22 7,Zm 23 7,Zp 24 23 1,u1 25 (.build [(.int .i64 0),(.int .i64 0)] [(0,1),(1,1)]) [.tm 22,.tm 24],Zs 2 6 25] .ret))))⟩
theorem Yys:Yh Yzg Tryz.f33=some v33:=by kernel_rfl
def v11:VF:=⟨13,[.cell 2 true 2,.tmp 3],(ZR [Zn 2,Zi 3 0] (.seq (ZR [Zm 4 0,Zc 5 32 4,u1 6 .not [.tm 5]] (ZC 6 (ZR [u1 7 (.build [(.int .i64 0),(.int .i64 0)] []) [],Zs 2 2 7,Zi 3 2] .ret) .skip)) (ZR [Zm 8 0,u1 9 (.call 34) [.tm 8,.cn (.int .i64 1)],u1 10 (.call 34) [.cn (.int .i64 0),.cn (.int .i64 (-1))],u1 11 (.buildSlice 2 2 [(.int .i64 0),(.int .i64 0)] [(0,2),(2,2)]) [.tm 9,.tm 10],u1 12 (.call 33) [.cn (.int .i64 331300000),.cn (.int .i64 2),.tm 11],Zs 2 2 12,Zi 3 0] .ret)))⟩
theorem Yyk:Yh Yzg Tryz.f11=some v11:=by kernel_rfl
def pspF(s:Int)(l:List (Int×Int))(den:Int):Int×Int:=if(Yge s l den).2.1=true then((Yge s l den).1,(Yge s l den).1)else((Yge s l den).1,IntKind.i64.wrap ((Yge s l den).1+1))
def pspC:Ctr:={ alias:=false,of:=fun l=>match l with
 | [.int .i64 s,.int .i64 den,.vs _ _ n sz get]=> .ex (List (Int×Int)) fun l=> .pre (lsP 2 enc2 n sz get l/\1<=n/\n<=1000000000000) (.fin (.agg [.int .i64 (pspF s l den).1,.int .i64 (pspF s l den).2]) [])
 |_=>noC}
def Yax(t:Int):Bool:=decide (-20000<=t)&&decide (t<=50000)
def YgQ(t:Int):(Int×Int)×Int:=if Yax t=true then(pspF 331300000 [(273150+t,1),(273150, -1)] 2,0)else((0,0),2)
def speedC:Ctr:={ alias:=false,of:=fun l=>match l with
 | [.int .i64 t]=> .fin (.tup [.agg [.int .i64 (YgQ t).1.1,.int .i64 (YgQ t).1.2],.int .i64 (YgQ t).2]) []
 |_=>noC}
theorem Yhw{k:SV->List HO->Prop}{al:Bool}{hp:List HO}{x y:Int}(h:k (.agg [.int .i64 x,.int .i64 y]) []):YH al k (.agg [.int .i64 x,.int .i64 y]) hp:=
 YD (show k _ []from h) (YQ (.agg [.int .i64 x,.int .i64 y]) ⟨trivial,trivial,trivial⟩) (fun _=>by simp [Yl,Ym])
theorem Ycn{k:SV->List HO->Prop}{al:Bool}{hp:List HO}{x y e:Int}(h:k (.tup [.agg [.int .i64 x,.int .i64 y],.int .i64 e]) []):YH al k (.tup [.agg [.int .i64 x,.int .i64 y],.int .i64 e]) hp:=
 YD (show k _ []from h) (YQ (.tup [.agg [.int .i64 x,.int .i64 y],.int .i64 e]) ⟨⟨trivial,trivial,trivial⟩,trivial,trivial⟩) (fun _=>by simp [Yl,Ym])
def RP0:Env:={ ct:=fun n=>match n with|62=>some prodC|_=>none,fn:=fun _=>none,meth:=fun _ _=>none}
theorem YpQ:RP0.ct 62=some prodC:=rfl
theorem Yvr:Yp Yzg RP0:=by
 refine⟨fun f c h=>?_,fun f vf h=>?_,(fun _ _ _ h=>by cases h),by kernel_rfl,(fun _ h=>by cases h)⟩
 . simp only[RP0]at h
   split at h
   . cases h;exact⟨Yxi,Tryz.f62,Tryz.func62,by kernel_rfl,by kernel_rfl⟩
   . cases h
 . cases h
theorem YtO:pspC.ok Yzg 33:=by
 refine Yc Tryz.func33 Yys Yvr 200 pspC fun args k h=>?_
 simp only[pspC]at h
 split at h
 . rename_i s den tt z n sz get
   obtain⟨l,⟨⟨rfl,rfl,hg⟩,hn1,hn⟩,h⟩:=h
   refine⟨[.int .i64 s,.int .i64 den,.vs tt z l.length 2 (fun k=>enc2 (l.getD k default))],⟨⟨rfl,rfl⟩,⟨rfl,rfl⟩,⟨id,rfl,rfl,rfl,hg⟩,trivial⟩,?_⟩
   dsimp only[v33,YpQ,prodC,enc2,go_sem,reduceIte,Yzb]
   simp only[Yd,Yzb,Yzd,reduceCtorEq,Yzc]
   refine⟨l,⟨⟨rfl,rfl,fun k _=>Yb _⟩,hn1,hn⟩,by decide,by decide,by decide,fun hc=>?_,fun hc=>?_⟩
   . rw[pspF,if_pos hc]at h;exact Yhw h
   . rw[pspF,if_neg (by rw[hc];decide)]at h;exact Yhw h
 . exact h.1.elim
def RP1:Env:={ ct:=fun n=>match n with|33=>some pspC|_=>none,fn:=fun n=>match n with|32=>some v32|34=>some v34|_=>none,meth:=fun _ _=>none}
theorem YpS:RP1.ct 33=some pspC:=rfl
theorem YpR:RP1.ct 32=none:=rfl
theorem YpU:RP1.fn 32=some v32:=rfl
theorem YpT:RP1.ct 34=none:=rfl
theorem YpV:RP1.fn 34=some v34:=rfl
theorem Yvs:Yp Yzg RP1:=by
 refine⟨fun f c h=>?_,fun f vf h=>?_,(fun _ _ _ h=>by cases h),by kernel_rfl,(fun _ h=>by cases h)⟩
 . simp only[RP1]at h
   split at h
   . cases h;exact⟨YtO,Tryz.f33,Tryz.func33,by kernel_rfl,by kernel_rfl⟩
   . cases h
 . simp only[RP1]at h
   split at h
   . cases h;exact⟨Tryz.f32,Tryz.func32,Ysd,Tryz.f32,Tryz.func32,by kernel_rfl,by kernel_rfl⟩
   . cases h;exact⟨Tryz.f34,Tryz.func34,Yse,Tryz.f34,Tryz.func34,by kernel_rfl,by kernel_rfl⟩
   . cases h
theorem Yum:speedC.ok Yzg 11:=by
 refine Yc Tryz.func11 Yyk Yvs 300 speedC fun args k h=>?_
 simp only[speedC]at h
 split at h
 . rename_i t
   refine⟨[.int .i64 t],by simp [leL,le],?_⟩
   dsimp only[v11,YpS,YpR,YpU,v32,YpT,YpV,v34,pspC,go_sem,reduceIte,Yzb]
   simp only[Yd,Yzb,Yzd,reduceCtorEq,Yzc]
   refine⟨fun hc=>?_,fun hc=>⟨by decide,[(273150+t,1),(273150, -1)],?_,?_⟩⟩
   . rw[YgQ,if_neg (show¬Yax t=true from by rw[show Yax t=false from hc];decide)]at h
     exact Ycn h
   . rw[Yzj,decide_eq_true_eq,decide_eq_true_eq]at hc
     have e1:IntKind.i64.wrap (273150+t)=273150+t:=Yzi _ (by omega)
     have e2:IntKind.i64.wrap (273150+0)=273150:=by decide
     rw[e1,e2]
     refine⟨rfl,rfl,fun k hk=>?_⟩
     match k,hk with
     |0,_=>exact Yb _
     |1,_=>exact Yb _
   . rw[YgQ,if_pos (show Yax t=true from hc)]at h
     exact Ycn h
 . exact h.1.elim
def v65:VF:=⟨23,[.tmp 2],(ZR [u1 1 .box [.tm 0],Zi 2 0] (.seq (ZR [Za 3 0 1,Zf 4 1 3,Zq 5 .lss 4 100000,Zm 6 5,Zj 7 6 false 0 1,Zh 8 6 false 1 7,u2 9 6 false (.cmp .gtr) [.tm 8,.cn (.int .i64 1000000)],u1 10 .or [.tm 6,.tm 9],Zm 11 10,Zj 12 11 false 1 1,Zh 13 11 false 1 12,u2 14 11 false (.call 32) [.tm 13],u2 15 11 false .not [.tm 14],u1 16 .or [.tm 11,.tm 15],Zm 17 16,Zj 18 17 false 2 1,Zh 19 17 false 1 18,u2 20 17 false (.call 32) [.tm 19],u2 21 17 false .not [.tm 20],u1 22 .or [.tm 17,.tm 21]] (ZC 22 (ZR [Zi 2 2] .ret) .skip)) (ZR [Zi 2 0] .ret)))⟩
theorem YyH:Yh Yzg Tryz.f65=some v65:=by kernel_rfl
def v36:VF:=⟨77,[.tmp 4,.tmp 5],(ZR [u1 4 .mov [.cn .nil],Zi 5 0] (.seq (.draw [(6,.box [(.int .i64 0),(.int .i64 0),(.int .i64 0),(.int .i64 0),(.int .i64 0),(.int .i64 0),(.int .i64 0)])] [Zu 13 0,w1 14 .nilCheck [.tm 13],Zy 15 3 14,Zv 16 1 15,Zu 17 1,w1 18 .rem [.tm 17,.cn (.int .i64 12)],ZX 19 7 16 18,Zw 20 7 19,Zu 21 0,w1 22 .nilCheck [.tm 21],Zy 23 3 22,Zv 24 1 23,w1 25 (.idxAddr 7) [.tm 24,.cn (.int .i64 9)],Zw 26 7 25,Zz 27 63 20 26,Zu 12 27,ZE 28 0 12,ZE 29 1 12,ZS 7 6 28,Zu 7 29]) (ZR [Zt 31 7 6,Zc 32 64 31,Zm 30 32,Ze 33 0 30,Ze 34 1 30,Ze 35 2 30,Zm 8 33,Zm 9 34,Zm 10 35] (.seq (ZR [Zm 36 8,Zl 37 36,Zi 38 0] (.block 0 (.loop (ZR [Zr 39 .lss 38 37] (.seq (ZC 39 .skip (.exit 0)) (.seq (.block 1 (ZR [Zm 40 38,Zm 11 40] (.region [Zm 41 8,Zm 42 11,Zx 43 2 41 42,Za 44 1 43,Zf 45 1 44,u1 46 (.ari .mul) [.tm 45,.cn (.int .i64 2)],Zx 47 2 41 42,Za 48 1 47,Zs 1 48 46]))) (.region [Zp 49 38 1,Zm 38 49]))))))) (.seq (.draw [] [Zu 50 8,Zu 51 9,w1 52 (.ari .mul) [.cn (.int .i64 2),.tm 51],Zu 53 1,w1 54 .quo [.tm 53,.cn (.int .i64 12)],w1 55 (.ari .sub) [.tm 54,.cn (.int .i64 5)],w1 56 (.ari .mul) [.tm 52,.tm 55],w1 57 (.build [(.int .i64 0),(.int .i64 0)] [(0,1),(1,1)]) [.cn (.int .i64 2),.tm 56],Zu 58 0,w1 59 .nilCheck [.tm 58],Zy 60 0 59,Zy 61 2 60,Zv 62 1 61,Zu 63 9,Zu 65 0,w1 66 .nilCheck [.tm 65],Zy 67 0 66,Zy 68 1 67,Zv 69 1 68,Zu 70 9,w1 71 .neg [.tm 70],Zu 75 9,w1 76 (.ari .mul) [.cn (.int .i64 2),.tm 75],Zz 64 34 62 63,Zz 72 34 69 71,w1 73 (.buildSlice 2 3 [(.int .i64 0),(.int .i64 0)] [(0,2),(2,2),(4,2)]) [.tm 57,.tm 64,.tm 72],⟨u1 74 (.append 2 16 [(.int .i64 0),(.int .i64 0)]) [.tm 50,.tm 73],[.tm 9,.tm 75,.tm 75,.tm 76]⟩,Zu 4 74,Zu 5 76]) .ret)))))⟩
theorem Yyu:Yh Yzg Tryz.f36=some v36:=by kernel_rfl
def chkS(a t0 t:Int):Int:=if a<100000\/1000000<a\/Yax t0=false\/Yax t=false then 2 else 0
def chkSC:Ctr:={ alias:=false,of:=fun l=>match l with
 | [.agg [.int .i64 a,.int .i64 t0,.int .i64 t]]=> .fin (.int .i64 (chkS a t0 t)) []
 |_=>noC}
def dblT(x:Int×Int):Int×Int:=(x.1,x.2*2)
def YfG(L:Nat->Rt)(note:Int):Rt:=(Ybr (L (note%12).toNat) (L 9) (-1)).1
def trmL(r:Rt):List (Int×Int):=if chkR r=0 then Yx r else []
def trmD(r:Rt):Int:=if chkR r=0 then r.n else 0
def Yi(L:Nat->Rt)(t0 t note:Int):List (Int×Int)×Int:=
 ((trmL (YfG L note)).map dblT++[(2,2*trmD (YfG L note)*(note/12-5)),(273150+t,trmD (YfG L note)),(273150+t0, -trmD (YfG L note))],2*trmD (YfG L note))
def dblA(l:List (Int×Int))(i k:Nat):Int×Int:=if k<i then dblT (l.getD k default)else l.getD k default
theorem YmP{r:Rt}(h:chkR r=0):∀x,x∈Yx r-> -100000<=x.2/\x.2<=100000:=by
 obtain⟨_,h1,h2,h3,h4,h5,h6,_⟩:=Ykb h
 have key:∀(p n:Int),badN n=false->∀x,x∈tm1 p n-> -100000<=x.2/\x.2<=100000:=fun p n hn x hx=>by
   unfold tm1 at hx
   split at hx
   . cases hx
   . rw[List.mem_singleton]at hx;subst hx;exact YdK hn
 intro x hx
 simp only[Yx,YzF]at hx
 rcases hx with hx|hx|hx|hx|hx|hx
 . exact key _ _ h1 x hx
 . exact key _ _ h2 x hx
 . exact key _ _ h3 x hx
 . exact key _ _ h4 x hx
 . exact key _ _ h5 x hx
 . exact key _ _ h6 x hx
theorem Ypp{a b c d e f:Int}{k:Nat}(hk:k<3):lenL (Yu 2 (Yq (k*2) [SV.int .i64 a,SV.int .i64 b,SV.int .i64 c,SV.int .i64 d,SV.int .i64 e,SV.int .i64 f]))=2/\ones (Yu 2 (Yq (k*2) [SV.int .i64 a,SV.int .i64 b,SV.int .i64 c,SV.int .i64 d,SV.int .i64 e,SV.int .i64 f])):=by
 rcases(show k=0\/k=1\/k=2 by omega)with rfl|rfl|rfl <;> exact⟨rfl,trivial,trivial,trivial⟩
def termC:Ctr:={ alias:=false,of:=fun l=>match l with
 | [.xp _ [.int .i64 _,.int .i64 t0,.int .i64 t,.vs _ _ n sz get],.int .i64 note]=> .ex (Nat->Rt) fun L=> .pre ((n=12/\sz=7/\∀k,k<12->leXL (get k) (encR (L k)))/\(0<=note/\note<=139)/\Yax t0=true/\Yax t=true)
     (.fin (.tup [.vs true false (Yi L t0 t note).1.length 2 (fun k=>enc2 ((Yi L t0 t note).1.getD k default)),.int .i64 (Yi L t0 t note).2]) [])
 |_=>noC}
def valdC:Ctr:={ alias:=false,of:=fun l=>match l with
 | [.int .i64 t]=> .fin (.bool (Yax t)) []
 |_=> .pre False (.fin (.bool false) [])}
def TIv:Env:={ ct:=fun _=>none,fn:=fun _=>none,meth:=fun _ _=>none}
theorem YrC:Yp Yzg TIv:=by
 refine⟨fun f c h=>?_,fun f vf h=>?_,(fun _ _ _ h=>by cases h),by kernel_rfl,(fun _ h=>by cases h)⟩
 . cases h
 . cases h
theorem Yy5:valdC.ok Yzg 32:=by
 refine Yc Tryz.func32 Ysd YrC 300 valdC fun args k h=>?_
 simp only[valdC]at h
 split at h
 . rename_i t
   refine⟨[.int .i64 t],by simp [leL,le],?_⟩
   dsimp only[v32,go_sem,reduceIte,Yzb]
   simp only[Yd,Yzb,Yzd,reduceCtorEq,Yzc]
   exact Yaf h
 . exact h.1.elim
def TI0:Env:={ ct:=fun n=>match n with|32=>some valdC|_=>none,fn:=fun _=>none,meth:=fun _ _=>none}
theorem Yp5:TI0.ct 32=some valdC:=rfl
theorem YvJ:Yp Yzg TI0:=by
 refine⟨fun f c h=>?_,fun f vf h=>?_,(fun _ _ _ h=>by cases h),by kernel_rfl,(fun _ h=>by cases h)⟩
 . simp only[TI0]at h
   split at h
   . cases h;exact⟨Yy5,Tryz.f32,Tryz.func32,by kernel_rfl,by kernel_rfl⟩
   . cases h
 . cases h
theorem Yi1:chkSC.ok Yzg 65:=by
 refine Yc Tryz.func65 YyH YvJ 300 chkSC fun args k h=>?_
 simp only[chkSC]at h
 split at h
 . rename_i a t0 t
   refine⟨[.agg [.int .i64 a,.int .i64 t0,.int .i64 t]],by simp [leL,le],?_⟩
   dsimp only[v65,Yp5,valdC,go_sem,reduceIte,Yzb]
   simp only[Yd,Yzb,Yzd,reduceCtorEq,Yzc]
   have h:k (.int .i64 (chkS a t0 t)) []:=h
   refine⟨fun hc=>?_,fun hc=>?_⟩
   . rw[chkS,if_pos (by simpa [or_assoc]using hc)]at h;exact Yt h
   . rw[chkS,if_neg (by simpa [or_assoc,and_assoc]using hc)]at h;exact Yt h
 . exact h.1.elim
def warmC:Ctr:={ alias:=false,of:=fun l=>match l with
 | [.int .i64 t,.int .i64 num]=> .pre (Yax t=true) (.fin (.agg [.int .i64 (273150+t),.int .i64 num]) [])
 |_=>noC}
theorem Yrs{t:Int}(h:Yax t=true): -20000<=t/\t<=50000:=by simpa [Yax]using h
theorem Ypy:warmC.ok Yzg 34:=by
 refine Yc Tryz.func34 Yse YrC 300 warmC fun args k h=>?_
 simp only[warmC]at h
 split at h
 . rename_i t num
   obtain⟨ht,h⟩:=h
   have ht:=Yrs ht
   refine⟨[.int .i64 t,.int .i64 num],by simp [leL,le],?_⟩
   dsimp only[v34,go_sem,reduceIte,Yzb]
   simp only[Yd,Yzb,Yzd,reduceCtorEq,Yzc]
   rw[Yzi (273150+t) (by omega)]
   exact Yhw h
 . exact h.1.elim
def TI1:Env:={ ct:=fun n=>match n with|63=>some Yaz|64=>some trmC|34=>some warmC|_=>none,fn:=fun _=>none,meth:=fun _ _=>none}
theorem YdH:TI1.ct 63=some Yaz:=rfl
theorem YdI:TI1.ct 64=some trmC:=rfl
theorem YdG:TI1.ct 34=some warmC:=rfl
theorem YvK:Yp Yzg TI1:=by
 refine⟨fun f c h=>?_,fun f vf h=>?_,(fun _ _ _ h=>by cases h),by kernel_rfl,(fun _ h=>by cases h)⟩
 . simp only[TI1]at h
   split at h
   . cases h;exact⟨YrJ,Tryz.f63,Tryz.func63,by kernel_rfl,by kernel_rfl⟩
   . cases h;exact⟨Yyh,Tryz.f64,Tryz.func64,by kernel_rfl,by kernel_rfl⟩
   . cases h;exact⟨Ypy,Tryz.f34,Tryz.func34,by kernel_rfl,by kernel_rfl⟩
   . cases h
 . cases h
theorem Yme:termC.ok Yzg 36:=by
 refine Yc Tryz.func36 Yyu YvK 600 termC fun args k h=>?_
 simp only[termC]at h
 split at h
 . rename_i tt a t0 t tv zv n sz get note
   obtain⟨L,⟨⟨rfl,rfl,hg⟩,hn,h0,h1⟩,h⟩:=h
   refine⟨[.xp tt [.int .i64 a,.int .i64 t0,.int .i64 t,.vs tv zv 12 7 (fun k=>encR (L k))],.int .i64 note],?_,?_⟩
   . simp only[Ye6,Yh6,YqZ,YlM,and_true,true_and]
     exact⟨id,⟨rfl,rfl⟩,⟨rfl,rfl⟩,⟨rfl,rfl⟩,⟨id,rfl,rfl,rfl,hg⟩,trivial⟩
   dsimp only[v36,YaP,YdH,YdI,Yaz,YcA,trmC,encR,YdG,warmC,go_sem,reduceIte,Yzb]
   simp only[Yd,Yzb,Yzd,reduceCtorEq,Yzc]
   obtain⟨m,rfl⟩:∃m:Nat,note=(m:Int):=⟨note.toNat,by omega⟩
   have em:(m:Int).tmod 12=((m%12:Nat):Int):=by rw[Int.tmod_eq_emod_of_nonneg (by omega)];omega
   simp only[em,Yzh]
   obtain⟨r,hr⟩:∃r,r=YfG L m:=⟨_,rfl⟩
   have hr':(Ybr (L (m%12)) (L (Int.toNat 9)) (-1)).1=r:=by rw[hr,YfG,show((m:Int)%12).toNat=m%12 by omega];rfl
   simp only[hr']
   refine⟨by decide,⟨by omega,by omega⟩,by decide,by decide,by decide,?_⟩
   by_cases hc:chkR r=0
   . rw[if_neg (fun hh=>hh hc)]
     dsimp only[YaP,YdH,YdI,Yaz,YcA,trmC,encR,YdG,warmC,go_sem,reduceIte,Yzb]
     simp only[Yd,Yzb,Yzd,reduceCtorEq,Yzc]
     intro z
     refine⟨by decide,by decide,by decide,?_⟩
     have hlen:=Yes r
     refine Loop.keep [0,0,2,0,2,0,27] Nat (fun i=>[(38,.int .i64 i)]) (fun i=>[(2,.own z 2 (Yx r).length (fun k=>enc2 (dblA (Yx r) i k)))]) [] (fun i=>i<=(Yx r).length) (fun i=>(Yx r).length-i) ?_ ?_
     . refine⟨0,Nat.zero_le _,?_⟩
       dsimp only[enc2,go_sem,reduceIte,Yzb]
       simp only[Ya]
       refine⟨⟨by decide,rfl⟩,fun k hk=>?_⟩
       rw[dblA,if_neg (Nat.not_lt_zero _)]
       exact⟨rfl,rfl⟩
     . rintro i hi
       dsimp only[YaP,YdH,YdI,Yaz,YcA,trmC,encR,YdG,warmC,enc2,Yzh,go_sem,reduceIte,Yzb]
       simp only[Yd,Yzb,Yzd,reduceCtorEq,Yzc]
       refine⟨fun hlt=>?_,fun hge=>?_⟩
       . have hil:i<(Yx r).length:=by omega
         have hx:=YmP hc _ (YP hil)
         have ei:dblA (Yx r) i i=(Yx r).getD i default:=if_neg (Nat.lt_irrefl _)
         rw[ei,Yzi (((Yx r).getD i default).2*2) (by omega),YaQ hil (by omega)]
         refine⟨⟨by omega,by omega⟩,hil,⟨by omega,by omega⟩,hil,i+1,by omega,by omega,?_⟩
         simp only[Ya]
         refine⟨by decide,fun k hk=>?_⟩
         by_cases hki:k=i
         . subst hki
           rw[if_pos rfl,dblA,if_pos (by omega)]
           exact⟨⟨rfl,rfl⟩,⟨rfl,rfl⟩,trivial⟩
         . rw[if_neg hki]
           have:dblA (Yx r) (i+1) k=dblA (Yx r) i k:=by
             unfold dblA
             by_cases h1:k<i
             . rw[if_pos h1,if_pos (by omega)]
             . rw[if_neg h1,if_neg (by omega)]
           rw[this]
           exact⟨⟨rfl,rfl⟩,⟨rfl,rfl⟩,trivial⟩
       . obtain rfl:i=(Yx r).length:=by omega
         have hd:=Yey hc
         have e1:IntKind.i64.wrap (2*r.n)=2*r.n:=Yzi _ (by omega)
         have e2:IntKind.i64.wrap (IntKind.i64.wrap ((m:Int).tdiv 12)-5)=(m:Int)/12-5:=by
           rw[Int.tdiv_eq_ediv_of_nonneg (by omega),Yzi ((m:Int)/12) (by omega),Yzi _ (by omega)]
         have hm:=Ybi (x:=2*r.n) (y:=(m:Int)/12-5) (X:=2000) (Y:=20) (by omega) (by omega)
         have e3:IntKind.i64.wrap (2*r.n*((m:Int)/12-5))=2*r.n*((m:Int)/12-5):=Yzi _ (by omega)
         have e4:IntKind.i64.wrap (0-r.n)= -r.n:=by rw[Yzi _ (by omega)];omega
         rw[e1,e2,e3,e4]
         refine⟨by decide,h1,h0,by decide,⟨by unfold YR;omega,fun k hk=>Ypp hk⟩,?_⟩
         have hT:Yi L t0 t m=((Yx r).map dblT++[(2,2*r.n*((m:Int)/12-5)),(273150+t,r.n),(273150+t0, -r.n)],2*r.n):=by
           rw[Yi,<-hr,trmL,if_pos hc,trmD,if_pos hc]
         refine YD (show k _ []from h) ?_ (fun _=>by simp [Yl,Ym,enc2])
         rw[hT]
         dsimp only[expo,go_sem,reduceIte,Yzb]
         simp only[Ya]
         refine⟨by simp,by simp,fun q hq=>?_⟩
         by_cases h2:q<(Yx r).length
         . simp only[if_pos h2,dblA]
           rw[YF (by simpa using h2),Ykl h2]
           exact Yb _
         . simp only[if_neg h2]
           rw[YG (by simp;omega),List.length_map]
           rcases(show q-(Yx r).length=0\/q-(Yx r).length=1\/q-(Yx r).length=2 by omega)with e|e|e <;> (rw[e];exact Yb _)
   . rw[if_pos hc]
     dsimp only[YaP,YdH,YdI,Yaz,YcA,trmC,encR,YdG,warmC,go_sem,reduceIte,Yzb]
     simp only[Yd,Yzb,Yzd,reduceCtorEq,Yzc]
     refine⟨by decide,by decide,by decide,?_⟩
     refine Loop.keep [0,0,2,0,2,0,27] Nat (fun i=>[(38,.int .i64 i)]) (fun _=>[]) [] (fun i=>i=0) (fun i=>i) ?_ ?_
     . refine⟨0,rfl,?_⟩
       dsimp only[go_sem,reduceIte,Yzb]
       simp only[Ya]
       rfl
     . rintro i rfl
       dsimp only[YaP,YdH,YdI,Yaz,YcA,trmC,encR,YdG,warmC,enc2,Yzh,go_sem,reduceIte,Yzb]
       simp only[Yd,Yzb,Yzd,reduceCtorEq,Yzc]
       have e2:IntKind.i64.wrap (IntKind.i64.wrap ((m:Int).tdiv 12)-5)=(m:Int)/12-5:=by
         rw[Int.tdiv_eq_ediv_of_nonneg (by omega),Yzi ((m:Int)/12) (by omega),Yzi _ (by omega)]
       have e3:IntKind.i64.wrap (IntKind.i64.wrap (2*0)*((m:Int)/12-5))=2*0*((m:Int)/12-5):=by
         rw[show IntKind.i64.wrap (2*0)=0 by decide,Int.mul_zero,Int.zero_mul];decide
       rw[e2,e3]
       refine⟨fun hh=>absurd hh (by decide),fun _=>⟨by decide,h1,h0,by decide,⟨by unfold YR;omega,fun k hk=>Ypp hk⟩,?_⟩⟩
       have hT:Yi L t0 t m=([(2,2*0*((m:Int)/12-5)),(273150+t,0),(273150+t0, -0)],2*0):=by
         rw[Yi,<-hr,trmL,if_neg hc,trmD,if_neg hc];rfl
       refine YD (show k _ []from h) ?_ (fun _=>by simp [Yl,Ym,enc2])
       rw[hT]
       dsimp only[expo,go_sem,reduceIte,Yzb]
       simp only[Ya]
       refine⟨⟨by decide,rfl,fun q hq=>?_⟩,by decide⟩
       rw[show IntKind.i64.wrap (0-0)= -0 by decide]
       rcases(show q=0\/q=1\/q=2 by omega)with rfl|rfl|rfl <;> exact Yb _
 . exact h.1.elim
end Go.Proofs.YtegbbdjknnfbdaaGreatDoor
