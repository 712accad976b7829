/- Pitches of the program, walked: span, Speed. -/
import Derived.Test.YtfjodiojchknmaaGreatDoorMgX38e
import Derived.Test.YtfjodiojchknmaaGreatDoorMgX38d
open Bool renaming and_eq_true->YEI,or_eq_false_iff->YE9
open Int renaming le_of_lt->YFG,mul_le_mul_of_nonneg_left->YEM,mul_le_mul_of_nonneg_right->YE1,mul_nonneg->YEL,natCast_add->YFH,natCast_mul->YFe,pow_nonneg->YFE,toNat_natCast->YEB
open Go.IntWalk renaming i64_in->YED
open List renaming length_append->YE8,length_cons->YFb,length_nil->YFh,mem_append->YE3,mem_cons->YE5,mem_cons_of_mem->YEN,mem_cons_self->YES,mem_singleton->YFg,take_length->YFF
open Nat renaming add_mul->YE4,beq->YFc,div_add_mod->YFB,div_div_eq_div_mul->YFl,div_mul_le_self->YFx,eq_of_beq_eq_true->YEW,eq_zero_or_pos->YFk,gcd->YFt,le_div_iff_mul_le->YFu,le_of_ble_eq_true->YFi,le_of_eq->YFA,le_of_lt->YFJ,le_of_mul_le_mul_right->YEY,le_refl->YEK,le_trans->YEQ,lt_of_le_of_lt->YFp,lt_of_lt_of_le->YFq,lt_or_ge->YFf,mod_lt->YFD,mul_add->YFw,mul_assoc->YEH,mul_comm->YEJ,mul_le_mul->YEV,mul_le_mul_left->YEG,mul_le_mul_right->YEF,mul_left_comm->YEX,mul_one->YFI,mul_pos->YFm,mul_pow->YEZ,one_mul->YFo,pow_add->YEO,pow_le_pow_left->YEP,pow_le_pow_right->YE7,pow_mul->YET,pow_pos->YFj,pow_succ->YE2,reduceAdd->YEx,reduceEqDiff->YEy,reduceLeDiff->YEz,zero_add->YFv
open Go.Proofs.Tryz renaming prog->YEC
set_option linter.all false
namespace Go.Proofs.YtfjodiojchknmaaGreatDoor
open Go Go.Vx
set_option maxRecDepth 100000
set_option maxHeartbeats 4000000
def v55:VF:=⟨9,[.tmp 2],(ZR [u1 2 .mov [.cn (.bool false)]] (ZR [Zm 3 0,Zq 4 .geq 3 (-20000),Zm 5 4,Zg 6 5 true 0,u2 7 5 true (.cmp .leq) [.tm 6,.cn (.int .i64 50000)],u1 8 .and [.tm 5,.tm 7],Zm 2 8] .ret))⟩
theorem Ywz:Yi YEC Tryz.f55=some v55:=by kernel_rfl
def v52:VF:=⟨9,[.cell 4 true 2],(ZR [Zn 4] (ZR [Zm 5 0,u1 6 (.ari .add) [.cn (.int .i64 273150),.tm 5],Zm 7 1,u1 8 (.build [(.int .i64 0),(.int .i64 0)] [(0,1),(1,1)]) [.tm 6,.tm 7],Zs 2 4 8] .ret))⟩
theorem Ywy:Yi YEC Tryz.f52=some v52:=by kernel_rfl
def v50:VF:=⟨26,[.cell 6 true 2],(ZR [Zn 6] (ZR [Zm 11 0,Zm 12 2,Zm 13 1,u1 14 (.call 74) [.tm 11,.tm 12,.tm 13],Zm 10 14,Ze 15 0 10,Ze 16 1 10,Ze 17 2 10,Zm 7 15,Zm 8 16,Zm 9 17] (.seq (ZR [Zm 18 8] (ZC 18 (ZR [Zm 19 7,Zm 20 7,u1 21 (.build [(.int .i64 0),(.int .i64 0)] [(0,1),(1,1)]) [.tm 19,.tm 20],Zs 2 6 21] .ret) .skip)) (ZR [Zm 22 7,Zm 23 7,Zp 24 23 1,u1 25 (.build [(.int .i64 0),(.int .i64 0)] [(0,1),(1,1)]) [.tm 22,.tm 24],Zs 2 6 25] .ret))))⟩
theorem YDZ:Yi YEC Tryz.f50=some v50:=by kernel_rfl
def v21:VF:=⟨13,[.cell 2 true 2,.tmp 3],(ZR [Zn 2,Zi 3 0] (.seq (ZR [Zm 4 0,Zc 5 55 4,u1 6 .not [.tm 5]] (ZC 6 (ZR [u1 7 (.build [(.int .i64 0),(.int .i64 0)] []) [],Zs 2 2 7,Zi 3 2] .ret) .skip)) (ZR [Zm 8 0,u1 9 (.call 52) [.tm 8,.cn (.int .i64 1)],u1 10 (.call 52) [.cn (.int .i64 0),.cn (.int .i64 (-1))],u1 11 (.buildSlice 2 2 [(.int .i64 0),(.int .i64 0)] [(0,2),(2,2)]) [.tm 9,.tm 10],u1 12 (.call 50) [.cn (.int .i64 331300000),.cn (.int .i64 2),.tm 11],Zs 2 2 12,Zi 3 0] .ret)))⟩
theorem YDP:Yi YEC Tryz.f21=some v21:=by kernel_rfl
def pspF(s:Int)(l:List (Int×Int))(den:Int):Int×Int:=if(Yd8 s l den).2.1=true then((Yd8 s l den).1,(Yd8 s l den).1)else((Yd8 s l den).1,IntKind.i64.wrap ((Yd8 s l den).1+1))
def pspC:Ctr:={ alias:=false,of:=fun l=>match l with
 | [.int .i64 s,.int .i64 den,.vs _ _ n sz get]=> .ex (List (Int×Int)) fun l=> .pre (lsP 2 enc2 n sz get l/\1<=n/\n<=1000000000000) (.fin (.agg [.int .i64 (pspF s l den).1,.int .i64 (pspF s l den).2]) [])
 |_=>noC}
def YH(t:Int):Bool:=decide (-20000<=t)&&decide (t<=50000)
def Ybm(t:Int):(Int×Int)×Int:=if YH t=true then(pspF 331300000 [(273150+t,1),(273150, -1)] 2,0)else((0,0),2)
def speedC:Ctr:={ alias:=false,of:=fun l=>match l with
 | [.int .i64 t]=> .fin (.tup [.agg [.int .i64 (Ybm t).1.1,.int .i64 (Ybm t).1.2],.int .i64 (Ybm t).2]) []
 |_=>noC}
theorem YiJ{k:SV->List HO->Prop}{al:Bool}{hp:List HO}{x y:Int}(h:k (.agg [.int .i64 x,.int .i64 y]) []):YO al k (.agg [.int .i64 x,.int .i64 y]) hp:=
 YI (show k _ []from h) (YV (.agg [.int .i64 x,.int .i64 y]) ⟨trivial,trivial,trivial⟩) (fun _=>by simp [Ym,Yo])
theorem YiK{k:SV->List HO->Prop}{al:Bool}{hp:List HO}{x y e:Int}(h:k (.tup [.agg [.int .i64 x,.int .i64 y],.int .i64 e]) []):YO al k (.tup [.agg [.int .i64 x,.int .i64 y],.int .i64 e]) hp:=
 YI (show k _ []from h) (YV (.tup [.agg [.int .i64 x,.int .i64 y],.int .i64 e]) ⟨⟨trivial,trivial,trivial⟩,trivial,trivial⟩) (fun _=>by simp [Ym,Yo])
def RP0:Env:={ ct:=fun n=>match n with|74=>some prodC|_=>none,fn:=fun _=>none,meth:=fun _ _=>none}
theorem Ys9:RP0.ct 74=some prodC:=rfl
theorem YAu:Ys YEC RP0:=by
 refine⟨fun f c h=>?_,fun f vf h=>?_,(fun _ _ _ h=>by cases h),by kernel_rfl,(fun _ h=>by cases h)⟩
 . simp only[RP0]at h
   split at h
   . cases h;exact⟨YCF,Tryz.f74,Tryz.func74,by kernel_rfl,by kernel_rfl⟩
   . cases h
 . cases h
theorem Yyy:pspC.ok YEC 50:=by
 refine Yc Tryz.func50 YDZ YAu 200 pspC fun args k h=>?_
 simp only[pspC]at h
 split at h
 . rename_i s den tt z n sz get
   obtain⟨l,⟨⟨rfl,rfl,hg⟩,hn1,hn⟩,h⟩:=h
   refine⟨[.int .i64 s,.int .i64 den,.vs tt z l.length 2 (fun k=>enc2 (l.getD k default))],⟨⟨rfl,rfl⟩,⟨rfl,rfl⟩,⟨id,rfl,rfl,rfl,hg⟩,trivial⟩,?_⟩
   dsimp only[v50,Ys9,prodC,enc2,go_sem,reduceIte,YEx]
   simp only[Yd,YEx,YEz,reduceCtorEq,YEy]
   refine⟨l,⟨⟨rfl,rfl,fun k _=>Yb _⟩,hn1,hn⟩,by decide,by decide,by decide,fun hc=>?_,fun hc=>?_⟩
   . rw[pspF,if_pos hc]at h;exact YiJ h
   . rw[pspF,if_neg (by rw[hc];decide)]at h;exact YiJ h
 . exact h.1.elim
def RP1:Env:={ ct:=fun n=>match n with|50=>some pspC|_=>none,fn:=fun n=>match n with|55=>some v55|52=>some v52|_=>none,meth:=fun _ _=>none}
theorem Yta:RP1.ct 50=some pspC:=rfl
theorem Ytc:RP1.ct 55=none:=rfl
theorem Yte:RP1.fn 55=some v55:=rfl
theorem Ytb:RP1.ct 52=none:=rfl
theorem Ytd:RP1.fn 52=some v52:=rfl
theorem YAv:Ys YEC RP1:=by
 refine⟨fun f c h=>?_,fun f vf h=>?_,(fun _ _ _ h=>by cases h),by kernel_rfl,(fun _ h=>by cases h)⟩
 . simp only[RP1]at h
   split at h
   . cases h;exact⟨Yyy,Tryz.f50,Tryz.func50,by kernel_rfl,by kernel_rfl⟩
   . cases h
 . simp only[RP1]at h
   split at h
   . cases h;exact⟨Tryz.f55,Tryz.func55,Ywz,Tryz.f55,Tryz.func55,by kernel_rfl,by kernel_rfl⟩
   . cases h;exact⟨Tryz.f52,Tryz.func52,Ywy,Tryz.f52,Tryz.func52,by kernel_rfl,by kernel_rfl⟩
   . cases h
theorem Yy9:speedC.ok YEC 21:=by
 refine Yc Tryz.func21 YDP YAv 300 speedC fun args k h=>?_
 simp only[speedC]at h
 split at h
 . rename_i t
   refine⟨[.int .i64 t],by simp [leL,le],?_⟩
   dsimp only[v21,Yta,Ytc,Yte,v55,Ytb,Ytd,v52,pspC,go_sem,reduceIte,YEx]
   simp only[Yd,YEx,YEz,reduceCtorEq,YEy]
   refine⟨fun hc=>?_,fun hc=>⟨by decide,[(273150+t,1),(273150, -1)],?_,?_⟩⟩
   . rw[Ybm,if_neg (show¬YH t=true from by rw[show YH t=false from hc];decide)]at h
     exact YiK h
   . rw[YEI,decide_eq_true_eq,decide_eq_true_eq]at hc
     have e1:IntKind.i64.wrap (273150+t)=273150+t:=YED _ (by omega)
     have e2:IntKind.i64.wrap (273150+0)=273150:=by decide
     rw[e1,e2]
     refine⟨rfl,rfl,fun k hk=>?_⟩
     match k,hk with
     |0,_=>exact Yb _
     |1,_=>exact Yb _
   . rw[Ybm,if_pos (show YH t=true from hc)]at h
     exact YiK h
 . exact h.1.elim
def v53:VF:=⟨23,[.tmp 2],(ZR [u1 1 .box [.tm 0],Zi 2 0] (.seq (ZR [Za 3 0 1,Zf 4 1 3,Zq 5 .lss 4 100000,Zm 6 5,Zj 7 6 false 0 1,Zh 8 6 false 1 7,u2 9 6 false (.cmp .gtr) [.tm 8,.cn (.int .i64 1000000)],u1 10 .or [.tm 6,.tm 9],Zm 11 10,Zj 12 11 false 1 1,Zh 13 11 false 1 12,u2 14 11 false (.call 55) [.tm 13],u2 15 11 false .not [.tm 14],u1 16 .or [.tm 11,.tm 15],Zm 17 16,Zj 18 17 false 2 1,Zh 19 17 false 1 18,u2 20 17 false (.call 55) [.tm 19],u2 21 17 false .not [.tm 20],u1 22 .or [.tm 17,.tm 21]] (ZC 22 (ZR [Zi 2 2] .ret) .skip)) (ZR [Zi 2 0] .ret)))⟩
theorem YD1:Yi YEC Tryz.f53=some v53:=by kernel_rfl
def v49:VF:=⟨77,[.tmp 4,.tmp 5],(ZR [u1 4 .mov [.cn .nil],Zi 5 0] (.seq (.draw [(6,.box [(.int .i64 0),(.int .i64 0),(.int .i64 0),(.int .i64 0),(.int .i64 0),(.int .i64 0),(.int .i64 0)])] [Zu 13 0,w1 14 .nilCheck [.tm 13],Zy 15 3 14,Zv 16 1 15,Zu 17 1,w1 18 .rem [.tm 17,.cn (.int .i64 12)],ZX 19 7 16 18,Zw 20 7 19,Zu 21 0,w1 22 .nilCheck [.tm 21],Zy 23 3 22,Zv 24 1 23,w1 25 (.idxAddr 7) [.tm 24,.cn (.int .i64 9)],Zw 26 7 25,Zz 27 79 20 26,Zu 12 27,ZE 28 0 12,ZE 29 1 12,ZS 7 6 28,Zu 7 29]) (ZR [Zt 31 7 6,Zc 32 80 31,Zm 30 32,Ze 33 0 30,Ze 34 1 30,Ze 35 2 30,Zm 8 33,Zm 9 34,Zm 10 35] (.seq (ZR [Zm 36 8,Zl 37 36,Zi 38 0] (.block 0 (.loop (ZR [Zr 39 .lss 38 37] (.seq (ZC 39 .skip (.exit 0)) (.seq (.block 1 (ZR [Zm 40 38,Zm 11 40] (.region [Zm 41 8,Zm 42 11,Zx 43 2 41 42,Za 44 1 43,Zf 45 1 44,u1 46 (.ari .mul) [.tm 45,.cn (.int .i64 2)],Zx 47 2 41 42,Za 48 1 47,Zs 1 48 46]))) (.region [Zp 49 38 1,Zm 38 49]))))))) (.seq (.draw [] [Zu 50 8,Zu 51 9,w1 52 (.ari .mul) [.cn (.int .i64 2),.tm 51],Zu 53 1,w1 54 .quo [.tm 53,.cn (.int .i64 12)],w1 55 (.ari .sub) [.tm 54,.cn (.int .i64 5)],w1 56 (.ari .mul) [.tm 52,.tm 55],w1 57 (.build [(.int .i64 0),(.int .i64 0)] [(0,1),(1,1)]) [.cn (.int .i64 2),.tm 56],Zu 58 0,w1 59 .nilCheck [.tm 58],Zy 60 0 59,Zy 61 2 60,Zv 62 1 61,Zu 63 9,Zu 65 0,w1 66 .nilCheck [.tm 65],Zy 67 0 66,Zy 68 1 67,Zv 69 1 68,Zu 70 9,w1 71 .neg [.tm 70],Zu 75 9,w1 76 (.ari .mul) [.cn (.int .i64 2),.tm 75],Zz 64 52 62 63,Zz 72 52 69 71,w1 73 (.buildSlice 2 3 [(.int .i64 0),(.int .i64 0)] [(0,2),(2,2),(4,2)]) [.tm 57,.tm 64,.tm 72],⟨u1 74 (.append 2 16 [(.int .i64 0),(.int .i64 0)]) [.tm 50,.tm 73],[.tm 9,.tm 75,.tm 75,.tm 76]⟩,Zu 4 74,Zu 5 76]) .ret)))))⟩
theorem YDY:Yi YEC Tryz.f49=some v49:=by kernel_rfl
def chkS(a t0 t:Int):Int:=if a<100000\/1000000<a\/YH t0=false\/YH t=false then 2 else 0
def chkSC:Ctr:={ alias:=false,of:=fun l=>match l with
 | [.agg [.int .i64 a,.int .i64 t0,.int .i64 t]]=> .fin (.int .i64 (chkS a t0 t)) []
 |_=>noC}
def dblT(x:Int×Int):Int×Int:=(x.1,x.2*2)
def YcI(L:Nat->Rt)(note:Int):Rt:=(Ya6 (L (note%12).toNat) (L 9) (-1)).1
def trmL(r:Rt):List (Int×Int):=if chkR r=0 then Yg r else []
def trmD(r:Rt):Int:=if chkR r=0 then r.n else 0
def Yn(L:Nat->Rt)(t0 t note:Int):List (Int×Int)×Int:=
 ((trmL (YcI L note)).map dblT++[(2,2*trmD (YcI L note)*(note/12-5)),(273150+t,trmD (YcI L note)),(273150+t0, -trmD (YcI L note))],2*trmD (YcI L note))
def dblA(l:List (Int×Int))(i k:Nat):Int×Int:=if k<i then dblT (l.getD k default)else l.getD k default
theorem Yim{r:Rt}(h:chkR r=0):∀x,x∈Yg r-> -100000<=x.2/\x.2<=100000:=by
 obtain⟨_,h1,h2,h3,h4,h5,h6,_⟩:=Yff h
 have key:∀(p n:Int),badN n=false->∀x,x∈tm1 p n-> -100000<=x.2/\x.2<=100000:=fun p n hn x hx=>by
   unfold tm1 at hx
   split at hx
   . cases hx
   . rw[YFg]at hx;subst hx;exact YbY hn
 intro x hx
 simp only[Yg,YE3]at hx
 rcases hx with hx|hx|hx|hx|hx|hx
 . exact key _ _ h1 x hx
 . exact key _ _ h2 x hx
 . exact key _ _ h3 x hx
 . exact key _ _ h4 x hx
 . exact key _ _ h5 x hx
 . exact key _ _ h6 x hx
theorem YsI{a b c d e f:Int}{k:Nat}(hk:k<3):lenL (Yx 2 (Yt (k*2) [SV.int .i64 a,SV.int .i64 b,SV.int .i64 c,SV.int .i64 d,SV.int .i64 e,SV.int .i64 f]))=2/\ones (Yx 2 (Yt (k*2) [SV.int .i64 a,SV.int .i64 b,SV.int .i64 c,SV.int .i64 d,SV.int .i64 e,SV.int .i64 f])):=by
 rcases(show k=0\/k=1\/k=2 by omega)with rfl|rfl|rfl <;> exact⟨rfl,trivial,trivial,trivial⟩
def termC:Ctr:={ alias:=false,of:=fun l=>match l with
 | [.xp _ [.int .i64 _,.int .i64 t0,.int .i64 t,.vs _ _ n sz get],.int .i64 note]=> .ex (Nat->Rt) fun L=> .pre ((n=12/\sz=7/\∀k,k<12->leXL (get k) (encR (L k)))/\(0<=note/\note<=139)/\YH t0=true/\YH t=true)
     (.fin (.tup [.vs true false (Yn L t0 t note).1.length 2 (fun k=>enc2 ((Yn L t0 t note).1.getD k default)),.int .i64 (Yn L t0 t note).2]) [])
 |_=>noC}
def valdC:Ctr:={ alias:=false,of:=fun l=>match l with
 | [.int .i64 t]=> .fin (.bool (YH t)) []
 |_=> .pre False (.fin (.bool false) [])}
def TIv:Env:={ ct:=fun _=>none,fn:=fun _=>none,meth:=fun _ _=>none}
theorem YvB:Ys YEC TIv:=by
 refine⟨fun f c h=>?_,fun f vf h=>?_,(fun _ _ _ h=>by cases h),by kernel_rfl,(fun _ h=>by cases h)⟩
 . cases h
 . cases h
theorem YEq:valdC.ok YEC 55:=by
 refine Yc Tryz.func55 Ywz YvB 300 valdC fun args k h=>?_
 simp only[valdC]at h
 split at h
 . rename_i t
   refine⟨[.int .i64 t],by simp [leL,le],?_⟩
   dsimp only[v55,go_sem,reduceIte,YEx]
   simp only[Yd,YEx,YEz,reduceCtorEq,YEy]
   exact YC h
 . exact h.1.elim
def TI0:Env:={ ct:=fun n=>match n with|55=>some valdC|_=>none,fn:=fun _=>none,meth:=fun _ _=>none}
theorem Ytj:TI0.ct 55=some valdC:=rfl
theorem YAM:Ys YEC TI0:=by
 refine⟨fun f c h=>?_,fun f vf h=>?_,(fun _ _ _ h=>by cases h),by kernel_rfl,(fun _ h=>by cases h)⟩
 . simp only[TI0]at h
   split at h
   . cases h;exact⟨YEq,Tryz.f55,Tryz.func55,by kernel_rfl,by kernel_rfl⟩
   . cases h
 . cases h
theorem Yno:chkSC.ok YEC 53:=by
 refine Yc Tryz.func53 YD1 YAM 300 chkSC fun args k h=>?_
 simp only[chkSC]at h
 split at h
 . rename_i a t0 t
   refine⟨[.agg [.int .i64 a,.int .i64 t0,.int .i64 t]],by simp [leL,le],?_⟩
   dsimp only[v53,Ytj,valdC,go_sem,reduceIte,YEx]
   simp only[Yd,YEx,YEz,reduceCtorEq,YEy]
   have h:k (.int .i64 (chkS a t0 t)) []:=h
   refine⟨fun hc=>?_,fun hc=>?_⟩
   . rw[chkS,if_pos (by simpa [or_assoc]using hc)]at h;exact Yp h
   . rw[chkS,if_neg (by simpa [or_assoc,and_assoc]using hc)]at h;exact Yp h
 . exact h.1.elim
def warmC:Ctr:={ alias:=false,of:=fun l=>match l with
 | [.int .i64 t,.int .i64 num]=> .pre (YH t=true) (.fin (.agg [.int .i64 (273150+t),.int .i64 num]) [])
 |_=>noC}
theorem Yar{t:Int}(h:YH t=true): -20000<=t/\t<=50000:=by simpa [YH]using h
theorem YsT:warmC.ok YEC 52:=by
 refine Yc Tryz.func52 Ywy YvB 300 warmC fun args k h=>?_
 simp only[warmC]at h
 split at h
 . rename_i t num
   obtain⟨ht,h⟩:=h
   have ht:=Yar ht
   refine⟨[.int .i64 t,.int .i64 num],by simp [leL,le],?_⟩
   dsimp only[v52,go_sem,reduceIte,YEx]
   simp only[Yd,YEx,YEz,reduceCtorEq,YEy]
   rw[YED (273150+t) (by omega)]
   exact YiJ h
 . exact h.1.elim
def TI1:Env:={ ct:=fun n=>match n with|79=>some YaT|80=>some trmC|52=>some warmC|_=>none,fn:=fun _=>none,meth:=fun _ _=>none}
theorem YeB:TI1.ct 79=some YaT:=rfl
theorem YeC:TI1.ct 80=some trmC:=rfl
theorem YeA:TI1.ct 52=some warmC:=rfl
theorem YAN:Ys YEC TI1:=by
 refine⟨fun f c h=>?_,fun f vf h=>?_,(fun _ _ _ h=>by cases h),by kernel_rfl,(fun _ h=>by cases h)⟩
 . simp only[TI1]at h
   split at h
   . cases h;exact⟨YvM,Tryz.f79,Tryz.func79,by kernel_rfl,by kernel_rfl⟩
   . cases h;exact⟨YDI,Tryz.f80,Tryz.func80,by kernel_rfl,by kernel_rfl⟩
   . cases h;exact⟨YsT,Tryz.f52,Tryz.func52,by kernel_rfl,by kernel_rfl⟩
   . cases h
 . cases h
theorem Yos:termC.ok YEC 49:=by
 refine Yc Tryz.func49 YDY YAN 600 termC fun args k h=>?_
 simp only[termC]at h
 split at h
 . rename_i tt a t0 t tv zv n sz get note
   obtain⟨L,⟨⟨rfl,rfl,hg⟩,hn,h0,h1⟩,h⟩:=h
   refine⟨[.xp tt [.int .i64 a,.int .i64 t0,.int .i64 t,.vs tv zv 12 7 (fun k=>encR (L k))],.int .i64 note],?_,?_⟩
   . simp only[Ygc,Yjo,YuB,YnT,and_true,true_and]
     exact⟨id,⟨rfl,rfl⟩,⟨rfl,rfl⟩,⟨rfl,rfl⟩,⟨id,rfl,rfl,rfl,hg⟩,trivial⟩
   dsimp only[v49,Ybc,YeB,YeC,YaT,Ydf,trmC,encR,YeA,warmC,go_sem,reduceIte,YEx]
   simp only[Yd,YEx,YEz,reduceCtorEq,YEy]
   obtain⟨m,rfl⟩:∃m:Nat,note=(m:Int):=⟨note.toNat,by omega⟩
   have em:(m:Int).tmod 12=((m%12:Nat):Int):=by rw[Int.tmod_eq_emod_of_nonneg (by omega)];omega
   simp only[em,YEB]
   obtain⟨r,hr⟩:∃r,r=YcI L m:=⟨_,rfl⟩
   have hr':(Ya6 (L (m%12)) (L (Int.toNat 9)) (-1)).1=r:=by rw[hr,YcI,show((m:Int)%12).toNat=m%12 by omega];rfl
   simp only[hr']
   refine⟨by decide,⟨by omega,by omega⟩,by decide,by decide,by decide,?_⟩
   by_cases hc:chkR r=0
   . rw[if_neg (fun hh=>hh hc)]
     dsimp only[Ybc,YeB,YeC,YaT,Ydf,trmC,encR,YeA,warmC,go_sem,reduceIte,YEx]
     simp only[Yd,YEx,YEz,reduceCtorEq,YEy]
     intro z
     refine⟨by decide,by decide,by decide,?_⟩
     have hlen:=YbB r
     refine Loop.keep [0,0,2,0,2,0,27] Nat (fun i=>[(38,.int .i64 i)]) (fun i=>[(2,.own z 2 (Yg r).length (fun k=>enc2 (dblA (Yg r) i k)))]) [] (fun i=>i<=(Yg r).length) (fun i=>(Yg r).length-i) ?_ ?_
     . refine⟨0,Nat.zero_le _,?_⟩
       dsimp only[enc2,go_sem,reduceIte,YEx]
       simp only[Ya]
       refine⟨⟨by decide,rfl⟩,fun k hk=>?_⟩
       rw[dblA,if_neg (Nat.not_lt_zero _)]
       exact⟨rfl,rfl⟩
     . rintro i hi
       dsimp only[Ybc,YeB,YeC,YaT,Ydf,trmC,encR,YeA,warmC,enc2,YEB,go_sem,reduceIte,YEx]
       simp only[Yd,YEx,YEz,reduceCtorEq,YEy]
       refine⟨fun hlt=>?_,fun hge=>?_⟩
       . have hil:i<(Yg r).length:=by omega
         have hx:=Yim hc _ (YN hil)
         have ei:dblA (Yg r) i i=(Yg r).getD i default:=if_neg (Nat.lt_irrefl _)
         rw[ei,YED (((Yg r).getD i default).2*2) (by omega),YaQ hil (by omega)]
         refine⟨⟨by omega,by omega⟩,hil,⟨by omega,by omega⟩,hil,i+1,by omega,by omega,?_⟩
         simp only[Ya]
         refine⟨by decide,fun k hk=>?_⟩
         by_cases hki:k=i
         . subst hki
           rw[if_pos rfl,dblA,if_pos (by omega)]
           exact⟨⟨rfl,rfl⟩,⟨rfl,rfl⟩,trivial⟩
         . rw[if_neg hki]
           have:dblA (Yg r) (i+1) k=dblA (Yg r) i k:=by
             unfold dblA
             by_cases h1:k<i
             . rw[if_pos h1,if_pos (by omega)]
             . rw[if_neg h1,if_neg (by omega)]
           rw[this]
           exact⟨⟨rfl,rfl⟩,⟨rfl,rfl⟩,trivial⟩
       . obtain rfl:i=(Yg r).length:=by omega
         have hd:=Yfy hc
         have e1:IntKind.i64.wrap (2*r.n)=2*r.n:=YED _ (by omega)
         have e2:IntKind.i64.wrap (IntKind.i64.wrap ((m:Int).tdiv 12)-5)=(m:Int)/12-5:=by
           rw[Int.tdiv_eq_ediv_of_nonneg (by omega),YED ((m:Int)/12) (by omega),YED _ (by omega)]
         have hm:=Yam (x:=2*r.n) (y:=(m:Int)/12-5) (X:=2000) (Y:=20) (by omega) (by omega)
         have e3:IntKind.i64.wrap (2*r.n*((m:Int)/12-5))=2*r.n*((m:Int)/12-5):=YED _ (by omega)
         have e4:IntKind.i64.wrap (0-r.n)= -r.n:=by rw[YED _ (by omega)];omega
         rw[e1,e2,e3,e4]
         refine⟨by decide,h1,h0,by decide,⟨by unfold YW;omega,fun k hk=>YsI hk⟩,?_⟩
         have hT:Yn L t0 t m=((Yg r).map dblT++[(2,2*r.n*((m:Int)/12-5)),(273150+t,r.n),(273150+t0, -r.n)],2*r.n):=by
           rw[Yn,<-hr,trmL,if_pos hc,trmD,if_pos hc]
         refine YI (show k _ []from h) ?_ (fun _=>by simp [Ym,Yo,enc2])
         rw[hT]
         dsimp only[expo,go_sem,reduceIte,YEx]
         simp only[Ya]
         refine⟨by simp,by simp,fun q hq=>?_⟩
         by_cases h2:q<(Yg r).length
         . simp only[if_pos h2,dblA]
           rw[YL (by simpa using h2),Yl1 h2]
           exact Yb _
         . simp only[if_neg h2]
           rw[YM (by simp;omega),List.length_map]
           rcases(show q-(Yg r).length=0\/q-(Yg r).length=1\/q-(Yg r).length=2 by omega)with e|e|e <;> (rw[e];exact Yb _)
   . rw[if_pos hc]
     dsimp only[Ybc,YeB,YeC,YaT,Ydf,trmC,encR,YeA,warmC,go_sem,reduceIte,YEx]
     simp only[Yd,YEx,YEz,reduceCtorEq,YEy]
     refine⟨by decide,by decide,by decide,?_⟩
     refine Loop.keep [0,0,2,0,2,0,27] Nat (fun i=>[(38,.int .i64 i)]) (fun _=>[]) [] (fun i=>i=0) (fun i=>i) ?_ ?_
     . refine⟨0,rfl,?_⟩
       dsimp only[go_sem,reduceIte,YEx]
       simp only[Ya]
       rfl
     . rintro i rfl
       dsimp only[Ybc,YeB,YeC,YaT,Ydf,trmC,encR,YeA,warmC,enc2,YEB,go_sem,reduceIte,YEx]
       simp only[Yd,YEx,YEz,reduceCtorEq,YEy]
       have e2:IntKind.i64.wrap (IntKind.i64.wrap ((m:Int).tdiv 12)-5)=(m:Int)/12-5:=by
         rw[Int.tdiv_eq_ediv_of_nonneg (by omega),YED ((m:Int)/12) (by omega),YED _ (by omega)]
       have e3:IntKind.i64.wrap (IntKind.i64.wrap (2*0)*((m:Int)/12-5))=2*0*((m:Int)/12-5):=by
         rw[show IntKind.i64.wrap (2*0)=0 by decide,Int.mul_zero,Int.zero_mul];decide
       rw[e2,e3]
       refine⟨fun hh=>absurd hh (by decide),fun _=>⟨by decide,h1,h0,by decide,⟨by unfold YW;omega,fun k hk=>YsI hk⟩,?_⟩⟩
       have hT:Yn L t0 t m=([(2,2*0*((m:Int)/12-5)),(273150+t,0),(273150+t0, -0)],2*0):=by
         rw[Yn,<-hr,trmL,if_neg hc,trmD,if_neg hc];rfl
       refine YI (show k _ []from h) ?_ (fun _=>by simp [Ym,Yo,enc2])
       rw[hT]
       dsimp only[expo,go_sem,reduceIte,YEx]
       simp only[Ya]
       refine⟨⟨by decide,rfl,fun q hq=>?_⟩,by decide⟩
       rw[show IntKind.i64.wrap (0-0)= -0 by decide]
       rcases(show q=0\/q=1\/q=2 by omega)with rfl|rfl|rfl <;> exact Yb _
 . exact h.1.elim
def v26:VF:=⟨19,[.cell 6 true 2],(ZR [Zn 6] (ZR [Zm 10 0,Zm 11 1,Zd 12 49 10 11,Zm 9 12,Ze 13 0 9,Ze 14 1 9,Zm 7 13,Zm 8 14] (ZR [Zm 15 2,Zm 16 8,Zm 17 7,u1 18 (.call 50) [.tm 15,.tm 16,.tm 17],Zs 2 6 18] .ret)))⟩
theorem YDS:Yi YEC Tryz.f26=some v26:=by kernel_rfl
def v24:VF:=⟨31,[.cell 8 true 2,.tmp 9],(ZR [u1 4 .box [.tm 0],u1 5 .box [.tm 1],Zn 8,Zi 9 0] (ZR [Zt 13 3 4,Zt 14 27 5,Zd 15 56 13 14,Zm 12 15,Ze 16 0 12,Ze 17 1 12,Zm 10 16,Zm 11 17] (.seq (.block 0 (ZR [Zm 19 11,Zq 20 .neq 19 0,Zm 18 20] (ZC 18 (ZR [u1 21 (.build [(.int .i64 0),(.int .i64 0)] []) [],Zm 22 11,Zs 2 8 21,Zm 9 22] .ret) (ZR [Zm 24 2,Zc 25 62 24,u1 26 .not [.tm 25],Zm 23 26] (ZC 23 (ZR [u1 27 (.build [(.int .i64 0),(.int .i64 0)] []) [],Zs 2 8 27,Zi 9 2] .ret) .skip))))) (ZR [Zm 28 3,Zm 29 10,u1 30 .callv [.tm 28,.tm 29],Zs 2 8 30,Zi 9 0] .ret))))⟩
theorem Ywx:Yi YEC Tryz.f24=some v24:=by kernel_rfl
def v56:VF:=⟨26,[.tmp 4,.tmp 5],(ZR [u1 2 .box [.tm 0],u1 3 .box [.tm 1],u1 4 .mov [.cn (.val (.pointer none))],Zi 5 0] (.seq (ZR [Zt 9 3 2,Zc 10 53 9,Zm 6 10] (ZR [Zm 11 6,Zq 12 .neq 11 0] (ZC 12 (ZR [Zm 13 6,u1 4 .mov [.cn (.val (.pointer none))],Zm 5 13] .ret) .skip))) (ZR [Zt 15 27 3,Zc 16 87 15,Zm 14 16,Ze 17 0 14,Ze 18 1 14,Zm 7 17,Zm 8 18] (.seq (ZR [Zm 19 8,Zq 20 .neq 19 0] (ZC 20 (ZR [Zm 21 8,u1 4 .mov [.cn (.val (.pointer none))],Zm 5 21] .ret) .skip)) (ZR [Zt 22 3 2,Zm 23 7,u1 24 (.build [(.int .i64 0),(.int .i64 0),(.int .i64 0),.nil] [(0,3),(3,1)]) [.tm 22,.tm 23],u1 25 .box [.tm 24],Zm 4 25,Zi 5 0] .ret)))))⟩
theorem YsQ:Yi YEC Tryz.f56=some v56:=by kernel_rfl
def v62:VF:=⟨9,[.tmp 2],(ZR [u1 2 .mov [.cn (.bool false)]] (ZR [Zm 3 0,Zq 4 .geq 3 0,Zm 5 4,Zg 6 5 true 0,u2 7 5 true (.cmp .leq) [.tm 6,.cn (.int .i64 139)],u1 8 .and [.tm 5,.tm 7],Zm 2 8] .ret))⟩
theorem YwA:Yi YEC Tryz.f62=some v62:=by kernel_rfl
theorem YfX(T:Tm):Yx 27 (encT T)=encT T:=rfl
theorem lenT(T:Tm):lenL (encT T)=27:=rfl
def Yc7(L:Nat->Rt)(t0 t note u:Int):Int×Int:=pspF u (Yn L t0 t note).1 (Yn L t0 t note).2
def freqC:Ctr:={ alias:=false,of:=fun l=>match l with
 | [.xp _ [.int .i64 _,.int .i64 t0,.int .i64 t,.vs _ _ n sz get],.int .i64 note,.int .i64 u]=> .ex (Nat->Rt) fun L=> .pre ((n=12/\sz=7/\∀k,k<12->leXL (get k) (encR (L k)))/\(0<=note/\note<=139)/\YH t0=true/\YH t=true)
     (.fin (.agg [.int .i64 (Yc7 L t0 t note u).1,.int .i64 (Yc7 L t0 t note u).2]) [])
 |_=>noC}
theorem YdA(L:Nat->Rt)(t0 t note:Int):3<=(Yn L t0 t note).1.length/\(Yn L t0 t note).1.length<=9:=by
 have:(trmL (YcI L note)).length<=6:=by
   unfold trmL;split
   . exact YbB _
   . simp
 simp only[Yn,YE8,List.length_map,YFb,YFh]
 omega
def TJ0:Env:={ ct:=fun n=>match n with|49=>some termC|50=>some pspC|_=>none,fn:=fun _=>none,meth:=fun _ _=>none}
theorem Ytk:TJ0.ct 49=some termC:=rfl
theorem Ytl:TJ0.ct 50=some pspC:=rfl
theorem YAO:Ys YEC TJ0:=by
 refine⟨fun f c h=>?_,fun f vf h=>?_,(fun _ _ _ h=>by cases h),by kernel_rfl,(fun _ h=>by cases h)⟩
 . simp only[TJ0]at h
   split at h
   . cases h;exact⟨Yos,Tryz.f49,Tryz.func49,by kernel_rfl,by kernel_rfl⟩
   . cases h;exact⟨Yyy,Tryz.f50,Tryz.func50,by kernel_rfl,by kernel_rfl⟩
   . cases h
 . cases h
theorem YBH:freqC.ok YEC 26:=by
 refine Yc Tryz.func26 YDS YAO 600 freqC fun args k h=>?_
 simp only[freqC]at h
 split at h
 . rename_i tt a t0 t tv zv n sz get note u
   obtain⟨L,⟨⟨rfl,rfl,hg⟩,hn,h0,h1⟩,h⟩:=h
   refine⟨[.xp tt [.int .i64 a,.int .i64 t0,.int .i64 t,.vs tv zv 12 7 (fun k=>encR (L k))],.int .i64 note,.int .i64 u],?_,?_⟩
   . simp only[Ygc,Yjo,YuB,YnT,and_true,true_and]
     exact⟨id,⟨rfl,rfl⟩,⟨rfl,rfl⟩,⟨rfl,rfl⟩,⟨id,rfl,rfl,rfl,hg⟩,trivial⟩
   have hl:=YdA L t0 t note
   dsimp only[v26,Ytk,Ytl,termC,pspC,go_sem,reduceIte,YEx]
   simp only[Yd,YEx,YEz,reduceCtorEq,YEy]
   refine⟨L,⟨fun q _=>Yb _,hn,h0,h1⟩,by decide,by decide,(Yn L t0 t note).1,⟨⟨rfl,rfl,fun q _=>Yb _⟩,by omega,by omega⟩,?_⟩
   exact YiJ (show k _ []from h)
 . exact h.1.elim
theorem Ybi{a t0 t:Int}(h:chkS a t0 t=0):(100000<=a/\a<=1000000)/\YH t0=true/\YH t=true:=by
 unfold chkS at h
 split at h
 . cases h
 . rename_i hn
   simp only[not_or,Bool.not_eq_false]at hn
   exact⟨by omega,hn.2.2.1,hn.2.2.2⟩
abbrev Iv:=Int×Int
def numOk(x:Int):Bool:=decide (-4611686018427387904<=x)&&decide (x<=4611686018427387904)
def rndT(up:Bool)(x d:Int):Int:=if up then -((-x)/d)else x/d
def rndB(t:Int):Int×Bool:=if -4611686018427387904<=t/\t<=4611686018427387904 then(t,true)else(0,false)
def rndF(up:Bool)(x d:Int):Int×Bool:=rndB (rndT up x d)
def Yx9(x:Int)(n:Bool)(h l:Int):Prop:=n=decide (x<0)/\h=((x.natAbs/18446744073709551616:Nat):Int)/\l=((x.natAbs%18446744073709551616:Nat):Int)
def big(x:Int):Prop:=x.natAbs<340282366920938463463374607431768211456
def numC:Ctr:={ alias:=false,of:=fun l=>match l with| [.int .i64 n]=> .fin (.bool (numOk n)) [] |_=>noC}
def sizC:Ctr:={ alias:=false,of:=fun l=>match l with
 | [.int .i64 n]=> .pre (-9223372036854775808<=n/\n<=9223372036854775807) (.fin (.int .u64 (n.natAbs:Int)) [])
 |_=>noC}
def lessC:Ctr:={ alias:=false,of:=fun l=>match l with
 | [.agg [.bool n,.int .u64 h,.int .u64 lo],.agg [.bool n',.int .u64 h',.int .u64 lo']]=> .ex Int fun x=> .ex Int fun y=> .pre (Yx9 x n h lo/\Yx9 y n' h' lo') (.fin (.bool (decide (x<y))) [])
 |_=>noC}
def overC:Ctr:={ alias:=false,of:=fun l=>match l with
 | [.agg [.bool n,.int .u64 h,.int .u64 lo],.int .u64 d,.bool up]=> .ex Int fun x=> .pre (Yx9 x n h lo/\big x/\0<d/\d<=18446744073709551615) (.fin (.tup [.int .i64 (rndF up x d).1,.bool (rndF up x d).2]) [])
 |_=>noC}
def P1:Env:={ ct:=fun n=>match n with|38=>some numC|70=>some sizC|69=>some mul64C|93=>some YBv|_=>none,fn:=fun _=>none,meth:=fun _ _=>none}
def P2:Env:={ ct:=fun n=>match n with|38=>some numC|68=>some lessC|66=>some overC|_=>none,fn:=fun _=>none,meth:=fun _ _=>none}
def v59:VF:=⟨12,[.tmp 2,.tmp 3],(ZR [Zi 2 0,Zi 3 0] (.seq (ZR [Zm 5 0,Zc 6 81 5,Zm 4 6] (ZR [Zm 7 4,Zq 8 .neq 7 0] (ZC 8 (ZR [Zm 9 4,Zi 2 0,Zm 3 9] .ret) .skip))) (ZR [Zm 10 0,Zc 11 84 10,Zm 2 11,Zi 3 0] .ret)))⟩
theorem YD5:Yi YEC Tryz.f59=some v59:=by kernel_rfl
def sgnF(l:List (Int×Int)):Int×Int:=if Ycx l≠0 then(0,Ycx l)else(Yaz l,0)
def sgnC:Ctr:={ alias:=false,of:=fun l=>match l with
 | [.vs _ _ n sz get]=> .ex (List (Int×Int)) fun l=> .pre (lsP 2 enc2 n sz get l/\n<=1000000000000) (.fin (.tup [.int .i64 (sgnF l).1,.int .i64 (sgnF l).2]) [])
 |_=>noC}
def TK0:Env:={ ct:=fun n=>match n with|81=>some chkTC|84=>some signC|_=>none,fn:=fun _=>none,meth:=fun _ _=>none}
theorem Ytm:TK0.ct 81=some chkTC:=rfl
theorem Ytn:TK0.ct 84=some signC:=rfl
theorem YAP:Ys YEC TK0:=by
 refine⟨fun f c h=>?_,fun f vf h=>?_,(fun _ _ _ h=>by cases h),by kernel_rfl,(fun _ h=>by cases h)⟩
 . simp only[TK0]at h
   split at h
   . cases h;exact⟨Yqu,Tryz.f81,Tryz.func81,by kernel_rfl,by kernel_rfl⟩
   . cases h;exact⟨Ysu,Tryz.f84,Tryz.func84,by kernel_rfl,by kernel_rfl⟩
   . cases h
 . cases h
theorem YDx:sgnC.ok YEC 59:=by
 refine Yc Tryz.func59 YD5 YAP 600 sgnC fun args k h=>?_
 simp only[sgnC]at h
 split at h
 . rename_i tt z n sz get
   obtain⟨l,⟨⟨rfl,rfl,hg⟩,hn⟩,h⟩:=h
   refine⟨[.vs tt z l.length 2 (fun k=>enc2 (l.getD k default))],⟨⟨id,rfl,rfl,rfl,hg⟩,trivial⟩,?_⟩
   dsimp only[v59,Ytm,Ytn,chkTC,signC,enc2,go_sem,reduceIte,YEx]
   simp only[Yd,YEx,YEz,reduceCtorEq,YEy]
   refine⟨l,⟨⟨rfl,rfl,fun q _=>Yb _⟩,by omega⟩,fun hc=>?_,fun hc=>?_⟩
   . rw[sgnF,if_pos hc]at h
     exact YcU h
   . rw[sgnF,if_neg (fun hh=>hh hc)]at h
     obtain⟨hl,hn⟩:=YiW hc
     refine⟨l,⟨⟨rfl,rfl,fun q _=>Yb _⟩,fun x hx=>?_,by omega⟩,YcU h⟩
     have:=hl x hx
     simp only[okT0,YE9,decide_eq_false_iff_not]at this
     unfold okT;omega
 . exact h.1.elim
structure Prt where
 a:Iv
 b:Iv
 e:Int
def v75:VF:=⟨9,[.tmp 2],(ZR [u1 2 .mov [.cn (.bool false)]] (ZR [Zm 3 0,Zq 4 .geq 3 (-20000),Zm 5 4,Zg 6 5 true 0,u2 7 5 true (.cmp .leq) [.tm 6,.cn (.int .i64 50000)],u1 8 .and [.tm 5,.tm 7],Zm 2 8] .ret))⟩
theorem YD9:Yi YEC Tryz.f75=some v75:=by kernel_rfl
def v44:VF:=⟨23,[.tmp 2],(ZR [u1 1 .box [.tm 0],Zi 2 0] (.seq (ZR [Za 3 0 1,Zf 4 1 3,Zq 5 .lss 4 100000,Zm 6 5,Zj 7 6 false 0 1,Zh 8 6 false 1 7,u2 9 6 false (.cmp .gtr) [.tm 8,.cn (.int .i64 1000000)],u1 10 .or [.tm 6,.tm 9],Zm 11 10,Zj 12 11 false 1 1,Zh 13 11 false 1 12,u2 14 11 false (.call 75) [.tm 13],u2 15 11 false .not [.tm 14],u1 16 .or [.tm 11,.tm 15],Zm 17 16,Zj 18 17 false 2 1,Zh 19 17 false 1 18,u2 20 17 false (.call 75) [.tm 19],u2 21 17 false .not [.tm 20],u1 22 .or [.tm 17,.tm 21]] (ZC 22 (ZR [Zi 2 2] .ret) .skip)) (ZR [Zi 2 0] .ret)))⟩
theorem YDT:Yi YEC Tryz.f44=some v44:=by kernel_rfl
def v77:VF:=⟨12,[.tmp 4],(ZR [Zi 4 0] (.seq (.block 0 (.loop (.seq (ZR [Zm 5 1,Zq 6 .neq 5 0] (ZC 6 .skip (.exit 0))) (.block 1 (.draw [] [Zu 7 1,Zu 8 0,Zu 9 1,w1 10 .rem [.tm 8,.tm 9],Zu 0 7,Zu 1 10]))))) (ZR [Zm 11 0,Zm 4 11] .ret)))⟩
theorem YEb:Yi YEC Tryz.f77=some v77:=by kernel_rfl
def v45:VF:=⟨92,[.tmp 2],(ZR [u1 1 .box [.tm 0],Zi 2 0] (.seq (ZR [Za 8 2 1,Zf 9 1 8,Zq 10 .lss 9 0,Zm 11 10,Zj 12 11 false 2 1,Zh 13 11 false 1 12,u2 14 11 false (.cmp .gtr) [.tm 13,.cn (.int .i64 11)],u1 15 .or [.tm 11,.tm 14]] (ZC 15 (ZR [Zi 2 2] .ret) .skip)) (.seq (ZR [Zi 3 0] (.block 0 (.loop (.seq (ZR [Zm 16 3,Zq 17 .lss 16 12] (ZC 17 .skip (.exit 0))) (.seq (.block 1 (ZR [Zm 20 3,Za 21 3 1,u1 22 (.idxArr 12 2) [.tm 21,.tm 20],Zt 23 2 22,Zn 4,Zs 2 4 23] (ZR [Za 24 1 4,Zf 25 1 24,Zq 26 .lss 25 1,Zm 27 26,Zj 28 27 false 1 4,Zh 29 27 false 1 28,u2 30 27 false (.cmp .gtr) [.tm 29,.cn (.int .i64 24)],u1 31 .or [.tm 27,.tm 30],Zm 32 31,Zj 33 32 false 0 4,Zh 34 32 false 1 33,Zj 35 32 false 1 4,Zh 36 32 false 1 35,u2 37 32 false (.ari .mul) [.cn (.int .i64 (-2)),.tm 36],u2 38 32 false (.cmp .lss) [.tm 34,.tm 37],u1 39 .or [.tm 32,.tm 38],Zm 40 39,Zj 41 40 false 0 4,Zh 42 40 false 1 41,Zj 43 40 false 1 4,Zh 44 40 false 1 43,u2 45 40 false (.ari .mul) [.cn (.int .i64 2),.tm 44],u2 46 40 false (.cmp .gtr) [.tm 42,.tm 45],u1 47 .or [.tm 40,.tm 46]] (ZC 47 (ZR [Zi 2 2] .ret) .skip)))) (.region [Zm 18 3,Zp 19 18 1,Zm 3 19])))))) (.seq (ZR [Za 48 0 1,Zf 49 1 48,Zc 50 76 49,u1 51 .not [.tm 50],Zm 52 51,Zj 53 52 false 2 1,Zh 54 52 false 1 53,Zj 55 52 false 3 1,u2 56 52 false (.idxArr 12 2) [.tm 55,.tm 54],u2 57 52 false (.load true 2) [.tm 56],u2 58 52 false (.build [(.int .i64 0),(.int .i64 0)] [(0,1),(1,1)]) [.cn (.int .i64 0),.cn (.int .i64 1)],u2 59 52 false (.eqv true [true,true]) [.tm 57,.tm 58],u1 60 .or [.tm 52,.tm 59]] (ZC 60 (ZR [Zi 2 6] .ret) .skip)) (ZR [Zi 5 1] (.seq (ZR [Zi 6 0] (.block 2 (.loop (.seq (ZR [Zm 61 6,Zq 62 .lss 61 12] (ZC 62 .skip (.exit 2))) (.seq (.block 3 (ZR [Zm 65 6,Za 66 3 1,u1 67 (.idxArr 12 2) [.tm 66,.tm 65],Zt 68 2 67,Zn 7,Zs 2 7 68] (.seq (ZR [Za 69 0 7,Zf 70 1 69,Za 71 0 7,Zf 72 1 71,u1 73 .neg [.tm 72],u1 74 .max [.tm 70,.tm 73],Za 75 1 7,Zf 76 1 75,Zd 77 77 74 76,Zq 78 .neq 77 1] (ZC 78 (ZR [Zi 2 6] .ret) .skip)) (ZR [Zm 79 5,Zq 80 .leq 79 120] (ZC 80 (.draw [] [Zu 81 5,Zu 82 5,Zy 83 1 7,Zv 84 1 83,Zy 87 1 7,Zv 88 1 87,Zz 85 77 82 84,w1 86 .quo [.tm 81,.tm 85],w1 89 (.ari .mul) [.tm 86,.tm 88],Zu 5 89]) .skip))))) (.region [Zm 63 6,Zp 64 63 1,Zm 6 64])))))) (.seq (ZR [Zm 90 5,Zq 91 .gtr 90 120] (ZC 91 (ZR [Zi 2 7] .ret) .skip)) (ZR [Zi 2 0] .ret))))))))⟩
theorem YDU:Yi YEC Tryz.f45=some v45:=by kernel_rfl
def TT0:Env:={ ct:=fun _=>none,fn:=fun _=>none,meth:=fun _ _=>none}
theorem YvD:Ys YEC TT0:=by
 refine⟨fun f c h=>?_,fun f vf h=>?_,(fun _ _ _ h=>by cases h),by kernel_rfl,(fun _ h=>by cases h)⟩
 . cases h
 . cases h
theorem YDG:valdC.ok YEC 75:=by
 refine Yc Tryz.func75 YD9 YvD 300 valdC fun args k h=>?_
 simp only[valdC]at h
 split at h
 . rename_i t
   refine⟨[.int .i64 t],by simp [leL,le],?_⟩
   dsimp only[v75,go_sem,reduceIte,YEx]
   simp only[Yd,YEx,YEz,reduceCtorEq,YEy]
   exact YC h
 . exact h.1.elim
def TT1:Env:={ ct:=fun n=>match n with|75=>some valdC|_=>none,fn:=fun _=>none,meth:=fun _ _=>none}
theorem Ytp:TT1.ct 75=some valdC:=rfl
theorem YAS:Ys YEC TT1:=by
 refine⟨fun f c h=>?_,fun f vf h=>?_,(fun _ _ _ h=>by cases h),by kernel_rfl,(fun _ h=>by cases h)⟩
 . simp only[TT1]at h
   split at h
   . cases h;exact⟨YDG,Tryz.f75,Tryz.func75,by kernel_rfl,by kernel_rfl⟩
   . cases h
 . cases h
theorem YvL:chkSC.ok YEC 44:=by
 refine Yc Tryz.func44 YDT YAS 300 chkSC fun args k h=>?_
 simp only[chkSC]at h
 split at h
 . rename_i a t0 t
   refine⟨[.agg [.int .i64 a,.int .i64 t0,.int .i64 t]],by simp [leL,le],?_⟩
   dsimp only[v44,Ytp,valdC,go_sem,reduceIte,YEx]
   simp only[Yd,YEx,YEz,reduceCtorEq,YEy]
   have h:k (.int .i64 (chkS a t0 t)) []:=h
   refine⟨fun hc=>?_,fun hc=>?_⟩
   . rw[chkS,if_pos (by simpa [or_assoc]using hc)]at h;exact Yp h
   . rw[chkS,if_neg (by simpa [or_assoc,and_assoc]using hc)]at h;exact Yp h
 . exact h.1.elim
theorem YBK:tgcdC.ok YEC 77:=by
 refine Yc Tryz.func77 YEb YvD 100 tgcdC fun args k h=>?_
 simp only[tgcdC]at h
 split at h
 . rename_i a b
   obtain⟨x,y,⟨rfl,rfl,hx,hy⟩,h⟩:=h
   refine⟨[.int .i64 x,.int .i64 y],by simp [leL,le],?_⟩
   dsimp only[v77,go_sem,reduceIte,YEx]
   simp only[Yd,YEx,YEz,reduceCtorEq,YEy]
   refine Loop.keep [4] (Nat×Nat) (fun s=>[(0,.int .i64 s.1),(1,.int .i64 s.2)]) (fun _=>[]) [] (fun s=>YFt s.1 s.2=YFt x y/\s.1<=9223372036854775807/\s.2<=9223372036854775807) (fun s=>s.2) ?_ ?_
   . refine⟨(x,y),⟨rfl,hx,hy⟩,?_⟩
     dsimp only[go_sem,reduceIte,YEx]
     simp only[Ya]
   . rintro⟨p,q⟩ ⟨he,hp,hq⟩
     dsimp only at he hp hq
     dsimp only[go_sem,reduceIte,YEx]
     simp only[Yd,YEx,YEz,reduceCtorEq,YEy]
     refine⟨fun hc=>⟨hc,(q,p%q),⟨?_,by simp only;omega,?_⟩,?_,?_⟩,fun hc=>Yp ?_⟩
     . rw[<-he,Nat.gcd_comm p q]
       show YFt q (p%q)=YFt q p
       rw[Nat.gcd_comm q (p%q),<-Nat.gcd_rec]
     . have:=YFD p (by omega:0<q)
       simp only;omega
     . exact YFD p (by omega:0<q)
     . have e:(p:Int).tmod q=((p%q:Nat):Int):=IntWalk.up_tmod rfl rfl
       rw[e]
       simp only[Ya]
     . obtain rfl:q=0:=by omega
       rw[Nat.gcd_zero_right]at he
       rw[he];exact h
 . exact h.1.elim
theorem Yeg{T:Tm}(h:Y4 T=0):(0<=T.wolf/\T.wolf<=11)/\(∀j,j<12->badT (T.p j)=false)/\Ydg T.nm=true/\(∀j,j<12->gcdT (T.p j)=1)/\(T.p T.wolf.toNat).1=0/\allT T 12<=120:=by
 unfold Y4 at h
 split at h
 . exact absurd h (by decide)
 rename_i h1
 split at h
 . exact absurd h (by decide)
 rename_i h2
 split at h
 . exact absurd h (by decide)
 rename_i h3
 split at h
 . exact absurd h (by decide)
 rename_i h4
 have h5:Ydg T.nm=true/\lowT T 12=true/\(T.p T.wolf.toNat).1=0:=by
   refine⟨?_,?_,?_⟩
   . cases hn:Ydg T.nm
     . exact absurd (.inl hn) h3
     . rfl
   . cases hn:lowT T 12
     . exact absurd (.inr (.inl hn)) h3
     . rfl
   . exact Classical.byContradiction fun hn=>h3 (.inr (.inr hn))
 refine⟨by omega,fun j hj=>?_,h5.1,fun j hj=>?_,h5.2.2,by omega⟩
 . cases hb:badT (T.p j)
   . rfl
   . exact absurd (Ynf hj hb) h2
 . have:=List.all_eq_true.1 h5.2.1 j (List.mem_range.2 hj)
   exact of_decide_eq_true this
theorem YgM(T:Tm){i:Nat}(h:i<12):Yx 2 (Yt (3+idxN (i:Int) 2) (encT T))=[.int .i64 (T.p i).1,.int .i64 (T.p i).2]:=by
 rcases YfM h with rfl|rfl|rfl|rfl|rfl|rfl|rfl|rfl|rfl|rfl|rfl|rfl <;> rfl
theorem YgN(T:Tm){i:Nat}(h:i<12):2<=lenL (Yt (3+idxN (i:Int) 2) (encT T)):=by
 rcases YfM h with rfl|rfl|rfl|rfl|rfl|rfl|rfl|rfl|rfl|rfl|rfl|rfl <;> exact YFi rfl
def chk5A:Ctr:={ alias:=false,of:=fun l=>match l with
 | [.agg cs]=> .ex Tm fun T=> .pre (cs=encT T/\T.nm.size<=9223372036854775807) (.fin (.int .i64 (Y4 T)) [])
 |_=>noC}
theorem YrC{T:Tm}{i:Nat}(hi:i<12)(h:¬gcdT (T.p i)=1):lowT T 12=false:=List.all_eq_false.2 ⟨i,List.mem_range.2 hi,by simpa using h⟩
theorem YuF{T:Tm}(h:∀i,i<12->gcdT (T.p i)=1):lowT T 12=true:=List.all_eq_true.2 fun i hi=>decide_eq_true (h i (List.mem_range.1 hi))
def TT3:Env:={ ct:=fun n=>match n with|77=>some tgcdC|76=>some nameC|_=>none,fn:=fun _=>none,meth:=fun _ _=>none}
theorem YdD:TT3.ct 77=some tgcdC:=rfl
theorem YdC:TT3.ct 76=some nameC:=rfl
theorem YAT:Ys YEC TT3:=by
 refine⟨fun f c h=>?_,fun f vf h=>?_,(fun _ _ _ h=>by cases h),by kernel_rfl,(fun _ h=>by cases h)⟩
 . simp only[TT3]at h
   split at h
   . cases h;exact⟨YBK,Tryz.f77,Tryz.func77,by kernel_rfl,by kernel_rfl⟩
   . cases h;exact⟨Yvc,Tryz.f76,Tryz.func76,by kernel_rfl,by kernel_rfl⟩
   . cases h
 . cases h
theorem Yqq:chk5A.ok YEC 45:=by
 refine Yc Tryz.func45 YDU YAT 300 chk5A fun args k h=>?_
 simp only[chk5A]at h
 split at h
 . rename_i cs
   obtain⟨T,⟨rfl,hnm⟩,h⟩:=h
   refine⟨[.agg (encT T)],⟨Ye _ (YK T _),trivial⟩,?_⟩
   have h:k (.int .i64 (Y4 T)) []:=h
   dsimp only[v45,encT,encP,YdD,YdC,tgcdC,nameC,go_sem,reduceIte,YEx]
   simp only[Yd,YEx,YEz,reduceCtorEq,YEy]
   refine⟨rfl,fun hb=>?_,fun hb=>?_⟩
   . rw[Y4,if_pos (by simpa using hb)]at h;exact Yp h
   have hw:0<=T.wolf/\T.wolf<=11:=by simp only[YE9,decide_eq_false_iff_not]at hb;omega
   rw[Y4,if_neg (by omega)]at h
   refine Loop.keep [1] Nat (fun i=>[(3,.int .i64 i)]) (fun _=>[]) [] (fun i=>i<=12/\∀j,j<i->badT (T.p j)=false) (fun i=>12-i) ?_ ?_
   . refine⟨0,⟨by omega,fun j hj=>by omega⟩,?_⟩
     dsimp only[go_sem,reduceIte,YEx]
     simp only[Ya]
     exact⟨by decide,rfl⟩
   . rintro i ⟨hi,hall⟩
     replace hi:i<=12:=hi
     dsimp only[YdD,YdC,tgcdC,nameC,YEB,go_sem,reduceIte,YEx]
     simp only[Yd,YEx,YEz,reduceCtorEq,YEy]
     refine⟨fun hlt=>?_,fun hge=>?_⟩
     . have hi12:i<12:=by omega
       have e:=YgM T hi12
       have el:=YgN T hi12
       simp only[encT,encP]at e el
       rw[e]
       dsimp only[YdD,YdC,tgcdC,nameC,YEB,go_sem,reduceIte,YEx]
       simp only[Yd,YEx,YEz,reduceCtorEq,YEy]
       simp only[YvK (T.p i)]
       refine⟨⟨by omega,by omega⟩,el,fun hb=>?_,fun hb=>⟨i+1,⟨by omega,fun j hj=>?_⟩,by omega,?_⟩⟩
       . rw[if_pos (Ynf hi12 hb)]at h;exact Yp h
       . rcases YFf j i with h1|h1
         . exact hall j h1
         . obtain rfl:j=i:=by omega
           exact hb
       . rw[YED ((i:Int)+1) (by omega)]
         simp only[Ya]
         exact⟨by decide,rfl⟩
     . obtain rfl:i=12:=by omega
       have hbad:∀j,j<12->badT (T.p j)=false:=hall
       rw[if_neg (by rw[YvJ hbad];decide)]at h
       obtain⟨w,hwe⟩:∃w:Nat,T.wolf=(w:Int):=⟨T.wolf.toNat,by omega⟩
       have hw12:w<12:=by omega
       have e:=YgM T hw12
       have el:=YgN T hw12
       simp only[encT,encP,hwe]at e el
       rw[hwe,YEB]at h
       simp only[Nat.add_zero,hwe]
       rw[e]
       dsimp only[YdD,YdC,tgcdC,nameC,YEB,go_sem,reduceIte,YEx]
       simp only[Yd,YEx,YEz,reduceCtorEq,YEy]
       refine⟨hnm,fun _=>⟨by omega,by omega⟩,fun _=>el,fun hc=>?_,fun hc=>?_⟩
       . have hx:Ydg T.nm=false\/lowT T 12=false\/(T.p w).1≠0:=by
           cases hnf:Ydg T.nm
           . exact Or.inl rfl
           . refine Or.inr ?_
             by_cases h0:(T.p w).1=0
             . refine Or.inl (YrC hw12 fun hg=>?_)
               unfold gcdT at hg
               rw[h0]at hg
               have h2:=YhN (hbad w hw12)
               simp at hg
               rw[hnf,h0,show(T.p w).2=1 by omega]at hc
               exact absurd hc (by decide)
             . exact Or.inr h0
         rw[if_pos hx]at h;exact Yp h
       have hnw:Ydg T.nm=true/\(T.p w).1=0:=by
         simp only[YE9,Bool.not_eq_false',YEI,decide_eq_true_eq]at hc
         exact⟨hc.1,hc.2.1⟩
       rw[hnw.1,hnw.2]at h
       refine Loop.keep [1] Nat (fun i=>[(5,.int .i64 (allT T i:Nat)),(6,.int .i64 i)]) (fun _=>[]) [] (fun i=>i<=12/\∀j,j<i->gcdT (T.p j)=1) (fun i=>12-i) ?_ ?_
       . refine⟨0,⟨by omega,fun j hj=>by omega⟩,?_⟩
         dsimp only[go_sem,reduceIte,YEx]
         simp only[Ya]
         exact⟨by decide,rfl,rfl⟩
       . rintro i ⟨hi,hgcd⟩
         replace hi:i<=12:=hi
         dsimp only[YdD,YdC,tgcdC,nameC,YEB,go_sem,reduceIte,YEx]
         simp only[Yd,YEx,YEz,reduceCtorEq,YEy]
         refine⟨fun hlt=>?_,fun hge=>?_⟩
         . have hi12:i<12:=by omega
           have e:=YgM T hi12
           have el:=YgN T hi12
           simp only[encT,encP,hwe]at e el
           rw[e]
           dsimp only[YdD,YdC,tgcdC,nameC,YEB,go_sem,reduceIte,YEx]
           simp only[Yd,YEx,YEz,reduceCtorEq,YEy]
           have hb:=hbad i hi12
           obtain⟨⟨x1,x2⟩,x3,x4⟩:=YhN hb
           have hsn:(T.p i).2=((T.p i).2.toNat:Int):=by omega
           obtain⟨r1,r2⟩:=YdH (T:=T) (i:=i) fun j hj=>hbad j (by omega)
           refine⟨⟨by omega,by omega⟩,el,(T.p i).1.natAbs,(T.p i).2.toNat,⟨Yfn _ (by omega),hsn,by omega,by omega⟩,?_⟩
           by_cases hg1:(T.p i).1.natAbs.gcd (T.p i).2.toNat=1
           . rw[hg1]
             have hgcd':∀j,j<i+1->gcdT (T.p j)=1:=fun j hj=>by
               rcases YFf j i with h1|h1
               . exact hgcd j h1
               . obtain rfl:j=i:=by omega
                 exact hg1
             refine⟨fun hc=>absurd rfl hc,fun _=>⟨fun hle=>⟨allT T i,(T.p i).2.toNat,⟨rfl,hsn,by omega,by omega⟩,?_,i+1,⟨by omega,hgcd'⟩,by omega,?_⟩,fun hgt=>⟨i+1,⟨by omega,hgcd'⟩,by omega,?_⟩⟩⟩
             . have:=Nat.gcd_pos_of_pos_left (T.p i).2.toNat (by omega:0<allT T i)
               omega
             . have r3:=YdH (T:=T) (i:=i+1) fun j hj=>hbad j (by omega)
               have ha:allT T (i+1)=allT T i/YFt (allT T i) (T.p i).2.toNat*(T.p i).2.toNat:=by rw[allT,if_pos (by omega)]
               have e1:((allT T i:Nat):Int).tdiv ((YFt (allT T i) (T.p i).2.toNat:Nat):Int)=((allT T i/YFt (allT T i) (T.p i).2.toNat:Nat):Int):=IntWalk.up_tdiv rfl rfl
               have hd:=Nat.div_le_self (allT T i) (YFt (allT T i) (T.p i).2.toNat)
               have e2:IntKind.i64.wrap ((allT T i/YFt (allT T i) (T.p i).2.toNat:Nat):Int)=((allT T i/YFt (allT T i) (T.p i).2.toNat:Nat):Int):=by
                 generalize allT T i/YFt (allT T i) (T.p i).2.toNat=q at hd
                 exact YED _ (by omega)
               have e3:((allT T i/YFt (allT T i) (T.p i).2.toNat:Nat):Int)*(T.p i).2=(allT T (i+1):Nat):=by rw[ha,YFe,<-hsn]
               rw[e1,e2,e3,YED (allT T (i+1):Int) (by omega),YED ((i:Int)+1) (by omega)]
               simp only[Ya]
               exact⟨by decide,rfl⟩
             . have ha:allT T (i+1)=allT T i:=by rw[allT,if_neg (by omega)]
               rw[ha,YED ((i:Int)+1) (by omega)]
               simp only[Ya]
               exact⟨by decide,rfl⟩
           . have hl:=YrC hi12 hg1
             rw[hl,if_pos (Or.inr (Or.inl rfl))]at h
             refine⟨fun hc=>Yp h,fun hc=>absurd ?_ hg1⟩
             omega
         . obtain rfl:i=12:=by omega
           rw[YuF hgcd,if_neg (by simp)]at h
           refine⟨fun hc=>?_,fun hc=>?_⟩
           . rw[if_pos (by omega)]at h;exact Yp h
           . rw[if_neg (by omega)]at h;exact Yp h
 . exact h.1.elim
structure Rep (L:Int) (r:Rt) (a b c:Int):Prop where
 ok:chkR r=0
 ha:r.a*L=a*r.n
 hb:r.b*L=b*r.n
 hc:r.c*L=c*r.n
 hd:r.d=0
 he:r.e=0
 hf:r.f=0
def sm(x:Int):Prop:= -100000<=x/\x<=100000
theorem YqT{a b g:Nat}(hg:0<g)(ha:g∣a)(hb:g∣b):(a/g).gcd (b/g)=a.gcd b/g:=Nat.gcd_div ha hb
theorem YjV{x:Int}{g:Nat}:(x.tdiv g).natAbs=x.natAbs/g:=by
 rw[Int.natAbs_tdiv,Int.natAbs_natCast];rfl
theorem Yeo{x y n L:Int}(hn:1<=n)(hnL:n<=L)(h:x*L=y*n)(hy:sm y):sm x:=by
 have h2:x.natAbs*L.natAbs=y.natAbs*n.natAbs:=by rw[<-Int.natAbs_mul,h,Int.natAbs_mul]
 have h3:x.natAbs<=y.natAbs:=by
   refine YEY (c:=L.natAbs) ?_ (by omega)
   rw[h2]
   exact YEG _ (by omega)
 unfold sm at*
 omega
theorem Yjv{L:Int}{x:Rt}{a b c:Int}(hL:1<=L/\L<=1000)(hn:1<=x.n)(ha:x.a*L=a*x.n)(hb:x.b*L=b*x.n)(hc:x.c*L=c*x.n)
   (hd:x.d=0)(he:x.e=0)(hf:x.f=0)(sa:sm a)(sb:sm b)(sc:sm c):(YcW x).2=0/\Rep L (YcW x).1 a b c:=by
 obtain⟨g,hg⟩:∃g,g=gcdR x:=⟨_,rfl⟩
 have hg2:g=((x.n.toNat.gcd x.a.natAbs).gcd x.b.natAbs).gcd x.c.natAbs:=by
   rw[hg,gcdR,hd,he,hf];simp
 have dn:g∣x.n.toNat:=by rw[hg2];exact Nat.dvd_trans (Nat.gcd_dvd_left ..) (Nat.dvd_trans (Nat.gcd_dvd_left ..) (Nat.gcd_dvd_left ..))
 have da:g∣x.a.natAbs:=by rw[hg2];exact Nat.dvd_trans (Nat.gcd_dvd_left ..) (Nat.dvd_trans (Nat.gcd_dvd_left ..) (Nat.gcd_dvd_right ..))
 have db:g∣x.b.natAbs:=by rw[hg2];exact Nat.dvd_trans (Nat.gcd_dvd_left ..) (Nat.gcd_dvd_right ..)
 have dc:g∣x.c.natAbs:=by rw[hg2];exact Nat.gcd_dvd_right ..
 have g0:0<g:=Nat.pos_of_dvd_of_pos dn (by omega)
 have tn:x.n.tdiv g=((x.n.toNat/g:Nat):Int):=by
   rw[Int.tdiv_eq_ediv_of_nonneg (by omega)]
   obtain⟨m,hm⟩:∃m:Nat,x.n=m:=⟨x.n.toNat,by omega⟩
   rw[hm,YEB];rfl
 have mulg:∀{y:Int},g∣y.natAbs->y.tdiv g*g=y:=fun h=>Int.tdiv_mul_cancel (Int.dvd_natAbs.1 (Int.natCast_dvd_natCast.2 h))
 have mn:((x.n.toNat/g:Nat):Int)*g=x.n:=by
   have:=Nat.div_mul_cancel dn
   have e:((x.n.toNat/g*g:Nat):Int)=x.n:=by rw[this];omega
   rw[YFe]at e
   exact e
 obtain⟨n',hn'⟩:∃n',n'=x.n.toNat/g:=⟨_,rfl⟩
 rw[<-hn']at tn mn
 have n1:1<=n':=by
   rcases YFk n' with h|h
   . rw[h]at mn;omega
   . exact h
 have can:∀{y v:Int},g∣y.natAbs->y*L=v*x.n->y.tdiv g*L=v*n':=fun {y v} h1 h2=>by
   refine Int.eq_of_mul_eq_mul_right (a:=g) (by omega) ?_
   rw[Int.mul_right_comm,mulg h1,Int.mul_assoc,mn,h2]
 have ca:=can da ha
 have cb:=can db hb
 have cc:=can dc hc
 have hgcd:((n'.gcd (x.a.tdiv g).natAbs).gcd (x.b.tdiv g).natAbs).gcd (x.c.tdiv g).natAbs=1:=by
   rw[YjV,YjV,YjV,hn',YqT g0 dn da,YqT g0 (Nat.dvd_gcd dn da) db,YqT g0 (Nat.dvd_gcd (Nat.dvd_gcd dn da) db) dc,<-hg2]
   exact Nat.div_self g0
 have hdv:n'∣L.toNat:=by
   have key:∀{y v:Int},y*L=v*n'->n'∣y.natAbs*L.toNat:=fun {y v} h=>by
     refine⟨v.natAbs,?_⟩
     have:=congrArg Int.natAbs h
     rw[Int.natAbs_mul,Int.natAbs_mul,Int.natAbs_natCast]at this
     rw[show L.toNat=L.natAbs by omega,this,YEJ]
   have h1:n'∣n'*L.toNat:=Nat.dvd_mul_right ..
   have:=Nat.dvd_gcd (Nat.dvd_gcd (Nat.dvd_gcd h1 (key ca)) (key cb)) (key cc)
   rw[Nat.gcd_mul_right,Nat.gcd_mul_right,Nat.gcd_mul_right,hgcd,YFo]at this
   exact this
 have nL:n'<=L.toNat:=Nat.le_of_dvd (by omega) hdv
 have sa':=Yeo (n:=n') (L:=L) (by omega) (by omega) ca sa
 have sb':=Yeo (n:=n') (L:=L) (by omega) (by omega) cb sb
 have sc':=Yeo (n:=n') (L:=L) (by omega) (by omega) cc sc
 have eD:divR x (gcdR x)=⟨x.a.tdiv g,x.b.tdiv g,x.c.tdiv g,0,0,0,n'⟩:=by
   rw[<-hg,divR,hd,he,hf,tn];simp
 have bad:∀{y:Int},sm y->badN y=false:=fun h=>by
   simp only[badN,YE9,decide_eq_false_iff_not];unfold sm at h;omega
 have hchk:chkR (divR x (gcdR x))=0:=by
   rw[eD,chkR,if_neg (by simp only;omega),if_neg,if_neg]
   . simp only[gcdR,YEB,Int.natAbs_zero,Nat.gcd_zero_right]
     rw[hgcd];decide
   . simp only[bad sa',bad sb',bad sc']
     decide
 unfold YcW
 rw[if_pos hchk]
 refine⟨rfl,hchk,?_,?_,?_,?_,?_,?_⟩ <;> rw[eD]
 . exact ca
 . exact cb
 . exact cc
theorem Rep.n_rng{L:Int}{r:Rt}{a b c:Int}(h:Rep L r a b c):1<=r.n/\r.n<=1000:=(Yff h.ok).1
theorem Yga{L s:Int}{x y:Rt}{a b c a' b' c':Int}(hL:1<=L/\L<=1000)(hx:Rep L x a b c)(hy:Rep L y a' b' c')(sa:sm (a+s*a'))(sb:sm (b+s*b'))(sc:sm (c+s*c')):
   (Ya6 x y s).2=0/\Rep L (Ya6 x y s).1 (a+s*a') (b+s*b') (c+s*c'):=by
 have nx:=hx.n_rng
 have ny:=hy.n_rng
 unfold Ya6
 rw[if_neg (by rw[hx.ok];decide),if_neg (by rw[hy.ok];decide)]
 have key:∀{u v p q:Int},u*L=p*x.n->v*L=q*y.n->(u*y.n+s*v*x.n)*L=(p+s*q)*(x.n*y.n):=fun {u v p q} h1 h2=>by
   have e1:(u*y.n+s*v*x.n)*L=(u*L)*y.n+s*(v*L)*x.n:=by grind
   rw[e1,h1,h2];grind
 refine Yjv hL ?_ (key hx.ha hy.ha) (key hx.hb hy.hb) (key hx.hc hy.hc) ?_ ?_ ?_ sa sb sc
 . have:=Int.mul_pos (show 0<x.n by omega) (show 0<y.n by omega)
   exact this
 . show x.d*y.n+s*y.d*x.n=0
   rw[hx.hd,hy.hd];simp
 . show x.e*y.n+s*y.e*x.n=0
   rw[hx.he,hy.he];simp
 . show x.f*y.n+s*y.f*x.n=0
   rw[hx.hf,hy.hf];simp
def cdiv(x d:Nat):Nat:=if x/d*d<x then x/d+1 else x/d
theorem Ybo(x d:Nat)(hd:0<d):x<=cdiv x d*d:=by
 have h:=YFB x d
 have h2:=YFD x hd
 rw[YEJ]at h
 unfold cdiv
 split
 . rw[YE4,YFo];omega
 . omega
theorem YaR{x d k:Nat}(h:x<=k*d):cdiv x d<=k:=by
 unfold cdiv
 rcases YFk d with h0|h0
 . subst h0
   simp only[Nat.mul_zero,Nat.div_zero]at*
   split <;> omega
 split
 . rename_i h1
   rw[Nat.lt_iff_add_one_le]at*
   refine Nat.lt_of_mul_lt_mul_right (a:=d) ?_
   omega
 . exact Nat.div_le_of_le_mul (by rw[YEJ];exact h)
theorem Yrp(x d:Nat):x/d<=cdiv x d:=by
 unfold cdiv
 split <;> omega
theorem YdM{x y d:Nat}(h:x<=y):x/d<=cdiv y d:=YEQ (Nat.div_le_div_right h) (Yrp y d)
theorem Yqn{x d:Nat}(hd:0<d):cdiv (cdiv x d) 2=cdiv x (d*2):=by
 refine Nat.le_antisymm (YaR (YaR ?_)) (YaR ?_)
 . have:=Ybo x (d*2) (by omega)
   rw[YEH,YEJ 2 d];exact this
 . have h1:=Ybo x d hd
   have h2:=YEF d (Ybo (cdiv x d) 2 (by decide))
   rw[YEJ d 2,<-YEH];omega
def gl(M:Nat)(t:Bool):Nat->Nat->Nat->Nat->Nat×Nat
 |0,_,_,S=>(S,S+1)
 |f+1,A,B,S=>
   if A*A/M<2*M then
     if cdiv (B*B) M<2*M then gl M t f (A*A/M) (cdiv (B*B) M) (2*S)
     else(S*2^(f+1),(S+1)*2^(f+1))
   else
     if(t&&decide (2*M<=cdiv (cdiv (B*B) M) 2))=true then(S*2^(f+1),(S+1)*2^(f+1))
     else gl M t f (A*A/M/2) (cdiv (cdiv (B*B) M) 2) (2*S+1)
theorem YgQ(M:Nat)(t:Bool):∀(f A B S:Nat),S*2^f<=(gl M t f A B S).1/\(gl M t f A B S).2<=(S+1)*2^f
 |0,A,B,S=>by simp [gl]
 |f+1,A,B,S=>by
   have e1:∀x,x*2^(f+1)=x*2*2^f:=fun x=>by rw[YE2,YEH,YEJ 2 (2^f)]
   have m:∀x y,x<=y->x*2^f<=y*2^f:=fun x y h=>YEF _ h
   rw[gl]
   split
   . split
     . obtain⟨h1,h2⟩:=YgQ M t f (A*A/M) (cdiv (B*B) M) (2*S)
       rw[e1,e1]
       exact⟨YEQ (m _ _ (by omega)) h1,YEQ h2 (m _ _ (by omega))⟩
     . exact⟨YEK _,YEK _⟩
   . split
     . exact⟨YEK _,YEK _⟩
     . obtain⟨h1,h2⟩:=YgQ M t f (A*A/M/2) (cdiv (cdiv (B*B) M) 2) (2*S+1)
       rw[e1,e1]
       exact⟨YEQ (m _ _ (by omega)) h1,YEQ h2 (m _ _ (by omega))⟩
theorem Ywr{P A N M A1:Nat}(hM:0<M)(h:P*A<=N*M)(h1:A1*M<=A*A):P*P*A1<=N*N*M:=by
 refine YEY (c:=M) ?_ hM
 have k1:P*P*(A1*M)<=P*P*(A*A):=YEG _ h1
 have k2:(P*A)*(P*A)<=(N*M)*(N*M):=YEV h h
 have e1:P*P*A1*M=P*P*(A1*M):=YEH ..
 have e2:P*P*(A*A)=(P*A)*(P*A):=by simp only[YEH,YEX]
 have e3:(N*M)*(N*M)=N*N*M*M:=by simp only[YEH,YEX]
 omega
theorem Ysz{P B N M B1:Nat}(hM:0<M)(h:N*M<=P*B)(h1:B*B<=B1*M):N*N*M<=P*P*B1:=by
 refine YEY (c:=M) ?_ hM
 have k1:P*P*(B*B)<=P*P*(B1*M):=YEG _ h1
 have k2:(N*M)*(N*M)<=(P*B)*(P*B):=YEV h h
 have e1:P*P*B1*M=P*P*(B1*M):=YEH ..
 have e2:P*P*(B*B)=(P*B)*(P*B):=by simp only[YEH,YEX]
 have e3:(N*M)*(N*M)=N*N*M*M:=by simp only[YEH,YEX]
 omega
theorem Ydp(S:Nat):2^(2*S)=2^S*2^S:=by rw[<-YEO];congr 1;omega
theorem Yn3(N f:Nat):N^(2^(f+1))=(N*N)^(2^f):=by
 rw[YE2,YEJ (2^f) 2,YET,Nat.pow_two]
theorem Yjd(M:Nat)(t:Bool)(hM:0<M):∀(f A B S N:Nat),2^S*A<=N*M->N*M<=2^S*B->M<=A->B<=2*M->2^(gl M t f A B S).1<=N^(2^f)/\N^(2^f)<=2^(gl M t f A B S).2:=by
 have stop:∀(f A B S N:Nat),2^S*A<=N*M->N*M<=2^S*B->M<=A->B<=2*M->2^S<=N/\N<=2^(S+1):=by
   intro f A B S N h1 h2 ha hb
   constructor
   . refine YEY (c:=M) ?_ hM
     have:=YEG (2^S) ha
     omega
   . refine YEY (c:=M) ?_ hM
     have:=YEG (2^S) hb
     rw[YE2,YEH]
     omega
 have stop2:∀(f S N:Nat),2^S<=N/\N<=2^(S+1)->2^(S*2^f)<=N^(2^f)/\N^(2^f)<=2^((S+1)*2^f):=fun f S N h=>by
   rw[YET,YET]
   exact⟨YEP h.1 _,YEP h.2 _⟩
 intro f
 induction f with
 |zero=>
   intro A B S N h1 h2 ha hb
   have:=stop 0 A B S N h1 h2 ha hb
   simpa [gl]using this
 |succ f ih=>
   intro A B S N h1 h2 ha hb
   have hs:=stop2 (f+1) S N (stop f A B S N h1 h2 ha hb)
   have hA:A*A/M*M<=A*A:=YFx _ _
   have hB:B*B<=cdiv (B*B) M*M:=Ybo _ _ hM
   have k1:=Ywr hM h1 hA
   have k2:=Ysz hM h2 hB
   have hA1:M<=A*A/M:=(YFu hM).2 (YEV ha ha)
   have hB1:cdiv (B*B) M<=4*M:=YaR (by
     have:=YEV hb hb
     have e:4*M*M=2*M*(2*M):=by rw[Nat.mul_mul_mul_comm,YEH]
     omega)
   rw[gl,Yn3]
   rw[Yn3]at hs
   split
   . split
     . refine ih _ _ _ _ ?_ ?_ hA1 (by omega)
       . rw[Ydp];exact k1
       . rw[Ydp];exact k2
     . exact hs
   . rename_i hge
     split
     . exact hs
     . have hB2:cdiv (B*B) M<=cdiv (cdiv (B*B) M) 2*2:=Ybo _ _ (by decide)
       have hA2:A*A/M/2*2<=A*A/M:=YFx _ _
       have e3:∀x,2^(2*S+1)*x=2^S*2^S*(x*2):=fun x=>by rw[YE2,Ydp,YEH,YEJ 2 x]
       refine ih _ _ _ _ ?_ ?_ (by omega) (YaR (by omega))
       . rw[e3]
         exact YEQ (YEG _ hA2) k1
       . rw[e3]
         exact YEQ k2 (YEG _ hB2)
theorem YkJ(M E:Nat)(t:Bool)(hM:0<M)(hE:0<E)(g:Nat):∀(f A B S A' B':Nat),E*A<=A'->A'<=B'->B'<=E*B->
   (gl M t f A B S).1*2^g<=(gl (M*E) false (f+g) A' B' S).1/\(gl (M*E) false (f+g) A' B' S).2<=(gl M t f A B S).2*2^g:=by
 intro f
 induction f with
 |zero=>
   intro A B S A' B' _ _ _
   have:=YgQ (M*E) false (0+g) A' B' S
   simpa [gl]using this
 |succ f ih=>
   intro A B S A' B' ha hab hb
   have stop:S*2^(f+1)*2^g<=(gl (M*E) false (f+1+g) A' B' S).1/\(gl (M*E) false (f+1+g) A' B' S).2<=(S+1)*2^(f+1)*2^g:=by
     have:=YgQ (M*E) false (f+1+g) A' B' S
     rw[YEH,YEH,<-YEO]
     exact this
   have hME:0<M*E:=YFm hM hE
   have q1:E*(A*A/M)<=A'*A'/(M*E):=by
     rw[YFu hME]
     have h1:A*A/M*M<=A*A:=YFx _ _
     have h2:=YEG (E*E) h1
     have h3:=YEV ha ha
     have e1:E*(A*A/M)*(M*E)=E*E*(A*A/M*M):=by simp only[YEH,YEX,YEJ]
     have e2:E*A*(E*A)=E*E*(A*A):=by simp only[YEH,YEX,YEJ]
     omega
   have q2:cdiv (B'*B') (M*E)<=E*cdiv (B*B) M:=YaR (by
     have h1:B*B<=cdiv (B*B) M*M:=Ybo _ _ hM
     have h2:=YEG (E*E) h1
     have h3:=YEV hb hb
     have e1:E*cdiv (B*B) M*(M*E)=E*E*(cdiv (B*B) M*M):=by simp only[YEH,YEX,YEJ]
     have e2:E*B*(E*B)=E*E*(B*B):=by simp only[YEH,YEX,YEJ]
     omega)
   have q3:A'*A'/(M*E)<=cdiv (B'*B') (M*E):=YdM (YEV hab hab)
   have e2M:2*(M*E)=E*(2*M):=by rw[<-YEH,YEJ]
   by_cases c1:A*A/M<2*M
   . by_cases c2:cdiv (B*B) M<2*M
     . have d2:cdiv (B'*B') (M*E)<2*(M*E):=by
         rw[e2M]
         exact YFp q2 (Nat.mul_lt_mul_of_pos_left c2 hE)
       have d1:A'*A'/(M*E)<2*(M*E):=by omega
       rw[show f+1+g=(f+g)+1 by omega,gl,if_pos c1,if_pos c2,gl,if_pos d1,if_pos d2]
       exact ih _ _ _ _ _ q1 q3 q2
     . rw[gl.eq_def M t (f+1)]
       simp only
       rw[if_pos c1,if_neg c2]
       exact stop
   . have d1:¬A'*A'/(M*E)<2*(M*E):=by
       have:E*(2*M)<=E*(A*A/M):=YEG _ (by omega)
       omega
     by_cases c2:(t&&decide (2*M<=cdiv (cdiv (B*B) M) 2))=true
     . rw[gl.eq_def M t (f+1)]
       simp only
       rw[if_neg c1,if_pos c2]
       exact stop
     . rw[show f+1+g=(f+g)+1 by omega,gl,if_neg c1,if_neg c2,gl,if_neg d1,if_neg (by simp)]
       refine ih _ _ _ _ _ ?_ (YdM q3) (YaR ?_)
       . rw[YFu (by decide)]
         have h1:A*A/M/2*2<=A*A/M:=YFx _ _
         have h2:=YEG E h1
         rw[YEH];omega
       . have h1:cdiv (B*B) M<=cdiv (cdiv (B*B) M) 2*2:=Ybo _ _ (by decide)
         have h2:=YEG E h1
         rw[YEH];omega
theorem YgU(a:Nat):hiW (a:Int)=((a*a/18446744073709551616:Nat):Int):=by
 show(a:Int)*a/18446744073709551616=_
 rw[Int.natCast_ediv,YFe];rfl
theorem YlZ(a:Nat):loW (a:Int)=((a*a%18446744073709551616:Nat):Int):=by
 show(a:Int)*a%18446744073709551616=_
 rw[Int.natCast_emod,YFe];rfl
theorem YjO(x:Nat):sr63 (x:Int)=((x/9223372036854775808:Nat):Int):=YjL (s:=63) (by decide)
theorem Yme(x:Nat):sl1 (x:Int)=((x*2%18446744073709551616:Nat):Int):=by
 show IntKind.u64.wrap ((x:Int)*2^min (Int.toNat 1) 64)=_
 rw[show(2:Int)^min (Int.toNat 1) 64=2 from rfl,Yvq,Int.natCast_emod,YFe];rfl
theorem Yxg{M x:Nat}(hM:0<M):x/(2*M)*2+x%(2*M)/M=x/M:=by
 have e1:x/(2*M)=x/M/2:=by rw[YEJ,YFl]
 have e2:x%(2*M)/M=x/M%2:=by
   rw[YEJ,Nat.mod_mul_right_div_self]
 rw[e1,e2];omega
theorem Ywg{h b:Nat}(hb:b<2):(h*2||| b)=h*2+b:=by
 have:=Nat.two_pow_add_eq_or_of_lt (i:=1) (b:=b) (by simpa using hb) h
 rw[Nat.pow_one]at this
 rw[YEJ h 2,this]
theorem Ynu{a:Nat}(ha:a*a<18446744073709551616*9223372036854775808):dblW (hiW (a:Int)) (loW (a:Int))=((a*a/9223372036854775808:Nat):Int):=by
 show bitI .or .u64 (sl1 (hiW (a:Int))) (sr63 (loW (a:Int)))=_
 rw[YgU,YlZ,Yme,YjO]
 generalize a*a=x at*
 have h1:x/18446744073709551616<9223372036854775808:=Nat.div_lt_of_lt_mul ha
 have h2:x%18446744073709551616/9223372036854775808<2:=Nat.div_lt_of_lt_mul (YFD _ (by decide))
 have h3:=Yxg (M:=9223372036854775808) (x:=x) (by decide)
 rw[show 2*9223372036854775808=18446744073709551616 from rfl]at h3
 generalize x/18446744073709551616=h at*
 generalize x%18446744073709551616/9223372036854775808=l at*
 rw[Nat.mod_eq_of_lt (by omega),YBg (by omega) (by omega),Ywg h2,h3]
theorem YhR{x d:Nat}(hd:0<d)(h:x%d=0):cdiv x d=x/d:=by
 unfold cdiv
 rw[if_neg]
 have:=YFB x d
 rw[YEJ]at this
 omega
theorem Yko{x d:Nat}(hd:0<d)(h:x%d≠0):cdiv x d=x/d+1:=by
 unfold cdiv
 rw[if_pos]
 have:=YFB x d
 rw[YEJ]at this
 omega
theorem YuO{x M:Nat}(hM:0<M):x%(2*M)*2%(2*M)=x%M*2:=by
 have e:x%(2*M)%M=x%M:=Nat.mod_mul_left_mod ..
 rw[<-e]
 generalize x%(2*M)=y at*
 rw[YEJ y 2,Nat.mul_mod_mul_left,YEJ]
theorem Ysv(b:Nat):(0<sl1 (loW (b:Int)))↔b*b%9223372036854775808≠0:=by
 rw[YlZ,Yme]
 have h:=YuO (x:=b*b) (M:=9223372036854775808) (by decide)
 rw[show 2*9223372036854775808=18446744073709551616 from rfl]at h
 rw[h]
 omega
theorem YDK{z:Nat}(h:z<18446744073709551616):(IntKind.u64.wrap ((z:Int)+1)=0↔z+1=18446744073709551616)/\(z+1<18446744073709551616->IntKind.u64.wrap ((z:Int)+1)=((z+1:Nat):Int)):=by
 rw[Yvq]
 constructor <;> omega
theorem bitS{S b:Nat}(hS:S<9223372036854775808)(hb:b<2):bitI .or .u64 (sl1 (S:Int)) ((b:Nat):Int)=((2*S+b:Nat):Int):=by
 rw[Yme,Nat.mod_eq_of_lt (by omega),YBg (by omega) (by omega),Ywg hb,YEJ]
theorem YjK{S f:Nat}(hf:f<=64)(h:S*2^f<18446744073709551616):shW (S:Int) f=((S*2^f:Nat):Int):=Ymc hf h
theorem uS{S:Nat}(hS:S<18446744073709551615):IntKind.u64.wrap ((S:Int)+1)=((S+1:Nat):Int):=by rw[IntWalk.u64_in _ (by omega)];rfl
def Yqm(p:Nat×Nat):Int×Int:=((p.1:Int),(p.2:Int))
theorem Ysb:∀(f S a b:Nat),f<=28->S<2^(34-f)->9223372036854775808<=a->a<=b->b<18446744073709551616->
   YaP f (S:Int) (a:Int) (b:Int)=Yqm (gl 9223372036854775808 true f a b S):=by
 intro f
 induction f with
 |zero=>
   intro S a b _ hS _ _ _
   rw[show(2:Nat)^(34-0)=17179869184 from rfl]at hS
   rw[YaP,gl,Yqm,uS (by omega)]
 |succ f ih=>
   intro S a b hf hS ha hab hb
   have e34:(2:Nat)^(34-f)=2*2^(34-(f+1)):=by rw[show 34-f=34-(f+1)+1 by omega,YE2,YEJ]
   have hS2:S<17179869184:=YFq hS (by rw[show 17179869184=2^34 from rfl];exact YE7 (by decide) (by omega))
   have stop:(shW (S:Int) (f+1),shW (IntKind.u64.wrap ((S:Int)+1)) (f+1))=Yqm (S*2^(f+1),(S+1)*2^(f+1)):=by
     have hp:(2:Nat)^(34-(f+1))*2^(f+1)=17179869184:=by rw[<-YEO,show 34-(f+1)+(f+1)=34 by omega]
     have h1:S*2^(f+1)<=2^(34-(f+1))*2^(f+1):=YEF _ (YFJ hS)
     have h2:(S+1)*2^(f+1)<=2^(34-(f+1))*2^(f+1):=YEF _ hS
     rw[uS (by omega),YjK (by omega) (by omega),YjK (by omega) (by omega)];rfl
   have haa:9223372036854775808*9223372036854775808<=a*a:=YEV ha ha
   have hbb:b*b<18446744073709551616*18446744073709551616:=Nat.mul_lt_mul_of_lt_of_le hb (YFJ hb) (by decide)
   have hab2:a*a<=b*b:=YEV hab hab
   have kA:sr63 (hiW (a:Int))=((a*a/170141183460469231731687303715884105728:Nat):Int):=by rw[YgU,YjO,YFl]
   have kB:sr63 (hiW (b:Int))=((b*b/170141183460469231731687303715884105728:Nat):Int):=by rw[YgU,YjO,YFl]
   have hS0:=bitS (S:=S) (b:=0) (by omega) (by decide)
   have hS1:=bitS (S:=S) (b:=1) (by omega) (by decide)
   have eb:IntKind.u64.wrap (dblW (hiW (b:Int)) (loW (b:Int))+1)=IntKind.u64.wrap (dblW (hiW (b:Int)) (loW (b:Int))+1):=rfl
   rw[YaP,gl,kA,kB]
   by_cases c1:a*a<170141183460469231731687303715884105728
   . have z1:a*a/170141183460469231731687303715884105728=0:=Nat.div_eq_of_lt c1
     have c1':a*a/9223372036854775808<2*9223372036854775808:=Nat.div_lt_of_lt_mul c1
     have la:9223372036854775808<=a*a/9223372036854775808:=(YFu (by decide)).2 haa
     rw[if_pos c1',z1,if_pos (by rfl),Ynu c1,hS0]
     by_cases c2:b*b<170141183460469231731687303715884105728
     . have z2:b*b/170141183460469231731687303715884105728=0:=Nat.div_eq_of_lt c2
       have c2':b*b/9223372036854775808<18446744073709551616:=Nat.div_lt_of_lt_mul c2
       have hq:a*a/9223372036854775808<=b*b/9223372036854775808:=Nat.div_le_div_right hab2
       rw[z2,Ynu c2]
       obtain⟨u1,u2⟩:=YDK c2'
       by_cases c3:b*b%9223372036854775808≠0
       . rw[if_pos ((Ysv b).2 c3),Yko (by decide) c3]
         by_cases c4:b*b/9223372036854775808+1=18446744073709551616
         . rw[if_pos (by rw[decide_eq_true (u1.2 c4)];simp),if_neg (by omega)]
           exact stop
         . rw[if_neg (by rw[decide_eq_false (fun h=>c4 (u1.1 h))];simp),if_pos (by omega),u2 (by omega)]
           exact ih _ _ _ (by omega) (by omega) la (by omega) (by omega)
       . rw[if_neg (fun h=>c3 ((Ysv b).1 h)),YhR (by decide) (by omega)]
         rw[if_neg (by rw[decide_eq_false (show¬((b*b/9223372036854775808:Nat):Int)=0 by omega)];simp),if_pos (by omega)]
         exact ih _ _ _ (by omega) (by omega) la (by omega) (by omega)
     . have hz2:1<=b*b/170141183460469231731687303715884105728:=(YFu (by decide)).2 (by omega)
       have hc:¬cdiv (b*b) 9223372036854775808<2*9223372036854775808:=by
         have h1:=Yrp (b*b) 9223372036854775808
         have h2:2*9223372036854775808<=b*b/9223372036854775808:=(YFu (by decide)).2 (by omega)
         omega
       have hk:(!decide (((0:Nat):Int)=((b*b/170141183460469231731687303715884105728:Nat):Int)))=true:=by
         rw[decide_eq_false (by omega)];rfl
       rw[if_neg hc,hk]
       simp only[Bool.true_or,if_true,ite_self]
       exact stop
   . have e1:a*a/170141183460469231731687303715884105728=1:=by
       have h1:1<=a*a/170141183460469231731687303715884105728:=(YFu (by decide)).2 (by omega)
       have h2:a*a/170141183460469231731687303715884105728<2:=Nat.div_lt_of_lt_mul (by omega)
       omega
     have e2:b*b/170141183460469231731687303715884105728=1:=by
       have h1:1<=b*b/170141183460469231731687303715884105728:=(YFu (by decide)).2 (by omega)
       have h2:b*b/170141183460469231731687303715884105728<2:=Nat.div_lt_of_lt_mul (by omega)
       omega
     have c1':¬a*a/9223372036854775808<2*9223372036854775808:=by
       have h2:2*9223372036854775808<=a*a/9223372036854775808:=(YFu (by decide)).2 (by omega)
       omega
     have ea:a*a/9223372036854775808/2=a*a/18446744073709551616:=by rw[YFl]
     have hal:9223372036854775808<=a*a/18446744073709551616:=(YFu (by decide)).2 (by omega)
     have hbl:9223372036854775808<=b*b/18446744073709551616:=(YFu (by decide)).2 (by omega)
     have hq:a*a/18446744073709551616<=b*b/18446744073709551616:=Nat.div_le_div_right hab2
     have hbu:b*b/18446744073709551616<18446744073709551616:=Nat.div_lt_of_lt_mul hbb
     rw[if_neg c1',e1,e2,if_neg (by decide),hS1,ea,Yqn (by decide),show 9223372036854775808*2=18446744073709551616 from rfl,YgU,YgU,YlZ]
     obtain⟨u1,u2⟩:=YDK hbu
     by_cases c3:b*b%18446744073709551616≠0
     . rw[if_pos (by omega),Yko (by decide) c3]
       by_cases c4:b*b/18446744073709551616+1=18446744073709551616
       . rw[if_pos (by rw[decide_eq_true (u1.2 c4)];simp),if_pos (by rw[decide_eq_true (show 18446744073709551616<=b*b/18446744073709551616+1 by omega)];rfl)]
         exact stop
       . rw[if_neg (by rw[decide_eq_false (fun h=>c4 (u1.1 h))];simp),if_neg (by rw[decide_eq_false (show¬18446744073709551616<=b*b/18446744073709551616+1 by omega)];simp),u2 (by omega)]
         exact ih _ _ _ (by omega) (by omega) hal (by omega) (by omega)
     . rw[if_neg (by omega),YhR (by decide) (by omega)]
       rw[if_neg (by rw[decide_eq_false (show¬((b*b/18446744073709551616:Nat):Int)=0 by omega)];simp),if_neg (by rw[decide_eq_false (show¬18446744073709551616<=b*b/18446744073709551616 by omega)];simp)]
       exact ih _ _ _ (by omega) (by omega) hal (by omega) (by omega)
def lgK(n:Nat):Nat:=Yy n-1
theorem Yrx{n:Nat}(h:1<=n):2^lgK n<=n/\n<2^(lgK n+1):=by
 have h0:Yy n≠0:=fun e=>by have:=bitsN_eq0.1 e;omega
 unfold lgK
 constructor
 . refine Nat.le_of_not_lt fun hh=>?_
   have:=bitsN_le.2 hh
   omega
 . rw[show Yy n-1+1=Yy n by omega];exact Yf1 n
theorem YeT{n m:Nat}(hm:0<m)(h:n<2^m):lgK n<m:=by
 have:=bitsN_le.2 h
 unfold lgK;omega
theorem Yuq{n:Nat}(h1:1<=n)(h2:n<4611686018427387904):YbN (n:Int)=true->n=2^lgK n:=by
 intro h
 unfold YbN at h
 have h:=of_decide_eq_true h
 have e:IntKind.i64.wrap ((n:Int)-1)=((n-1:Nat):Int):=by rw[YED _ (by omega)];omega
 rw[e]at h
 have h3:IntKind.i64.wrap ((BitVec.ofInt 64 (n:Int)&&&BitVec.ofInt 64 ((n-1:Nat):Int)).toNat:Int)=0:=h
 rw[BitVec.toNat_and,Yci (by omega),Yci (by omega)]at h3
 have hle:n&&&(n-1)<=n:=Nat.and_le_left
 rw[YED _ (by omega)]at h3
 have h4:n&&&(n-1)=0:=by omega
 obtain⟨b1,b2⟩:=Yrx h1
 refine Nat.le_antisymm (Nat.le_of_not_lt fun hh=>?_) b1
 have t1:n.testBit (lgK n)=true:=by
   rw[Nat.testBit_eq_decide_div_mod_eq]
   have:n/2^lgK n=1:=by
     have g1:1<=n/2^lgK n:=(YFu (YFj (by decide))).2 (by omega)
     have g2:n/2^lgK n<2:=Nat.div_lt_of_lt_mul (by rw[<-YE2];exact b2)
     omega
   rw[this];rfl
 have t2:(n-1).testBit (lgK n)=true:=by
   rw[Nat.testBit_eq_decide_div_mod_eq]
   have:(n-1)/2^lgK n=1:=by
     have g1:1<=(n-1)/2^lgK n:=(YFu (YFj (by decide))).2 (by omega)
     have g2:(n-1)/2^lgK n<2:=Nat.div_lt_of_lt_mul (by rw[<-YE2];omega)
     omega
   rw[this];rfl
 have t3:(n&&&(n-1)).testBit (lgK n)=true:=by rw[Nat.testBit_and,t1,t2];rfl
 rw[h4,Nat.zero_testBit]at t3
 cases t3
def qN(n:Nat):Nat×Nat:=if YbN (n:Int)=true then(lgK n*2^28,lgK n*2^28)else gl 9223372036854775808 true 28 (n*2^(63-lgK n)) (n*2^(63-lgK n)) (lgK n)
def lN(n p:Nat):Nat×Nat:=if YbN (n:Int)=true then(lgK n*2^p,lgK n*2^p)else gl (2^(2*p+64)) false p (n*2^(2*p+64-lgK n)) (n*2^(2*p+64-lgK n)) (lgK n)
theorem mant{n D:Nat}(h1:1<=n)(hD:lgK n<=D):2^D<=n*2^(D-lgK n)/\n*2^(D-lgK n)<2*2^D/\2^lgK n*(n*2^(D-lgK n))=n*2^D:=by
 obtain⟨b1,b2⟩:=Yrx h1
 have e:2^D=2^lgK n*2^(D-lgK n):=by rw[<-YEO];congr 1;omega
 refine⟨?_,?_,?_⟩
 . rw[e];exact YEF _ b1
 . rw[e,<-YEH,<-Nat.pow_succ']
   exact Nat.mul_lt_mul_of_pos_right b2 (YFj (by decide))
 . rw[e,YEX]
theorem Ysa{n:Nat}(h1:1<=n)(h2:n<4611686018427387904):Ya9 (n:Int)=Yqm (qN n):=by
 have hk:lgK n<62:=YeT (by decide) h2
 unfold Ya9 qN
 rw[YEB]
 by_cases c:YbN (n:Int)=true
 . rw[if_pos c,if_pos c]
   have e:shW ((Yy n-1:Nat):Int) 28=((lgK n*2^28:Nat):Int):=YjK (by decide) (by show lgK n*268435456<_;omega)
   have e:IntKind.u64.wrap (((Yy n-1:Nat):Int)*2^min (Int.toNat 28) 64)=((lgK n*2^28:Nat):Int):=e
   rw[e];rfl
 . rw[if_neg c,if_neg c]
   obtain⟨m1,m2,m3⟩:=mant (D:=63) h1 (by omega)
   have e:shW (n:Int) (63-(Yy n-1))=((n*2^(63-lgK n):Nat):Int):=YjK (by omega) (YFq m2 (by decide))
   rw[e]
   exact Ysb 28 (lgK n) _ _ (by decide) (by rw[show(2:Nat)^(34-28)=64 from rfl];omega) m1 (YEK _) m2
theorem Yx3{e k:Nat}(h:e<=32*k):2^e<=4294967296^k:=by
 rw[YfJ]
 exact YE7 (by decide) h
theorem YBr{x e k:Nat}(h:x<2^e)(he:e<=32*k):nl x<=k:=nl_le.2 (YFq h (Yx3 he))
theorem YgF{x e:Nat}(h:x<2^e)(he:e<=32*512):capF x=x:=by
 unfold capF
 rw[if_pos]
 exact YBr (k:=512) h he
theorem Yom(a d:Nat)(hd:0<d):shF a (-(d:Int))=a/2^d:=by
 unfold shF
 rw[if_pos (by omega),show(- -(d:Int)).toNat=d by omega]
theorem Ywq(a d:Nat):shF a (d:Int)=a*2^d:=by
 unfold shF
 rw[if_neg (by omega),YEB]
theorem Yh8{a d e:Nat}(h:a*2^d<2^e)(he:e<=32*512):movW a (d:Int) false=a*2^d:=by
 unfold movW
 rw[Bool.false_and,if_neg (by decide),Ywq,YgF h he]
theorem Yv9{a d e:Nat}(hd:0<d)(h:a<2^e)(he:e<=32*512):movW a (-(d:Int)) false=a/2^d:=by
 unfold movW
 rw[Bool.false_and,if_neg (by decide),Yom _ _ hd,YgF (YFp (Nat.div_le_self _ _) h) he]
theorem YnV{a d e:Nat}(hd:0<d)(h:a<2^e)(he:e+1<=32*512):movW a (-(d:Int)) true=cdiv a (2^d):=by
 have h1:a/2^d<2^e:=YFp (Nat.div_le_self _ _) h
 have h2:a/2^d*2^d<2^e:=YFp (YFx _ _) h
 unfold movW cdiv
 rw[Bool.true_and,Yom _ _ hd,YgF h1 (by omega),Int.neg_neg,Ywq,YgF h2 (by omega)]
 by_cases c:a/2^d*2^d<a
 . rw[if_pos (decide_eq_true c),if_pos c]
   exact YgF (e:=e+1) (by rw[YE2];omega) he
 . rw[if_neg (by rw[decide_eq_false c];decide),if_neg c]
theorem Ygy{a b e:Nat}(h:a+b<2^e)(he:e<=32*512):addW a b=a+b:=YgF h he
theorem Yh9{a b e:Nat}(h:a*b<2^e)(he:e<=32*512):mulW a b=a*b:=YgF h he
theorem Yx8{D:Nat}(hD0:64<=D)(hD:D<=4200):∀(f a b S q:Nat),a<=b->b<=2*2^D->S<2^(q-f)->f<=q->q<=4200->
   logL (2*2^D) (D:Int) f a b S=gl (2^D) false f a b S:=by
 intro f
 induction f with
 |zero=>
   intro a b S q _ _ hS _ hq
   rw[logL,gl,Ygy (e:=q+1) (by
     have:=Nat.one_le_two_pow (n:=q)
     rw[YE2];rw[Nat.sub_zero]at hS;omega) (by omega)]
 |succ f ih=>
   intro a b S q hab hb hS hfq hq
   have hbb:b*b<=2^(2*D+2):=by
     have:=YEV hb hb
     rw[show 2*D+2=D+1+(D+1)by omega,YEO,YE2,YEJ (2^D)]
     exact this
   have haa:a*a<=b*b:=YEV hab hab
   have l1:∀x,x<=2^(2*D+2)->x<2^(2*D+3):=fun x hx=>by
     have:(2:Nat)^(2*D+3)=2*2^(2*D+2):=by rw[Nat.pow_succ',]
     have:=Nat.one_le_two_pow (n:=2*D+2)
     omega
   have ea:mulW a a=a*a:=Yh9 (l1 _ (by omega)) (by omega)
   have eb:mulW b b=b*b:=Yh9 (l1 _ (by omega)) (by omega)
   have fa:movW (a*a) (-(D:Int)) false=a*a/2^D:=Yv9 (by omega) (l1 _ (by omega)) (by omega)
   have fb:movW (b*b) (-(D:Int)) true=cdiv (b*b) (2^D):=YnV (by omega) (l1 _ (by omega)) (by omega)
   have hA:a*a/2^D<=cdiv (b*b) (2^D):=YdM haa
   have hB:cdiv (b*b) (2^D)<=4*2^D:=YaR (by
     rw[show 2*D+2=2+D+D by omega,YEO,YEO]at hbb
     exact hbb)
   have hB2:cdiv (b*b) (2^D)<2^(D+3):=by
     have:(2:Nat)^(D+3)=8*2^D:=by rw[YEO,YEJ]
     have:=Nat.one_le_two_pow (n:=D)
     omega
   have hq2:q-f=q-(f+1)+1:=by omega
   have hS2:2*S+1<2^(q-f):=by rw[hq2,YE2];omega
   have hqq:(2:Nat)^(q-f)<=2^q:=YE7 (by decide) (by omega)
   have es1:movW S 1 false=2*S:=by
     have:=Yh8 (a:=S) (d:=1) (e:=q) (by rw[Nat.pow_one];omega) (by omega)
     rw[Nat.pow_one,YEJ]at this
     exact this
   have es2:∀b,b<=1->addW (2*S) b=2*S+b:=fun b hb=>Ygy (e:=q) (by omega) (by omega)
   have hSf:(S+1)*2^(f+1)<=2^q:=by
     have:(2:Nat)^q=2^(q-(f+1))*2^(f+1):=by rw[<-YEO];congr 1;omega
     rw[this]
     exact YEF _ hS
   have hSf0:S*2^(f+1)<=(S+1)*2^(f+1):=YEF _ (by omega)
   have lq:∀x,x<=2^q->x<2^(q+1):=fun x hx=>by
     have:=Nat.one_le_two_pow (n:=q)
     rw[YE2];omega
   have st1:movW S ((f+1:Nat):Int) false=S*2^(f+1):=Yh8 (lq _ (by omega)) (by omega)
   have st2:movW (addW S 1) ((f+1:Nat):Int) false=(S+1)*2^(f+1):=by
     rw[Ygy (e:=q+1) (lq _ (by
       have:(2:Nat)^(q-(f+1))<=2^q:=YE7 (by decide) (by omega)
       omega)) (by omega)]
     exact Yh8 (lq _ (by omega)) (by omega)
   rw[logL,gl,ea,eb,fa,fb,es1,st1,st2]
   by_cases c1:a*a/2^D<2*2^D
   . rw[if_pos c1,if_pos c1]
     by_cases c2:cdiv (b*b) (2^D)<2*2^D
     . rw[if_pos c2,if_pos c2,es2 0 (by omega),Nat.add_zero]
       exact ih _ _ _ q hA (by omega) (by omega) (by omega) hq
     . rw[if_neg c2,if_neg c2]
   . have g1:movW (a*a/2^D) (-1) false=a*a/2^D/2:=by
       have:=Yv9 (a:=a*a/2^D) (d:=1) (by decide) (YFp hA hB2) (by omega)
       rw[Nat.pow_one]at this
       exact this
     have g2:movW (cdiv (b*b) (2^D)) (-1) true=cdiv (cdiv (b*b) (2^D)) 2:=by
       have:=YnV (a:=cdiv (b*b) (2^D)) (d:=1) (by decide) hB2 (by omega)
       rw[Nat.pow_one]at this
       exact this
     rw[if_neg c1,if_neg c1,Bool.false_and,if_neg (by decide),g1,g2,es2 1 (by omega)]
     exact ih _ _ _ q (YdM hA) (YaR (by omega)) (by omega) (by omega) hq
theorem Yx6{n p:Nat}(h1:1<=n)(h2:n<4611686018427387904)(hp:p<=2048):logF (n:Int) p=lN n p:=by
 have hk:lgK n<62:=YeT (by decide) h2
 have hk2:lgK n<2^6:=by rw[show(2:Nat)^6=64 from rfl];omega
 unfold logF lN
 rw[YEB]
 by_cases c:YbN (n:Int)=true
 . rw[if_pos c,if_pos c]
   have e:movW (lgK n) (p:Int) false=lgK n*2^p:=Yh8 (e:=6+p) (by rw[YEO];exact Nat.mul_lt_mul_of_pos_right hk2 (YFj (by decide))) (by omega)
   show(movW (lgK n) (p:Int) false,movW (lgK n) (p:Int) false)=_
   rw[e]
 . rw[if_neg c,if_neg c]
   obtain⟨D,hD⟩:∃D,D=2*p+64:=⟨_,rfl⟩
   rw[<-hD]
   obtain⟨m1,m2,m3⟩:=mant (D:=D) h1 (by omega)
   have hD1:2*2^D<2^(D+2):=by
     have:(2:Nat)^(D+2)=4*2^D:=by rw[YEO,YEJ]
     have:=Nat.one_le_two_pow (n:=D)
     omega
   have ea:movW n ((D:Int)-((Yy n-1:Nat):Int)) false=n*2^(D-lgK n):=by
     rw[show((D:Int)-((Yy n-1:Nat):Int))=((D-lgK n:Nat):Int)by unfold lgK at hk⊢;omega]
     exact Yh8 (e:=D+2) (by omega) (by omega)
   have e2:movW 2 (D:Int) false=2*2^D:=Yh8 (e:=D+2) hD1 (by omega)
   show logL (movW 2 (D:Int) false) (D:Int) p (movW n ((D:Int)-((Yy n-1:Nat):Int)) false) (movW n ((D:Int)-((Yy n-1:Nat):Int)) false) (lgK n)=_
   rw[ea,e2]
   exact Yx8 (by omega) (by omega) p _ _ _ (p+6) (YEK _) (YFJ m2) (by rw[show p+6-p=6 by omega];exact hk2) (by omega) (by omega)
theorem Yle{n:Nat}(h1:1<=n)(h2:n<4611686018427387904)(c:YbN (n:Int)=true)(p:Nat):2^(lgK n*2^p)<=n^(2^p)/\n^(2^p)<=2^(lgK n*2^p):=by
 have e0:=Yuq h1 h2 c
 have e:n^(2^p)=2^(lgK n*2^p):=by
   rw[YET,<-e0]
 rw[e];exact⟨YEK _,YEK _⟩
theorem Yn9{n:Nat}(h1:1<=n)(h2:n<4611686018427387904):2^(qN n).1<=n^(2^28)/\n^(2^28)<=2^(qN n).2:=by
 unfold qN
 by_cases c:YbN (n:Int)=true
 . rw[if_pos c]
   exact Yle h1 h2 c 28
 . rw[if_neg c]
   have hk:lgK n<62:=YeT (by decide) h2
   obtain⟨m1,m2,m3⟩:=mant (D:=63) h1 (by omega)
   exact Yjd _ true (by decide) 28 _ _ _ n (YFA m3) (YFA m3.symm) m1 (YFJ m2)
theorem Ygb{n p:Nat}(h1:1<=n)(h2:n<4611686018427387904):2^(lN n p).1<=n^(2^p)/\n^(2^p)<=2^(lN n p).2:=by
 unfold lN
 by_cases c:YbN (n:Int)=true
 . rw[if_pos c]
   exact Yle h1 h2 c p
 . rw[if_neg c]
   have hk:lgK n<62:=YeT (by decide) h2
   obtain⟨m1,m2,m3⟩:=mant (D:=2*p+64) h1 (by omega)
   exact Yjd _ false (YFj (by decide)) p _ _ _ n (YFA m3) (YFA m3.symm) m1 (YFJ m2)
theorem YkU{n p:Nat}(h1:1<=n)(h2:n<4611686018427387904)(hp:28<=p):(qN n).1*2^(p-28)<=(lN n p).1/\(lN n p).2<=(qN n).2*2^(p-28):=by
 unfold lN qN
 by_cases c:YbN (n:Int)=true
 . rw[if_pos c,if_pos c]
   have e:lgK n*2^28*2^(p-28)=lgK n*2^p:=by
     rw[YEH,<-YEO];congr 2;omega
   simp only
   rw[e];exact⟨YEK _,YEK _⟩
 . rw[if_neg c,if_neg c]
   have hk:lgK n<62:=YeT (by decide) h2
   have eM:(2:Nat)^(2*p+64)=9223372036854775808*2^(2*p+1):=by
     rw[show(9223372036854775808:Nat)=2^63 from rfl,<-YEO];congr 1;omega
   have eA:n*2^(2*p+64-lgK n)=2^(2*p+1)*(n*2^(63-lgK n)):=by
     rw[show 2*p+64-lgK n=2*p+1+(63-lgK n)by omega,YEO,YEX]
   have:=YkJ 9223372036854775808 (2^(2*p+1)) true (by decide) (YFj (by decide)) (p-28) 28 (n*2^(63-lgK n)) (n*2^(63-lgK n)) (lgK n) _ _ (YFA eA.symm) (YEK _) (YFA eA)
   rw[<-eM,show 28+(p-28)=p by omega]at this
   exact this
def upS(g:Nat->Nat):List (Int×Int)->Nat
 | []=>0
 |x::l=>(if x.2<0 then 0 else g x.1.toNat*x.2.toNat)+upS g l
def dnS(g:Nat->Nat):List (Int×Int)->Nat
 | []=>0
 |x::l=>(if x.2<0 then g x.1.toNat*(-x.2).toNat else 0)+dnS g l
def upP:List (Int×Int)->Nat
 | []=>1
 |x::l=>(if x.2<0 then 1 else x.1.toNat^x.2.toNat)*upP l
def dnP:List (Int×Int)->Nat
 | []=>1
 |x::l=>(if x.2<0 then x.1.toNat^(-x.2).toNat else 1)*dnP l
def okU(x:Int×Int):Prop:=1<=x.1/\x.1<=1000000000001/\ -3000000000000000<=x.2/\x.2<=3000000000000000
theorem YCu{x:Int×Int}(h:okU x):okT x:=⟨h.1,h.2.1,by have:=h.2.2.1;omega,by have:=h.2.2.2;omega⟩
theorem YbP{x:Int×Int}(h:okU x):1<=x.1.toNat/\x.1.toNat<4611686018427387904/\x.1=(x.1.toNat:Int):=by
 obtain⟨h1,h2,h3,h4⟩:=h
 omega
theorem YeX{K g h n e:Nat}(H:2^g<=n^K/\n^K<=2^h):2^(g*e)<=(n^e)^K/\(n^e)^K<=2^(h*e):=by
 rw[YET,YET,<-YET n,YEJ e K,YET]
 exact⟨YEP H.1 _,YEP H.2 _⟩
theorem YaK{K:Nat}{g h:Nat->Nat}(H:∀n,1<=n->n<4611686018427387904->2^g n<=n^K/\n^K<=2^h n):∀(l:List (Int×Int)),(∀x,x∈l->okU x)->
   (2^upS g l<=upP l^K/\upP l^K<=2^upS h l)/\2^dnS g l<=dnP l^K/\dnP l^K<=2^dnS h l
 | [],_=>by simp [upS,upP,dnS,dnP]
 |x::l,hl=>by
   obtain⟨⟨a1,a2⟩,b1,b2⟩:=YaK H l fun y hy=>hl y (YEN _ hy)
   obtain⟨n1,n2,_⟩:=YbP (hl x (YES ..))
   have hx:=H _ n1 n2
   rw[upS,upS,upP,dnS,dnS,dnP,YEZ,YEZ,YEO,YEO,YEO,YEO]
   by_cases c:x.2<0
   . simp only[if_pos c,Nat.pow_zero,Nat.one_pow,YFo]
     obtain⟨p1,p2⟩:=YeX (e:=(-x.2).toNat) hx
     exact⟨⟨a1,a2⟩,YEV p1 b1,YEV p2 b2⟩
   . simp only[if_neg c,Nat.pow_zero,Nat.one_pow,YFo]
     obtain⟨p1,p2⟩:=YeX (e:=x.2.toNat) hx
     exact⟨⟨YEV p1 a1,YEV p2 a2⟩,b1,b2⟩
theorem S_le{g:Nat->Nat}{B:Nat}(H:∀n,1<=n->n<4611686018427387904->g n<=B):∀(l:List (Int×Int)),(∀x,x∈l->okU x)->upS g l<=l.length*(B*3000000000000000)/\dnS g l<=l.length*(B*3000000000000000)
 | [],_=>by simp [upS,dnS]
 |x::l,hl=>by
   obtain⟨a1,a2⟩:=S_le H l fun y hy=>hl y (YEN _ hy)
   have hx:=hl x (YES ..)
   obtain⟨n1,n2,_⟩:=YbP hx
   obtain⟨_,_,x3,x4⟩:=hx
   have h1:=YEV (H _ n1 n2) (show x.2.toNat<=3000000000000000 by omega)
   have h2:=YEV (H _ n1 n2) (show(-x.2).toNat<=3000000000000000 by omega)
   rw[upS,dnS,YFb,YE4,YFo]
   constructor
   . split <;> omega
   . split <;> omega
theorem YCH{n:Nat}(h1:1<=n)(h2:n<4611686018427387904):(qN n).1<=(qN n).2/\(qN n).2<=17179869184:=by
 have hs:=Yn9 h1 h2
 have hk:lgK n<62:=YeT (by decide) h2
 refine⟨(Nat.pow_le_pow_iff_right (by decide)).1 (YEQ hs.1 hs.2),?_⟩
 unfold qN
 split
 . show lgK n*268435456<=_;omega
 . have:=(YgQ 9223372036854775808 true 28 (n*2^(63-lgK n)) (n*2^(63-lgK n)) (lgK n)).2
   rw[show(2:Nat)^28=268435456 from rfl]at this
   omega
theorem YxQ{n p:Nat}(h1:1<=n)(h2:n<4611686018427387904):(lN n p).1<=(lN n p).2/\(lN n p).2<=64*2^p:=by
 have hs:=Ygb (p:=p) h1 h2
 have hk:lgK n<62:=YeT (by decide) h2
 refine⟨(Nat.pow_le_pow_iff_right (by decide)).1 (YEQ hs.1 hs.2),?_⟩
 unfold lN
 split
 . exact YEF _ (by omega)
 . exact YEQ (YgQ _ false p _ _ (lgK n)).2 (YEF _ (by omega))
theorem Ygo{g h:Nat->Nat}(H:∀n,1<=n->n<4611686018427387904->g n<=h n):∀(l:List (Int×Int)),(∀x,x∈l->okU x)->upS g l<=upS h l/\dnS g l<=dnS h l
 | [],_=>by simp [upS,dnS]
 |x::l,hl=>by
   obtain⟨a1,a2⟩:=Ygo H l fun y hy=>hl y (YEN _ hy)
   obtain⟨n1,n2,_⟩:=YbP (hl x (YES ..))
   have h1:=YEF x.2.toNat (H _ n1 n2)
   have h2:=YEF (-x.2).toNat (H _ n1 n2)
   rw[upS,dnS,upS,dnS]
   constructor
   . split <;> omega
   . split <;> omega
def Yaq(a:Int×Int):Int:=a.1*18446744073709551616+a.2
theorem Ysy{M t:Int}(hM:0<M):t/M*M+t%M=t:=Int.ediv_mul_add_emod ..
theorem YeW{a:Int×Int}{x y:Int}(ha:okL a)(h0:0<=x*y)(h:Yaq a+x*y<340282366920938463463374607431768211456):Yaq (Yd7 a x y)=Yaq a+x*y:=by
 obtain⟨⟨a0,a1⟩,b0,b1⟩:=ha
 unfold Yaq at h⊢
 unfold Yd7
 generalize x*y=t at*
 have e1:=Ysy (M:=18446744073709551616) (t:=t) (by decide)
 have e2:=Ysy (M:=18446744073709551616) (t:=a.2+t%18446744073709551616) (by decide)
 have r1:=Int.emod_nonneg t (show(18446744073709551616:Int)≠0 by decide)
 have r2:=Int.emod_lt_of_pos t (show(0:Int)<18446744073709551616 by decide)
 have r3:=Int.emod_nonneg (a.2+t%18446744073709551616) (show(18446744073709551616:Int)≠0 by decide)
 have r4:=Int.emod_lt_of_pos (a.2+t%18446744073709551616) (show(0:Int)<18446744073709551616 by decide)
 have q1:0<=t/18446744073709551616:=Int.ediv_nonneg h0 (by decide)
 have q2:0<=(a.2+t%18446744073709551616)/18446744073709551616:=Int.ediv_nonneg (by omega) (by decide)
 generalize t%18446744073709551616=lo at*
 generalize t/18446744073709551616=hi at*
 generalize(a.2+lo)%18446744073709551616=r at*
 generalize(a.2+lo)/18446744073709551616=c at*
 rw[IntWalk.u64_in (a.1+hi) (by omega),IntWalk.u64_in (a.1+hi+c) (by omega)]
 omega
theorem Yla{a b:Int×Int}(ha:okL a)(hb:okL b):Yhy a b=decide (Yaq b<Yaq a):=by
 obtain⟨⟨a0,a1⟩,a2,a3⟩:=ha
 obtain⟨⟨b0,b1⟩,b2,b3⟩:=hb
 unfold Yhy Yaq
 by_cases c:b.1<a.1
 . rw[decide_eq_true c,Bool.true_or,decide_eq_true (by omega)]
 . rw[decide_eq_false c,Bool.false_or]
   by_cases d:a.1=b.1
   . rw[decide_eq_true d,Bool.true_and,d]
     by_cases e:b.2<a.2
     . rw[decide_eq_true e,decide_eq_true (by omega)]
     . rw[decide_eq_false e,decide_eq_false (by omega)]
   . rw[decide_eq_false d,Bool.false_and,decide_eq_false (by omega)]
theorem YnQ:∀(l:List (Int×Int))(s:Gss),s.ok->(∀x,x∈l->okU x)->
   Yaq s.u0+(upS (fun n=>(qN n).1) l:Nat)<340282366920938463463374607431768211456->Yaq s.u1+(upS (fun n=>(qN n).2) l:Nat)<340282366920938463463374607431768211456->
   Yaq s.d0+(dnS (fun n=>(qN n).1) l:Nat)<340282366920938463463374607431768211456->Yaq s.d1+(dnS (fun n=>(qN n).2) l:Nat)<340282366920938463463374607431768211456->
   (l.foldl gssS s).ok/\Yaq (l.foldl gssS s).u0=Yaq s.u0+(upS (fun n=>(qN n).1) l:Nat)/\Yaq (l.foldl gssS s).u1=Yaq s.u1+(upS (fun n=>(qN n).2) l:Nat)/\
     Yaq (l.foldl gssS s).d0=Yaq s.d0+(dnS (fun n=>(qN n).1) l:Nat)/\Yaq (l.foldl gssS s).d1=Yaq s.d1+(dnS (fun n=>(qN n).2) l:Nat)
 | [],s,hs,_,_,_,_,_=>by simpa [upS,dnS]using hs
 |x::l,s,hs,hl,h1,h2,h3,h4=>by
   have hx:=hl x (YES ..)
   obtain⟨n1,n2,n3⟩:=YbP hx
   have hq:Ya9 x.1=Yqm (qN x.1.toNat):=by
     conv=>lhs;rw[n3]
     exact Ysa n1 n2
   obtain⟨k1,k2,k3,k4⟩:=hs
   have ih:=YnQ l (gssS s x) (YqW s x ⟨k1,k2,k3,k4⟩) fun y hy=>hl y (YEN _ hy)
   rw[upS,YFH]at h1 h2
   rw[dnS,YFH]at h3 h4
   rw[List.foldl_cons,upS,upS,dnS,dnS,YFH,YFH,YFH,YFH]
   by_cases c:x.2<0
   . rw[if_pos c]at h1 h2 h3 h4
     simp only[if_pos c]
     have c0:¬0<=x.2:=by omega
     have hm:∀z:Nat,(z:Int)*(-x.2)=((z*(-x.2).toNat:Nat):Int):=fun z=>by rw[YFe];congr 1;omega
     have hz:∀z:Nat,0<=(z:Int)*(-x.2):=fun z=>YEL (by omega) (by omega)
     have e:gssS s x= { s with d0:=Yd7 s.d0 ((qN x.1.toNat).1:Nat) (-x.2),d1:=Yd7 s.d1 ((qN x.1.toNat).2:Nat) (-x.2)}:=by rw[gssS,if_neg c0,hq];rfl
     have p0:=YeW (x:=((qN x.1.toNat).1:Nat)) (y:= -x.2) k3 (hz _) (by rw[hm];omega)
     have p1:=YeW (x:=((qN x.1.toNat).2:Nat)) (y:= -x.2) k4 (hz _) (by rw[hm];omega)
     rw[hm]at p0 p1
     rw[e]at ih⊢
     simp only at ih h1 h2 h3 h4
     rw[p0,p1]at ih
     obtain⟨i0,i1,i2,i3,i4⟩:=ih (by omega) (by omega) (by omega) (by omega)
     exact⟨i0,by omega,by omega,by omega,by omega⟩
   . rw[if_neg c]at h1 h2 h3 h4
     simp only[if_neg c]
     have c0:0<=x.2:=by omega
     have hm:∀z:Nat,(z:Int)*x.2=((z*x.2.toNat:Nat):Int):=fun z=>by rw[YFe];congr 1;omega
     have hz:∀z:Nat,0<=(z:Int)*x.2:=fun z=>YEL (by omega) (by omega)
     have e:gssS s x= { s with u0:=Yd7 s.u0 ((qN x.1.toNat).1:Nat) x.2,u1:=Yd7 s.u1 ((qN x.1.toNat).2:Nat) x.2}:=by rw[gssS,if_pos c0,hq];rfl
     have p0:=YeW (x:=((qN x.1.toNat).1:Nat)) (y:=x.2) k1 (hz _) (by rw[hm];omega)
     have p1:=YeW (x:=((qN x.1.toNat).2:Nat)) (y:=x.2) k2 (hz _) (by rw[hm];omega)
     rw[hm]at p0 p1
     rw[e]at ih⊢
     simp only at ih h1 h2 h3 h4
     rw[p0,p1]at ih
     obtain⟨i0,i1,i2,i3,i4⟩:=ih (by omega) (by omega) (by omega) (by omega)
     exact⟨i0,by omega,by omega,by omega,by omega⟩
theorem YnR{l:List (Int×Int)}(hl:∀x,x∈l->okU x)(hn:l.length<=100):YgR l=
   if dnS (fun n=>(qN n).2) l<upS (fun n=>(qN n).1) l then(1,true)else if upS (fun n=>(qN n).2) l<dnS (fun n=>(qN n).1) l then(-1,true)else(0,false):=by
 obtain⟨a1,a2⟩:=S_le (g:=fun n=>(qN n).2) (fun n h1 h2=>(YCH h1 h2).2) l hl
 obtain⟨b1,b2⟩:=Ygo (g:=fun n=>(qN n).1) (h:=fun n=>(qN n).2) (fun n h1 h2=>(YCH h1 h2).1) l hl
 have hb:l.length*(17179869184*3000000000000000)<=100*(17179869184*3000000000000000):=YEF _ hn
 have z:Yaq (0,0)=0:=rfl
 have h0:gss0.ok:=by simp [Gss.ok,gss0,okL]
 obtain⟨⟨k1,k2,k3,k4⟩,v1,v2,v3,v4⟩:=YnQ l gss0 h0 hl (by show Yaq (0,0)+_<_;omega) (by show Yaq (0,0)+_<_;omega) (by show Yaq (0,0)+_<_;omega) (by show Yaq (0,0)+_<_;omega)
 have v1:Yaq (l.foldl gssS gss0).u0=(upS (fun n=>(qN n).1) l:Nat):=by rw[v1];show Yaq (0,0)+_=_;omega
 have v2:Yaq (l.foldl gssS gss0).u1=(upS (fun n=>(qN n).2) l:Nat):=by rw[v2];show Yaq (0,0)+_=_;omega
 have v3:Yaq (l.foldl gssS gss0).d0=(dnS (fun n=>(qN n).1) l:Nat):=by rw[v3];show Yaq (0,0)+_=_;omega
 have v4:Yaq (l.foldl gssS gss0).d1=(dnS (fun n=>(qN n).2) l:Nat):=by rw[v4];show Yaq (0,0)+_=_;omega
 unfold YgR
 simp only
 rw[Yla k1 k4,Yla k3 k2,v1,v2,v3,v4]
 simp only[Int.ofNat_lt,decide_eq_true_eq]
theorem Ylu{p:Nat}(hp:p<=2048):∀(l:List (Int×Int))(s:Bnd)(e:Nat),(∀x,x∈l->okU x)->e<=32*512->
   s.ul+upS (fun n=>(lN n p).1) l<2^e->s.uh+upS (fun n=>(lN n p).2) l<2^e->s.dl+dnS (fun n=>(lN n p).1) l<2^e->s.dh+dnS (fun n=>(lN n p).2) l<2^e->
   l.foldl (Ydy p) s=⟨s.ul+upS (fun n=>(lN n p).1) l,s.uh+upS (fun n=>(lN n p).2) l,s.dl+dnS (fun n=>(lN n p).1) l,s.dh+dnS (fun n=>(lN n p).2) l⟩
 | [],s,e,_,_,_,_,_,_=>by simp [upS,dnS]
 |x::l,s,e,hl,he,h1,h2,h3,h4=>by
   have hx:=hl x (YES ..)
   obtain⟨n1,n2,n3⟩:=YbP hx
   have hq:logF x.1 p=lN x.1.toNat p:=by
     conv=>lhs;rw[n3]
     exact Yx6 n1 n2 hp
   have ih:=Ylu hp l (Ydy p s x) e (fun y hy=>hl y (YEN _ hy)) he
   rw[upS]at h1 h2
   rw[dnS]at h3 h4
   rw[List.foldl_cons,upS,upS,dnS,dnS]
   by_cases c:x.2<0
   . rw[if_pos c]at h1 h2 h3 h4
     simp only[if_pos c]
     have e:Ydy p s x= { s with dl:=s.dl+(lN x.1.toNat p).1*(-x.2).toNat,dh:=s.dh+(lN x.1.toNat p).2*(-x.2).toNat}:=by
       rw[Ydy,if_pos c,hq]
       rw[Yh9 (e:=e) (by omega) he,Yh9 (e:=e) (by omega) he,Ygy (e:=e) (by omega) he,Ygy (e:=e) (by omega) he]
     rw[e]at ih⊢
     simp only at ih
     rw[ih (by omega) (by omega) (by omega) (by omega)]
     simp only[Bnd.mk.injEq]
     omega
   . rw[if_neg c]at h1 h2 h3 h4
     simp only[if_neg c]
     have e:Ydy p s x= { s with ul:=s.ul+(lN x.1.toNat p).1*x.2.toNat,uh:=s.uh+(lN x.1.toNat p).2*x.2.toNat}:=by
       rw[Ydy,if_neg c,hq]
       rw[Yh9 (e:=e) (by omega) he,Yh9 (e:=e) (by omega) he,Ygy (e:=e) (by omega) he,Ygy (e:=e) (by omega) he]
     rw[e]at ih⊢
     simp only at ih
     rw[ih (by omega) (by omega) (by omega) (by omega)]
     simp only[Bnd.mk.injEq]
     omega
theorem YsE{l:List (Int×Int)}{p:Nat}(hp:p<=2048)(hl:∀x,x∈l->okU x)(hn:l.length<=100):Yco l p=⟨upS (fun n=>(lN n p).1) l,upS (fun n=>(lN n p).2) l,dnS (fun n=>(lN n p).1) l,dnS (fun n=>(lN n p).2) l⟩:=by
 obtain⟨a1,a2⟩:=S_le (g:=fun n=>(lN n p).2) (B:=64*2^p) (fun n h1 h2=>(YxQ h1 h2).2) l hl
 obtain⟨b1,b2⟩:=Ygo (g:=fun n=>(lN n p).1) (h:=fun n=>(lN n p).2) (fun n h1 h2=>(YxQ h1 h2).1) l hl
 have hb:l.length*(64*2^p*3000000000000000)<=100*(64*2^p*3000000000000000):=YEF _ hn
 have hp2:100*(64*2^p*3000000000000000)<2^(p+65):=by
   have:(2:Nat)^(p+65)=36893488147419103232*2^p:=by rw[YEO,YEJ]
   have:=Nat.one_le_two_pow (n:=p)
   omega
 unfold Yco
 rw[Ylu hp l ⟨0,0,0,0⟩ (p+65) hl (by omega) (by simp only;omega) (by simp only;omega) (by simp only;omega) (by simp only;omega)]
 simp only[YFv]
inductive Spn (L:List Nat):Nat->Prop
 |one:Spn L 1
 |mul {x y:Nat}:x∈L->Spn L y->Spn L (x*y)
theorem Spn.mem{L:List Nat}{x:Nat}(h:x∈L):Spn L x:=by
 have:=Spn.mul h Spn.one
 rwa [YFI]at this
theorem Spn.mul2{L:List Nat}{x y:Nat}(hx:Spn L x)(hy:Spn L y):Spn L (x*y):=by
 induction hx with
 |one=>rwa [YFo]
 |mul h _ ih=>rw[YEH];exact .mul h ih
theorem Spn.sub{L L':List Nat}(h:∀x,x∈L->Spn L' x){y:Nat}(hy:Spn L y):Spn L' y:=by
 induction hy with
 |one=>exact .one
 |mul hx _ ih=>exact(h _ hx).mul2 ih
def Cop(r:List Nat):Prop:=r.Pairwise fun a b=>YFt a b=1
theorem YeI{B:Nat}:∀{f:Nat}{wait out:List Nat},DrOk B f wait out->Cop out->Cop (Ycz f wait out)/\∀y,Spn (out++wait) y->Spn (Ycz f wait out) y
 |0,wait,out,h,hc=>by
   have hw:wait=[]:=List.length_eq_zero_iff.1 (by have:=h.mu;omega)
   rw[Ycz,hw,List.append_nil]
   exact⟨hc,fun _ h=>h⟩
 |f+1,wait,out,h,hc=>by
   rw[Ycz]
   by_cases hw:wait.length=0
   . rw[if_pos hw]
     have hw:wait=[]:=List.length_eq_zero_iff.1 hw
     rw[hw,List.append_nil]
     exact⟨hc,fun _ h=>h⟩
   . rw[if_neg hw]
     have e:=Yd2 hw
     by_cases h1:wait.getD (wait.length-1) 0=1
     . rw[if_pos h1]
       obtain⟨g,hg,hd⟩:=h.pop hw h1
       obtain rfl:f=g:=by omega
       obtain⟨k1,k2⟩:=YeI hd hc
       refine⟨k1,fun y hy=>k2 y (hy.sub fun x hx=>?_)⟩
       rw[e,YE3,YE3,YFg]at hx
       rcases hx with hx|hx|hx
       . exact .mem (List.mem_append_left _ hx)
       . exact .mem (List.mem_append_right _ hx)
       . rw[hx,h1];exact .one
     . rw[if_neg h1]
       have hsp:=YcG (f:=fun i=>decide (1<YFt (out.getD i 0) (wait.getD (wait.length-1) 0))) out.length 0
       have hn:1<=wait.getD (wait.length-1) 0:=(h.wp _ (YN (l:=wait) (i:=wait.length-1) (by omega))).1
       by_cases h2:hitF out (wait.getD (wait.length-1) 0)<out.length
       . rw[if_pos h2]
         have hs:=hsp.2.2.2 (by simpa [hitF]using h2)
         obtain⟨g,hg,hd⟩:=h.hit hw h2 (of_decide_eq_true hs)
         obtain rfl:f=g:=by omega
         have e':=Yop h2
         generalize hitF out (wait.getD (wait.length-1) 0)=i at*
         have hsub:List.Sublist (out.take i++out.drop (i+1)) out:=by
           conv=>rhs;rw[e']
           exact(List.sublist_cons_self _ _).append_left _
         obtain⟨k1,k2⟩:=YeI hd (List.Pairwise.sublist hsub hc)
         refine⟨k1,fun y hy=>k2 y (hy.sub fun x hx=>?_)⟩
         generalize hL:out.take i++out.drop (i+1)++(wait.take (wait.length-1)++[YFt (out.getD i 0) (wait.getD (wait.length-1) 0),out.getD i 0/YFt (out.getD i 0) (wait.getD (wait.length-1) 0),wait.getD (wait.length-1) 0/YFt (out.getD i 0) (wait.getD (wait.length-1) 0)])=L
         have mL:∀z,z∈out.take i\/z∈out.drop (i+1)\/z∈wait.take (wait.length-1)\/z=YFt (out.getD i 0) (wait.getD (wait.length-1) 0)\/z=out.getD i 0/YFt (out.getD i 0) (wait.getD (wait.length-1) 0)\/z=wait.getD (wait.length-1) 0/YFt (out.getD i 0) (wait.getD (wait.length-1) 0)->Spn L z:=fun z hz=>by
           refine .mem ?_
           rw[<-hL]
           simp only[YE3,YE5,List.not_mem_nil,or_false]
           rcases hz with hz|hz|hz|hz|hz|hz
           . exact .inl (.inl hz)
           . exact .inl (.inr hz)
           . exact .inr (.inl hz)
           . exact .inr (.inr (.inl hz))
           . exact .inr (.inr (.inr (.inl hz)))
           . exact .inr (.inr (.inr (.inr hz)))
         rcases YE3.1 hx with hx|hx
         . rw[e']at hx
           rcases YE3.1 hx with hx|hx
           . exact mL _ (.inl hx)
           . rcases YE5.1 hx with hx|hx
             . rw[hx]
               have:=(mL _ (.inr (.inr (.inr (.inl rfl))))).mul2 (mL _ (.inr (.inr (.inr (.inr (.inl rfl))))))
               rwa [Nat.mul_div_cancel' (Nat.gcd_dvd_left _ _)]at this
             . exact mL _ (.inr (.inl hx))
         . rw[e]at hx
           rcases YE3.1 hx with hx|hx
           . exact mL _ (.inr (.inr (.inl hx)))
           . rw[YFg]at hx
             rw[hx]
             have:=(mL _ (.inr (.inr (.inr (.inl rfl))))).mul2 (mL _ (.inr (.inr (.inr (.inr (.inr rfl))))))
             rwa [Nat.mul_div_cancel' (Nat.gcd_dvd_right _ _)]at this
       . rw[if_neg h2]
         obtain⟨g,hg,hd⟩:=h.push hw h1
         obtain rfl:f=g:=by omega
         have hcop:Cop (out++[wait.getD (wait.length-1) 0]):=by
           refine List.pairwise_append.2 ⟨hc,List.pairwise_singleton _ _,fun a ha b hb=>?_⟩
           rw[YFg]at hb
           rw[hb]
           obtain⟨j,hj,hja⟩:=YuK ha
           have:=hsp.2.2.1 j (by omega) (by show j<hitF out _;omega)
           have:=of_decide_eq_false this
           rw[show out.getD j 0=a from hja]at this
           have:=Nat.gcd_pos_of_pos_right a hn
           omega
         obtain⟨k1,k2⟩:=YeI hd hcop
         refine⟨k1,fun y hy=>k2 y (hy.sub fun x hx=>?_)⟩
         rw[e,YE3,YE3,YFg]at hx
         refine .mem ?_
         rw[YE3,YE3,YFg]
         rcases hx with hx|hx|hx
         . exact .inl (.inl hx)
         . exact .inr hx
         . exact .inl (.inr hx)
theorem Yng{l:List (Int×Int)}(hl:∀x,x∈l->okT x)(hn:l.length<=20):Cop (YiQ l)/\∀x,x∈l->Spn (YiQ l) x.1.toNat:=by
 have key:∀i,i<=l.length->((∀x,x∈(l.take i).foldl Ybj []->2<=x/\x<=1099511627776)/\Yy (Yw ((l.take i).foldl Ybj []))<=40*i+1)/\Cop ((l.take i).foldl Ybj [])/\∀x,x∈l.take i->Spn ((l.take i).foldl Ybj []) x.1.toNat:=fun i=>by
   induction i with
   |zero=>exact fun _=>⟨⟨fun x hx=>absurd hx (by simp),by simp [Yw];decide⟩,List.Pairwise.nil,fun x hx=>absurd hx (by simp)⟩
   |succ i ih=>
     intro hi
     obtain⟨⟨h1,h2⟩,h3,h4⟩:=ih (by omega)
     have hx:=hl _ (YN (by omega:i<l.length))
     rw[YF (by omega),Ydz (by omega)]
     obtain⟨q0,q1,q2,q3⟩:=hx
     have hd:=DrOk.start (N:=(l.getD i default).1.toNat) (by omega) (by omega) h1 h2 (by omega)
     obtain⟨d1,d2⟩:=YeI hd h3
     refine⟨Yc3 hd,d1,fun y hy=>?_⟩
     rcases YE3.1 hy with hy|hy
     . exact d2 _ ((h4 y hy).sub fun z hz=> .mem (List.mem_append_left _ hz))
     . rw[YFg]at hy
       rw[hy]
       exact d2 _ (.mem (List.mem_append_right _ (YFg.2 rfl)))
 have:=(key l.length (YEK _)).2
 rwa [YFF]at this
def vl:Nat->Nat->Nat->Nat
 |0,_,_=>0
 |f+1,b,x=>if x%b=0 then vl f b (x/b)+1 else 0
theorem Ymn{b:Nat}(hb:2<=b):∀(f x:Nat),1<=x->x<2^f->∀e,b^e∣x↔e<=vl f b x
 |0,x,h1,h2,_=>by simp at h2;omega
 |f+1,x,h1,h2,e=>by
   rw[vl]
   by_cases c:x%b=0
   . rw[if_pos c]
     obtain⟨y,rfl⟩:=Nat.dvd_of_mod_eq_zero c
     have hy:1<=y:=Nat.pos_of_ne_zero fun h=>by rw[h,Nat.mul_zero]at h1;omega
     rw[Nat.mul_div_cancel_left _ (by omega)]
     have hy2:y<2^f:=by
       have:2*y<=b*y:=YEF _ hb
       rw[YE2]at h2;omega
     cases e with
     |zero=>simp
     |succ e=>
       rw[YE2,YEJ,Nat.mul_dvd_mul_iff_left (by omega),Ymn hb f y hy hy2]
       omega
   . rw[if_neg c]
     cases e with
     |zero=>simp
     |succ e=>
       refine⟨fun h=>absurd (Nat.mod_eq_zero_of_dvd (Nat.dvd_trans ⟨b^e,by rw[YE2,YEJ]⟩ h)) c,fun h=>by omega⟩
theorem YEr{r:List Nat}(hc:Cop r)(h2:∀x,x∈r->2<=x){b c y:Nat}(hb:b∈r)(hcm:c∈r)(hy:1<=y)(hyl:c*y<2^64):vl 64 b (c*y)=vl 64 b y+if b=c then 1 else 0:=by
 have hb2:=h2 _ hb
 have hc2:=h2 _ hcm
 have hcy:1<=c*y:=YFm (by omega) hy
 have hy2:y<2^64:=YFp (Nat.le_mul_of_pos_left _ (by omega)) hyl
 have s1:=Ymn hb2 64 (c*y) hcy hyl
 have s2:=Ymn hb2 64 y hy hy2
 have ext:∀A B:Nat,(∀e,e<=A↔e<=B)->A=B:=fun A B h=>Nat.le_antisymm ((h A).1 (YEK _)) ((h B).2 (YEK _))
 refine ext _ _ fun e=>?_
 rw[<-s1 e]
 by_cases ebc:b=c
 . rw[if_pos ebc,<-ebc]
   cases e with
   |zero=>simp
   |succ e=>
     rw[YE2,YEJ,Nat.mul_dvd_mul_iff_left (by omega),s2 e]
     omega
 . rw[if_neg ebc,Nat.add_zero,<-s2 e]
   have hg:YFt b c=1:=by
     obtain⟨i,hi,rfl⟩:=List.mem_iff_getElem.1 hb
     obtain⟨j,hj,rfl⟩:=List.mem_iff_getElem.1 hcm
     rcases Nat.lt_trichotomy i j with h|h|h
     . exact List.pairwise_iff_getElem.1 hc i j hi hj h
     . subst h;exact absurd rfl ebc
     . rw[Nat.gcd_comm];exact List.pairwise_iff_getElem.1 hc j i hj hi h
   exact⟨fun h=>Nat.Coprime.dvd_of_dvd_mul_left (Nat.Coprime.pow_left e hg) h,fun h=>Nat.dvd_trans h (Nat.dvd_mul_left _ _)⟩
def PV(e:Nat->Nat):List Nat->Nat
 | []=>1
 |b::r=>b^e b*PV e r
theorem Ybn{e e':Nat->Nat}:∀{r:List Nat},(∀b,b∈r->e b=e' b)->PV e r=PV e' r
 | [],_=>rfl
 |b::r,h=>by rw[PV,PV,h b (YES ..),Ybn fun x hx=>h x (YEN _ hx)]
theorem Ygn:∀(r:List Nat),PV (fun _=>0) r=1
 | []=>rfl
 |b::r=>by rw[PV,Ygn r];rfl
theorem Ymt(e e':Nat->Nat):∀(r:List Nat),PV (fun b=>e b+e' b) r=PV e r*PV e' r
 | []=>rfl
 |b::r=>by rw[PV,PV,PV,Ymt e e' r,YEO,Nat.mul_mul_mul_comm]
theorem Ypg(e:Nat->Nat)(k:Nat):∀(r:List Nat),PV (fun b=>e b*k) r=PV e r^k
 | []=>by simp [PV]
 |b::r=>by rw[PV,PV,Ypg e k r,YET,YEZ]
theorem Yvy{c:Nat}:∀{r:List Nat},Cop r->(∀x,x∈r->2<=x)->c∈r->PV (fun b=>if b=c then 1 else 0) r=c
 |b::r,hc,h2,hm=>by
   obtain⟨g1,g2⟩:=List.pairwise_cons.1 hc
   have hb2:=h2 b (YES ..)
   rw[PV]
   by_cases e:b=c
   . subst e
     rw[if_pos rfl,Nat.pow_one]
     have:PV (fun x=>if x=b then 1 else 0) r=PV (fun _=>0) r:=Ybn fun x hx=>by
       refine if_neg fun hh=>?_
       have:=g1 x hx
       rw[hh,Nat.gcd_self]at this
       omega
     rw[this,Ygn,YFI]
   . rw[if_neg e,Nat.pow_zero,YFo]
     refine Yvy g2 (fun x hx=>h2 x (YEN _ hx)) ?_
     rcases YE5.1 hm with h|h
     . exact absurd h.symm e
     . exact h
theorem PV_is{r:List Nat}(hc:Cop r)(h2:∀x,x∈r->2<=x){y:Nat}(hy:Spn r y):1<=y/\(y<2^64->PV (fun b=>vl 64 b y) r=y):=by
 induction hy with
 |one=>
   refine⟨YEK _,fun _=>?_⟩
   rw[Ybn (e':=fun _=>0) fun b hb=>?_,Ygn]
   have hb2:=h2 b hb
   rw[vl,if_neg (by rw[Nat.mod_eq_of_lt (by omega)];decide)]
 | @mul x y hx _ ih=>
   obtain⟨i1,i2⟩:=ih
   have hx2:=h2 x hx
   refine⟨YFm (by omega) i1,fun hlt=>?_⟩
   rw[Ybn fun b hb=>YEr hc h2 hb hx i1 hlt,Ymt,Yvy hc h2 hx,i2 (YFp (Nat.le_mul_of_pos_left _ (by omega)) hlt),YEJ]
theorem Yxi{b:Nat}(hb:2<=b)(hbl:b<=1099511627776){num:Int}(hn: -3000000000000000<=num/\num<=3000000000000000):∀(f x:Nat)(s:Int),x<4611686018427387904->f<=64-> -4500000000000000000+f*3000000000000000<=s->s<=4500000000000000000-f*3000000000000000->
   divL f (b:Int) (x:Int) num s=s+num*(vl f b x:Nat):=
 by
 intro f
 induction f with
 |zero=>intro x s _ _ _ _;simp [divL,vl]
 |succ f ih=>
   intro x s hx hf h1 h2
   rw[divL,vl]
   have e1:(x:Int).tmod (b:Int)=((x%b:Nat):Int):=rfl
   have e2:(x:Int).tdiv (b:Int)=((x/b:Nat):Int):=rfl
   rw[e1,e2]
   by_cases c:x%b=0
   . have hq:x/b<=x:=Nat.div_le_self _ _
     rw[if_pos (by omega),if_pos c]
     generalize x/b=q at*
     rw[YED _ (by omega),YED (s+num) (by omega),ih q (s+num) (by omega) (by omega) (by omega) (by omega),YFH,Int.mul_add]
     simp only[Int.natCast_one,Int.mul_one]
     omega
   . rw[if_neg (by omega),if_neg c];simp
theorem YsD{b:Nat}(hb:2<=b)(hbl:b<=1099511627776):∀(l:List (Int×Int))(s:Int),(∀x,x∈l->okU x)->l.length<=100-> -4500000000000000000+(l.length+1)*192000000000000000<=s->s<=4500000000000000000-(l.length+1)*192000000000000000->
   l.foldl (fun s x=>divL 64 b x.1 x.2 s) s=s+(upS (vl 64 b) l:Nat)-(dnS (vl 64 b) l:Nat):=
 by
 intro l
 induction l with
 |nil=>intro s _ _ _ _;simp [upS,dnS]
 |cons x l ihl=>
   intro s hl hn h1 h2
   have hx:=hl x (YES ..)
   obtain⟨n1,n2,n3⟩:=YbP hx
   obtain⟨_,_,x3,x4⟩:=hx
   rw[YFb]at hn h1 h2
   have hv:vl 64 b x.1.toNat<=64:=by
     have key:∀f y,vl f b y<=f:=fun f=>by
       induction f with
       |zero=>intro y;exact YEK _
       |succ f ih=>
         intro y
         rw[vl]
         split
         . have:=ih (y/b);omega
         . omega
     exact key 64 _
   have hd:divL 64 (b:Int) x.1 x.2 s=s+x.2*(vl 64 b x.1.toNat:Nat):=by
     conv=>lhs;rw[n3]
     exact Yxi hb hbl ⟨x3,x4⟩ 64 _ s n2 (by decide) (by omega) (by omega)
   have hb1:x.2*(vl 64 b x.1.toNat:Nat)<=3000000000000000*64:=by
     refine Int.le_trans (YE1 x4 (by omega)) ?_
     exact YEM (by omega) (by decide)
   have hb2: -3000000000000000*64<=x.2*(vl 64 b x.1.toNat:Nat):=by
     refine Int.le_trans ?_ (YE1 x3 (by omega))
     omega
   rw[List.foldl_cons,hd,ihl _ (fun y hy=>hl y (YEN _ hy)) (by omega) (by omega) (by omega),upS,dnS]
   by_cases c:x.2<0
   . rw[if_pos c,if_pos c]
     have:x.2*(vl 64 b x.1.toNat:Nat)= -((vl 64 b x.1.toNat*(-x.2).toNat:Nat):Int):=by
       rw[YFe,show(((-x.2).toNat:Nat):Int)= -x.2 by omega,Int.mul_neg,Int.neg_neg,Int.mul_comm]
     rw[this];omega
   . rw[if_neg c,if_neg c]
     have:x.2*(vl 64 b x.1.toNat:Nat)=((vl 64 b x.1.toNat*x.2.toNat:Nat):Int):=by
       rw[YFe,show((x.2.toNat:Nat):Int)=x.2 by omega,Int.mul_comm]
     rw[this];omega
theorem P_is{r:List Nat}(hc:Cop r)(h2:∀x,x∈r->2<=x):∀(l:List (Int×Int)),(∀x,x∈l->okU x/\Spn r x.1.toNat)->
   upP l=PV (fun b=>upS (vl 64 b) l) r/\dnP l=PV (fun b=>dnS (vl 64 b) l) r
 | [],_=>by
   constructor
   . exact(Ygn r).symm
   . exact(Ygn r).symm
 |x::l,hl=>by
   obtain⟨i1,i2⟩:=P_is hc h2 l fun y hy=>hl y (YEN _ hy)
   obtain⟨hx,hs⟩:=hl x (YES ..)
   obtain⟨n1,n2,n3⟩:=YbP hx
   have e:=(PV_is hc h2 hs).2 (by omega)
   rw[upP,dnP,i1,i2]
   by_cases c:x.2<0
   . rw[if_pos c,if_pos c]
     constructor
     . rw[YFo]
       exact Ybn fun b _=>by rw[upS,if_pos c,YFv]
     . have:∀b,dnS (vl 64 b) (x::l)=vl 64 b x.1.toNat*(-x.2).toNat+dnS (vl 64 b) l:=fun b=>by rw[dnS,if_pos c]
       rw[Ybn fun b _=>this b,Ymt,Ypg,e]
   . rw[if_neg c,if_neg c]
     constructor
     . have:∀b,upS (vl 64 b) (x::l)=vl 64 b x.1.toNat*x.2.toNat+upS (vl 64 b) l:=fun b=>by rw[upS,if_neg c]
       rw[Ybn fun b _=>this b,Ymt,Ypg,e]
     . rw[YFo]
       exact Ybn fun b _=>by rw[dnS,if_neg c,YFv]
theorem Yk8{l:List (Int×Int)}(hl:∀x,x∈l->okU x)(hn:l.length<=20)(h:oneF l=true):upP l=dnP l:=by
 have hT:∀x,x∈l->okT x:=fun x hx=>YCu (hl x hx)
 obtain⟨hc,hs⟩:=Yng hT hn
 have hr:=YgC hT hn
 obtain⟨e1,e2⟩:=P_is hc (fun x hx=>(hr x hx).1) l fun x hx=>⟨hl x hx,hs x hx⟩
 rw[e1,e2]
 refine Ybn fun b hb=>?_
 have hb2:=hr b hb
 have h0:=of_decide_eq_true (List.all_eq_true.1 h b hb)
 unfold sumB at h0
 rw[YsD hb2.1 hb2.2 l 0 hl (by omega) (by omega) (by omega)]at h0
 omega
def Und(l:List (Int×Int))(p:Nat):Prop:=upS (fun n=>(lN n p).1) l<=dnS (fun n=>(lN n p).2) l/\dnS (fun n=>(lN n p).1) l<=upS (fun n=>(lN n p).2) l
theorem YrE{a b K:Nat}(h:a^K<b^K):a<b:=by
 refine Nat.lt_of_not_le fun hh=>?_
 have:=YEP hh K
 omega
theorem Yaj{a b x y K:Nat}(ha:a^K<=2^x)(hb:2^y<=b^K)(h:x<y):a<b:=by
 refine YrE (K:=K) ?_
 have:(2:Nat)^x<2^y:=(Nat.pow_lt_pow_iff_right (by decide)).2 h
 omega
theorem Ymd{l:List (Int×Int)}(hl:∀x,x∈l->okU x)(hn:l.length<=20):∀(f p:Nat),1<=f->1<=p->p*2^f=4096->
   (Ycn f l p=1->dnP l<upP l)/\(Ycn f l p= -1->upP l<dnP l)/\(Ycn f l p=0->Und l 2048)/\(Ycn f l p=1\/Ycn f l p= -1\/Ycn f l p=0):=by
 intro f
 induction f with
 |zero=>intro p h;omega
 |succ f ih=>
   intro p _ hp1 hp
   have h1:=Yaa f
   rw[YE2]at hp
   have hp2:p<=2048:=by
     have:p*2<=p*(2^f*2):=YEG _ (by omega)
     omega
   have hs:=YsE (p:=p) hp2 hl (by omega)
   obtain⟨⟨a1,a2⟩,b1,b2⟩:=YaK (K:=2^p) (g:=fun n=>(lN n p).1) (h:=fun n=>(lN n p).2) (fun n k1 k2=>Ygb k1 k2) l hl
   rw[Ycn,hs]
   dsimp only
   by_cases c1:dnS (fun n=>(lN n p).2) l<upS (fun n=>(lN n p).1) l
   . rw[if_pos c1]
     exact⟨fun _=>Yaj b2 a1 c1,fun h=>absurd h (by decide),fun h=>absurd h (by decide),Or.inl rfl⟩
   . rw[if_neg c1]
     by_cases c2:upS (fun n=>(lN n p).2) l<dnS (fun n=>(lN n p).1) l
     . rw[if_pos c2]
       exact⟨fun h=>absurd h (by decide),fun _=>Yaj a2 b1 c2,fun h=>absurd h (by decide),Or.inr (Or.inl rfl)⟩
     . rw[if_neg c2]
       rcases YFk f with h0|h0
       . subst h0
         have e:p=2048:=by rw[Nat.pow_zero]at hp;omega
         subst e
         exact⟨fun h=>absurd h (by rw[Ycn];decide),fun h=>absurd h (by rw[Ycn];decide),fun _=>⟨by omega,by omega⟩,Or.inr (Or.inr rfl)⟩
       . exact ih (2*p) h0 (by omega) (by rw[<-hp,YEJ 2 p,YEH,YEJ 2])
theorem Yo1{l:List (Int×Int)}(hl:∀x,x∈l->okU x)(hn:l.length<=20):
   (Yaz l=1->dnP l<upP l)/\(Yaz l= -1->upP l<dnP l)/\(Yaz l=0->oneF l=true\/Und l 2048)/\(Yaz l=1\/Yaz l= -1\/Yaz l=0):=by
 have hg:=YnR hl (by omega)
 obtain⟨⟨a1,a2⟩,b1,b2⟩:=YaK (K:=2^28) (g:=fun n=>(qN n).1) (h:=fun n=>(qN n).2) (fun n k1 k2=>Yn9 k1 k2) l hl
 unfold Yaz
 by_cases c1:dnS (fun n=>(qN n).2) l<upS (fun n=>(qN n).1) l
 . rw[if_pos c1]at hg
   rw[hg,if_pos rfl]
   exact⟨fun _=>Yaj b2 a1 c1,fun h=>absurd h (by decide),fun h=>absurd h (by decide),Or.inl rfl⟩
 . rw[if_neg c1]at hg
   by_cases c2:upS (fun n=>(qN n).2) l<dnS (fun n=>(qN n).1) l
   . rw[if_pos c2]at hg
     rw[hg,if_pos rfl]
     exact⟨fun h=>absurd h (by decide),fun _=>Yaj a2 b1 c2,fun h=>absurd h (by decide),Or.inr (Or.inl rfl)⟩
   . rw[if_neg c2]at hg
     rw[hg,if_neg (by decide)]
     by_cases c3:oneF l=true
     . rw[if_pos c3]
       exact⟨fun h=>absurd h (by decide),fun h=>absurd h (by decide),fun _=>Or.inl c3,Or.inr (Or.inr rfl)⟩
     . rw[if_neg c3]
       obtain⟨k1,k2,k3,k4⟩:=Ymd hl hn 6 64 (by decide) (by decide) (by decide)
       exact⟨k1,k2,fun h=>Or.inr (k3 h),k4⟩
theorem Ytf{g h w:Nat->Nat}{c:Nat}:∀(l:List (Int×Int)),(∀x,x∈l->h x.1.toNat<=g x.1.toNat+w x.1.toNat*c)->upS h l<=upS g l+upS w l*c/\dnS h l<=dnS g l+dnS w l*c
 | [],_=>by simp [upS,dnS]
 |x::l,H=>by
   obtain⟨i1,i2⟩:=Ytf l fun y hy=>H y (YEN _ hy)
   have hx:=H x (YES ..)
   have key:∀e:Nat,h x.1.toNat*e<=g x.1.toNat*e+w x.1.toNat*e*c:=fun e=>by
     have h1:=YEF e hx
     rw[YE4]at h1
     rw[YEH (w x.1.toNat),YEJ e c,<-YEH]
     exact h1
   rw[upS,upS,upS,dnS,dnS,dnS,YE4,YE4]
   constructor
   . split
     . rw[Nat.zero_mul];omega
     . have:=key x.2.toNat;omega
   . split
     . have:=key (-x.2).toNat;omega
     . rw[Nat.zero_mul];omega
theorem Yot{l:List (Int×Int)}{J:Nat}{w:Nat->Nat}(hJ:J<=2048)(hl:∀x,x∈l->okU x)(hw:∀x,x∈l->(lN x.1.toNat 2048).2<=(lN x.1.toNat 2048).1+w x.1.toNat*2^(2048-J))(h:Und l 2048):
   dnP l^(2^J)<=upP l^(2^J)*2^(upS w l+dnS w l):=by
 obtain⟨⟨a1,a2⟩,b1,b2⟩:=YaK (K:=2^2048) (g:=fun n=>(lN n 2048).1) (h:=fun n=>(lN n 2048).2) (fun n k1 k2=>Ygb k1 k2) l hl
 obtain⟨s1,s2⟩:=Ytf (g:=fun n=>(lN n 2048).1) (h:=fun n=>(lN n 2048).2) (w:=w) (c:=2^(2048-J)) l hw
 obtain⟨_,h2⟩:=h
 obtain⟨c,hc⟩:∃c,c=2^(2048-J):=⟨_,rfl⟩
 obtain⟨K,hK⟩:∃K,K=(2:Nat)^2048:=⟨_,rfl⟩
 have hc0:c≠0:=by rw[hc];have:=Yaa (2048-J);omega
 have hKc:K=2^J*c:=by rw[hK,hc,<-YEO];congr 1;omega
 rw[<-hc]at s1 s2
 rw[<-hK]at a1 a2 b1 b2
 rw[<-Nat.pow_le_pow_iff_left hc0,YEZ,<-YET,<-YET,<-hKc,<-YET,YE4]
 refine YEQ b2 ?_
 refine YEQ (YE7 (by decide) (show _<=upS (fun n=>(lN n 2048).1) l+(upS w l*c+dnS w l*c)by omega)) ?_
 rw[YEO]
 exact YEF _ a1
theorem bern(Q:Nat):∀n,Q^n*(Q+n)<=Q*(Q+1)^n
 |0=>by simp
 |n+1=>by
   have ih:=bern Q n
   have h1:Q^(n+1)*(Q+(n+1))=Q*(Q^n*(Q+n))+Q*Q^n:=by
     rw[YE2,<-Nat.add_assoc,YFw,YFI,YEJ (Q^n) Q,YEH]
   have h2:Q*(Q+1)^(n+1)=Q*(Q*(Q+1)^n)+Q*(Q+1)^n:=by
     rw[YE2,YFw,YFI,YFw,YEJ ((Q+1)^n) Q]
   have h3:=YEG Q (YEP (show Q<=Q+1 by omega) n)
   have h4:=YEG Q ih
   omega
theorem Ywt(Q:Nat)(hQ:0<Q):2*Q^Q<=(Q+1)^Q:=by
 have:=bern Q Q
 refine Nat.le_of_mul_le_mul_left (c:=Q) ?_ hQ
 have e:Q*(2*Q^Q)=Q^Q*(Q+Q):=by rw[YFw,Nat.two_mul,YFw,YEJ Q]
 omega
def Near(M W J N m:Nat):Prop:=2^m*M<=N^(2^J)*M+2^m*W/\N^(2^J)*M<=2^m*(M+W)
theorem Near.mono{M W W' J N m:Nat}(h:Near M W J N m)(hw:W<=W'):Near M W' J N m:=by
 obtain⟨h1,h2⟩:=h
 have k1:=YEG (2^m) hw
 have k2:=YEG (2^m) (show M+W<=M+W' by omega)
 exact⟨by omega,by omega⟩
theorem Near.sq{M W J N m:Nat}(hM:0<M)(hW:W<=M)(h:Near M W J N m):Near M (3*W) (J+1) N (2*m):=by
 obtain⟨h1,h2⟩:=h
 unfold Near
 have e0:N^2^(J+1)=N^2^J*N^2^J:=by rw[YE2,YET,Nat.pow_two]
 rw[e0,Ydp]
 generalize N^2^J=X at*
 generalize 2^m=P at*
 constructor
 . refine YEY (c:=M) ?_ hM
   have k1:P*(M-W)<=X*M:=by rw[Nat.mul_sub];omega
   have k2:=YEV k1 k1
   obtain⟨V,hV⟩:∃V,V=M-W:=⟨_,rfl⟩
   have hM2:M=V+W:=by omega
   rw[<-hV]at k2
   have e1:P*V*(P*V)=P*P*(V*V):=by simp only[YEH,YEX]
   have e2:(X*M)*(X*M)=X*X*M*M:=by simp only[YEH,YEX]
   have e3:P*P*M*M=P*P*(M*M):=by simp only[YEH]
   have e4:(X*X*M+P*P*(3*W))*M=X*X*M*M+P*P*(3*W*M):=by rw[YE4,YEH (P*P)]
   have e5:M*M<=V*V+3*W*M:=by
     rw[hM2,YE4,YFw,YFw,YFw]
     have:W*V=V*W:=YEJ ..
     have h3:3*W*V=3*(W*V):=YEH ..
     have h4:3*W*W=3*(W*W):=YEH ..
     omega
   have e6:=YEG (P*P) e5
   rw[YFw]at e6
   omega
 . refine YEY (c:=M) ?_ hM
   have k2:=YEV h2 h2
   have e1:P*(M+W)*(P*(M+W))=P*P*((M+W)*(M+W)):=by simp only[YEH,YEX]
   have e2:(X*M)*(X*M)=X*X*M*M:=by simp only[YEH,YEX]
   have e3:P*P*(M+3*W)*M=P*P*((M+3*W)*M):=by simp only[YEH]
   have e5:(M+W)*(M+W)<=(M+3*W)*M:=by
     rw[YE4,YFw,YFw,YE4]
     have h3:3*W*M=3*(W*M):=YEH ..
     have h4:M*W=W*M:=YEJ ..
     have h5:=YEG W hW
     omega
   have e6:=YEG (P*P) e5
   omega
theorem YxC(M:Nat)(hM:0<M):∀(J f A B S N w:Nat),J<=f->2^S*A<=N*M->N*M<=2^S*B->M<=A->A<=B->B<=2*M->B<=A+w->
   (gl M false f A B S).2<=(gl M false f A B S).1+2^(f-J)\/∃j m,j<=J/\Near M (4^j*(w+2)) j N m:=by
 intro J
 induction J with
 |zero=>
   intro f A B S N w _ _ _ _ _ _ _
   obtain⟨h1,h2⟩:=YgQ M false f A B S
   rw[YE4,YFo]at h2
   left
   rw[Nat.sub_zero]
   omega
 |succ J ih=>
   intro f A B S N w hf h1 h2 ha hab hb hw
   obtain⟨f,rfl⟩:∃g,f=g+1:=⟨f-1,by omega⟩
   have hA:A*A/M*M<=A*A:=YFx _ _
   have hA':A*A<(A*A/M+1)*M:=by
     have:=YFB (A*A) M
     have h3:=YFD (A*A) hM
     rw[YE4,YFo,YEJ (A*A/M)];omega
   have hB:B*B<=cdiv (B*B) M*M:=Ybo _ _ hM
   have k1:=Ywr hM h1 hA
   have k2:=Ysz hM h2 hB
   have hA1:M<=A*A/M:=(YFu hM).2 (YEV ha ha)
   have hAB:A*A/M<=cdiv (B*B) M:=YdM (YEV hab hab)
   have hB1:cdiv (B*B) M<=4*M:=YaR (by
     have:=YEV hb hb
     have e:4*M*M=2*M*(2*M):=by rw[Nat.mul_mul_mul_comm,YEH]
     omega)
   have hW:cdiv (B*B) M<=A*A/M+(4*w+2):=YaR (by
     obtain⟨v,rfl⟩:∃v,B=A+v:=⟨B-A,by omega⟩
     have e:(A+v)*(A+v)=A*A+v*(A+(A+v)):=by
       rw[YFw,YE4 A v A,YFw v A,YEJ (A+v) v]
       omega
     have e2:v*(A+(A+v))<=w*(4*M):=YEV (by omega) (by omega)
     have e3:(A*A/M+(4*w+2))*M=(A*A/M+1)*M+w*(4*M)+M:=by
       rw[YE4,YE4,YE4]
       have:4*w*M=w*(4*M):=by rw[YEJ 4 w,YEH]
       omega
     omega)
   have lift:∀{j w':Nat},w'+2<=4*(w+2)->∀{m},j<=J->Near M (4^j*(w'+2)) j (N*N) m->∃j m,j<=J+1/\Near M (4^j*(w+2)) j N m:=fun {j w'} hw' {m} hj hn=>by
     refine⟨j+1,m,by omega,?_⟩
     have hm:4^j*(w'+2)<=4^(j+1)*(w+2):=by
       rw[YE2,YEH]
       exact YEG _ hw'
     have:=hn.mono hm
     unfold Near at this⊢
     rw[Yn3]
     exact this
   rw[gl,Nat.add_sub_add_right]
   split
   . split
     . have:=ih f (A*A/M) (cdiv (B*B) M) (2*S) (N*N) (4*w+2) (by omega) (by rw[Ydp];exact k1) (by rw[Ydp];exact k2) hA1 hAB (by omega) hW
       rcases this with h| ⟨j,m,hj,hn⟩
       . exact Or.inl h
       . exact Or.inr (lift (by omega) hj hn)
     . right
       refine⟨1,2*S+1,by omega,?_⟩
       unfold Near
       rw[Nat.pow_one,Nat.pow_two,Nat.pow_one,YE2,Ydp]
       have g1:2^S*2^S*(2*M)<=2^S*2^S*(A*A/M+(4*w+2)):=YEG _ (by omega)
       have g2:2^S*2^S*cdiv (B*B) M<=2^S*2^S*(2*M+(4*w+2)):=YEG _ (by omega)
       generalize 2^S*2^S=P at*
       rw[YFw]at g1 g2
       have e1:P*2*M=P*(2*M):=YEH ..
       have e2:P*2*(4*(w+2))=P*(4*w+2)+P*(4*w+14):=by rw[YEH,<-YFw];congr 1;omega
       have e3:P*2*(M+4*(w+2))=P*(2*M)+(P*(4*w+2)+P*(4*w+14)):=by rw[YFw,e1,e2]
       exact⟨by omega,by omega⟩
   . rw[if_neg (by simp)]
     have c1:A*A/M/2*2<=A*A/M:=YFx _ _
     have c2:cdiv (B*B) M<=cdiv (cdiv (B*B) M) 2*2:=Ybo _ _ (by decide)
     have e3:∀x,2^(2*S+1)*x=2^S*2^S*(x*2):=fun x=>by rw[YE2,Ydp,YEH,YEJ 2 x]
     have:=ih f (A*A/M/2) (cdiv (cdiv (B*B) M) 2) (2*S+1) (N*N) (2*w+2) (by omega) (by rw[e3];exact YEQ (YEG _ c1) k1) (by rw[e3];exact YEQ k2 (YEG _ c2)) (by omega) (YdM hAB) (YaR (by omega)) (YaR (by omega))
     rcases this with h| ⟨j,m,hj,hn⟩
     . exact Or.inl h
     . exact Or.inr (lift (by omega) hj hn)
theorem Near.up{M N:Nat}(hM:0<M):∀(d j W m:Nat),4^d*W<=M->Near M W j N m->∃m',Near M (4^d*W) (j+d) N m'
 |0,j,W,m,_,h=>⟨m,by rw[Nat.pow_zero,YFo];exact h⟩
 |d+1,j,W,m,hW,h=>by
   have e:4^(d+1)*W=4*(4^d*W):=by rw[YE2,YEJ (4^d) 4,YEH]
   rw[e]at hW
   obtain⟨m',h'⟩:=Near.up hM d j W m (by omega) h
   exact⟨2*m',by rw[e];exact(Near.sq hM (by omega) h').mono (by omega)⟩
def Ybk(J n:Nat):Prop:=(lN n 2048).2<=(lN n 2048).1+2^(2048-J)
theorem YrM{n J:Nat}(h1:1<=n)(h2:n<4611686018427387904)(hJ:J<=500):Ybk J n\/(YbN (n:Int)=false/\∃m,Near (2^4160) (2^2160) J n m):=by
 unfold Ybk lN
 by_cases c:YbN (n:Int)=true
 . rw[if_pos c]
   left;exact Nat.le_add_right _ _
 . rw[if_neg c]
   have hk:lgK n<62:=YeT (by decide) h2
   obtain⟨m1,m2,m3⟩:=mant (D:=2*2048+64) h1 (by omega)
   rw[show 2*2048+64=4160 from rfl]at*
   have hM:=Yaa 4160
   have:=YxC (2^4160) hM J 2048 _ _ (lgK n) n 0 (by omega) (YFA m3) (YFA m3.symm) m1 (YEK _) (YFJ m2) (by omega)
   rcases this with h| ⟨j,m,hj,hn⟩
   . exact Or.inl h
   . right
     have e4:∀a,(4:Nat)^a=2^(2*a):=fun a=>by rw[show 4=2^2 from rfl,<-YET]
     have hle:∀e,1001<=e->4^(J-j)*(4^j*(0+2))<=2^e:=fun e he=>by
       rw[<-YEH,<-YEO,show J-j+j=J by omega,e4,show 0+2=2^1 from rfl,<-YEO]
       exact YE7 (by decide) (by omega)
     obtain⟨m',h'⟩:=Near.up hM (J-j) j _ m (hle 4160 (by decide)) hn
     rw[show j+(J-j)=J by omega]at h'
     exact⟨by simpa using c,m',h'.mono (hle 2160 (by decide))⟩
def RtJ(R J x y m:Nat):Prop:=x^(2^J)<=2^m*R^(2^J)/\2^m*R^(2^J)<=y^(2^J)
theorem RtJ.next{R J x y m c d:Nat}(hR:0<R)(h:RtJ R J x y m)(hc:RtJ R J c d 1):RtJ R J (x*c/R) (y*d/R+1) (m+1):=by
 obtain⟨h1,h2⟩:=h
 obtain⟨c1,c2⟩:=hc
 rw[Nat.pow_one]at c1 c2
 unfold RtJ
 generalize 2^J=Q at*
 have hRQ:0<R^Q:=YFj hR
 rw[YE2]
 generalize 2^m=P at*
 constructor
 . refine YEY (c:=R^Q) ?_ hRQ
   have k1:(x*c/R*R)^Q<=(x*c)^Q:=YEP (YFx _ _) _
   rw[YEZ,YEZ]at k1
   have k2:=YEV h1 c1
   have e:P*R^Q*(2*R^Q)=P*2*R^Q*R^Q:=by simp only[YEH,YEX]
   omega
 . refine YEY (c:=R^Q) ?_ hRQ
   have k0:y*d<=(y*d/R+1)*R:=by
     have:=YFB (y*d) R
     have h3:=YFD (y*d) hR
     rw[YE4,YFo,YEJ (y*d/R)];omega
   have k1:(y*d)^Q<=((y*d/R+1)*R)^Q:=YEP k0 _
   rw[YEZ,YEZ]at k1
   have k2:=YEV h2 c2
   have e:P*R^Q*(2*R^Q)=P*2*R^Q*R^Q:=by simp only[YEH,YEX]
   omega
theorem Yrc{n p q:Nat}(h1:1<=n)(h2:n<4611686018427387904)(hp:p<=q):(lN n p).1*2^(q-p)<=(lN n q).1/\(lN n q).2<=(lN n p).2*2^(q-p):=by
 unfold lN
 by_cases c:YbN (n:Int)=true
 . rw[if_pos c,if_pos c]
   have e:lgK n*2^p*2^(q-p)=lgK n*2^q:=by
     rw[YEH,<-YEO];congr 2;omega
   simp only
   rw[e];exact⟨YEK _,YEK _⟩
 . rw[if_neg c,if_neg c]
   have hk:lgK n<62:=YeT (by decide) h2
   have eM:(2:Nat)^(2*q+64)=2^(2*p+64)*2^(2*(q-p)):=by
     rw[<-YEO];congr 1;omega
   have eA:n*2^(2*q+64-lgK n)=2^(2*(q-p))*(n*2^(2*p+64-lgK n)):=by
     rw[show 2*q+64-lgK n=2*(q-p)+(2*p+64-lgK n)by omega,YEO,YEX]
   have:=YkJ (2^(2*p+64)) (2^(2*(q-p))) false (Yaa _) (Yaa _) (q-p) p (n*2^(2*p+64-lgK n)) (n*2^(2*p+64-lgK n)) (lgK n) _ _ (YFA eA.symm) (YEK _) (YFA eA)
   rw[<-eM,show p+(q-p)=q by omega]at this
   exact this
theorem YlD(g:Nat->Nat)(c:Nat):∀l:List (Int×Int),upS (fun n=>g n*c) l=upS g l*c/\dnS (fun n=>g n*c) l=dnS g l*c
 | []=>by simp [upS,dnS]
 |x::l=>by
   obtain⟨a,b⟩:=YlD g c l
   rw[upS,dnS,upS,dnS,a,b]
   constructor
   . split
     . simp
     . rw[YE4,Nat.mul_right_comm]
   . split
     . rw[YE4,Nat.mul_right_comm]
     . simp
def hiN(n:Nat):Nat:=(lN n 2048).2
def loN(n:Nat):Nat:=(lN n 2048).1
def KB:Nat:=2^2048
def DD:Nat:=2^(2048-100)
def C48:Nat:=2^(2048-48)
theorem Ybt{n:Nat}(h1:1<=n)(h2:n<4611686018427387904):2^loN n<=n^KB/\n^KB<=2^hiN n:=by
 have h:=Ygb (p:=2048) h1 h2
 unfold loN hiN KB
 exact h
theorem Yn8{a b c:Nat}(h:a=b+c):(2:Nat)^a=2^b*2^c:=by rw[h,YEO]
theorem KB_is:KB=2^100*DD/\C48=2^52*DD:=by
 have e1:2048=100+(2048-100):=rfl
 have e2:2048-48=52+(2048-100):=rfl
 have h1:=Yn8 e1
 have h2:=Yn8 e2
 unfold KB C48 DD
 exact⟨h1,h2⟩
theorem Yk3{n:Nat}(h:Ybk 100 n):hiN n<=loN n+DD:=by
 unfold hiN loN DD
 exact h
theorem Yjx{n:Nat}(h:Ybk 48 n):hiN n<=loN n+C48:=by
 unfold hiN loN C48
 exact h
theorem Yjt{n:Nat}(h1:1<=n)(h2:n<4611686018427387904):loN n<=hiN n/\hiN n<=64*KB:=by
 have h:=YxQ (p:=2048) h1 h2
 unfold hiN loN KB
 exact h
theorem Ypa:0<KB:=by
 have h:=Yaa 2048
 unfold KB
 exact h
attribute [irreducible] KB DD C48
theorem Ynv{l:List (Int×Int)}(hl:∀x,x∈l->okU x){p:Nat}{lo hi:Nat->Nat}(hlo:∀n,1<=n->n<4611686018427387904->lo n*2^p<=loN n)(hhi:∀n,1<=n->n<4611686018427387904->hiN n<=hi n*2^p)
   (h:upS hi l<dnS lo l):upS hiN l<dnS loN l:=by
 have a:=(Ygo (g:=hiN) (h:=fun n=>hi n*2^p) hhi l hl).1
 have b:=(Ygo (g:=fun n=>lo n*2^p) (h:=loN) hlo l hl).2
 rw[(YlD hi _ l).1]at a
 rw[(YlD lo _ l).2]at b
 have:=Nat.mul_lt_mul_of_pos_right h (Yaa p)
 omega
theorem Yst{l:List (Int×Int)}(hl:∀x,x∈l->okU x)(hn:l.length<=20):∀(f p:Nat),1<=f->1<=p->p*2^f=4096->Ycn f l p= -1->upS hiN l<dnS loN l:=by
 intro f
 induction f with
 |zero=>intro p h;omega
 |succ f ih=>
   intro p _ hp1 hp
   have h1:=Yaa f
   rw[YE2]at hp
   have hp2:p<=2048:=by
     have:p*2<=p*(2^f*2):=YEG _ (by omega)
     omega
   have hs:=YsE (p:=p) hp2 hl (by omega)
   rw[Ycn,hs]
   dsimp only
   by_cases c1:dnS (fun n=>(lN n p).2) l<upS (fun n=>(lN n p).1) l
   . rw[if_pos c1]
     exact fun h=>absurd h (by decide)
   . rw[if_neg c1]
     by_cases c2:upS (fun n=>(lN n p).2) l<dnS (fun n=>(lN n p).1) l
     . intro _
       exact Ynv hl (p:=2048-p) (fun n a b=>(Yrc a b hp2).1) (fun n a b=>(Yrc a b hp2).2) c2
     . rw[if_neg c2]
       rcases YFk f with h0|h0
       . subst h0
         exact fun h=>absurd h (by rw[Ycn];decide)
       . exact ih (2*p) h0 (by omega) (by rw[<-hp,YEJ 2 p,YEH,YEJ 2])
theorem Yve{l:List (Int×Int)}(hl:∀x,x∈l->okU x)(hn:l.length<=20)(h:Yaz l= -1):upS hiN l<dnS loN l:=by
 have hg:=YnR hl (by omega)
 unfold Yaz at h
 by_cases c1:dnS (fun n=>(qN n).2) l<upS (fun n=>(qN n).1) l
 . rw[if_pos c1]at hg
   rw[hg,if_pos rfl]at h
   exact absurd h (by decide)
 . rw[if_neg c1]at hg
   by_cases c2:upS (fun n=>(qN n).2) l<dnS (fun n=>(qN n).1) l
   . exact Ynv hl (p:=2048-28) (fun n a b=>(YkU a b (by decide)).1) (fun n a b=>(YkU a b (by decide)).2) c2
   . rw[if_neg c2]at hg
     rw[hg,if_neg (by decide)]at h
     by_cases c3:oneF l=true
     . rw[if_pos c3]at h
       exact absurd h (by decide)
     . rw[if_neg c3]at h
       exact Yst hl hn 6 64 (by decide) (by decide) (by decide) h
theorem Yhk{l:List (Int×Int)}(hl:∀x,x∈l->okU x)(hn:l.length<=20):0<=Yaz l↔dnS loN l<=upS hiN l:=by
 obtain⟨g1,g2,g3,g4⟩:=Yo1 hl hn
 constructor
 . intro h
   refine Nat.le_of_not_lt fun hlt=>?_
   obtain⟨⟨a1,a2⟩,b1,b2⟩:=YaK (K:=KB) (g:=loN) (h:=hiN) (fun n k1 k2=>Ybt k1 k2) l hl
   have hP:=Yaj a2 b1 hlt
   rcases g4 with e|e|e
   . have:=g1 e;omega
   . omega
   . rcases g3 e with o|o
     . have:=Yk8 hl hn o;omega
     . have:dnS loN l<=upS hiN l:=o.2
       omega
 . intro h
   rcases g4 with e|e|e
   . omega
   . have:=Yve hl hn e;omega
   . omega
theorem Ype{b:Nat}(e:Nat->Nat):∀{r:List Nat},(∀x,x∈r->YFt b x=1)->YFt b (PV e r)=1
 | [],_=>by simp [PV]
 |c::r,h=>by
   have h1:Nat.Coprime b c:=h c (YES ..)
   have h2:Nat.Coprime b (PV e r):=Ype e fun x hx=>h x (YEN _ hx)
   exact Nat.Coprime.mul_right (Nat.Coprime.pow_right _ h1) h2
theorem Yr4{b x y P P':Nat}(hb:2<=b)(h1:YFt b P=1)(hP:0<P)(h:b^x*P=b^y*P'):y<=x:=by
 refine Nat.le_of_not_lt fun hlt=>?_
 obtain⟨d,rfl⟩:∃d,y=x+(d+1):=⟨y-x-1,by omega⟩
 rw[YEO,YEH]at h
 have h2:=Nat.eq_of_mul_eq_mul_left (YFj (by omega)) h
 have h3:b∣P:=by rw[h2,YE2,Nat.mul_right_comm];exact Nat.dvd_mul_left ..
 have h4:b∣YFt b P:=Nat.dvd_gcd (Nat.dvd_refl b) h3
 rw[h1]at h4
 have:=Nat.le_of_dvd (by decide) h4
 omega
theorem Ypf{e:Nat->Nat}:∀{r:List Nat},(∀x,x∈r->2<=x)->0<PV e r
 | [],_=>by simp [PV]
 |b::r,h=>YFm (YFj (by have:=h b (YES ..);omega)) (Ypf fun x hx=>h x (YEN _ hx))
theorem Yvx{e e':Nat->Nat}:∀{r:List Nat},Cop r->(∀x,x∈r->2<=x)->PV e r=PV e' r->∀b,b∈r->e b=e' b
 | [],_,_,_,b,hb=>by cases hb
 |c::r,hc,h2,h,b,hb=>by
   obtain⟨g1,g2⟩:=List.pairwise_cons.1 hc
   have h2':∀x,x∈r->2<=x:=fun x hx=>h2 x (YEN _ hx)
   have hc2:=h2 c (YES ..)
   rw[PV,PV]at h
   have l1:=Yr4 hc2 (Ype e g1) (Ypf h2') h
   have l2:=Yr4 hc2 (Ype e' g1) (Ypf h2') h.symm
   have he:e c=e' c:=Nat.le_antisymm l2 l1
   rw[he]at h
   have h3:=Nat.eq_of_mul_eq_mul_left (YFj (by omega)) h
   rcases YE5.1 hb with rfl|hb
   . exact he
   . exact Yvx g2 h2' h3 b hb
theorem Yyp{l:List (Int×Int)}(hl:∀x,x∈l->okU x)(hn:l.length<=20):oneF l=true↔upP l=dnP l:=by
 refine⟨Yk8 hl hn,fun h=>?_⟩
 have hT:∀x,x∈l->okT x:=fun x hx=>YCu (hl x hx)
 obtain⟨hc,hs⟩:=Yng hT hn
 have hr:=YgC hT hn
 obtain⟨e1,e2⟩:=P_is hc (fun x hx=>(hr x hx).1) l fun x hx=>⟨hl x hx,hs x hx⟩
 rw[e1,e2]at h
 refine List.all_eq_true.2 fun b hb=>decide_eq_true ?_
 have hb2:=hr b hb
 unfold sumB
 rw[YsD hb2.1 hb2.2 l 0 hl (by omega) (by omega) (by omega),Yvx hc (fun x hx=>(hr x hx).1) h b hb]
 omega
end Go.Proofs.YtfjodiojchknmaaGreatDoor
set_option maxRecDepth 100000
namespace Go.Proofs.YtfjodiojchknmaaGreatDoor.LB
theorem id31(K d:Int):K*((24*K^3+18*K^2*(d+1)+6*K*(d+1)^2+(d+1)^3)*(24*K^3-6*K^2*d))-(K+1)*((24*K^3+18*K^2*d+6*K*d^2+d^3)*(24*K^3-6*K^2*(d+1)))=
  6*d^4*K^2+(288*K^5+144*K^4*d+18*K^3*d^2+6*K^2*d^3)+(24*K^4-6*K^3*d):=by grind
theorem id22(K d:Int):K*((12*K^2+6*K*d+d^2)*(12*K^2-6*K*(d+1)+(d+1)^2))-(K-1)*((12*K^2+6*K*(d+1)+(d+1)^2)*(12*K^2-6*K*d+d^2))=d^4+12*K^2*d+(12*K^2-6*K*d+d^2)*(6*K+2*d)+(12*K^2-6*K*d+d^2):=by grind
theorem sq_nn(a:Int):0<=a*a:=by
 rcases Int.le_total 0 a with h|h
 . exact YEL h h
 . have:=YEL (show 0<= -a by omega) (show 0<= -a by omega)
   grind
theorem YD{a b c:Int}(h:a<=b)(hc:0<=c):a*c<=b*c:=YE1 h hc
theorem up31{K:Int}(hK:1<=K):∀d:Nat,(d:Int)<=4*K->(K+1)^d*(24*K^3-6*K^2*d)<=K^d*(24*K^3+18*K^2*d+6*K*(d:Int)^2+(d:Int)^3)
 |0,_=>by simp
 |d+1,h=>by
   have ih:=up31 hK d (by omega)
   have hd0:(0:Int)<=d:=Int.natCast_nonneg d
   have h1:((d+1:Nat):Int)=(d:Int)+1:=by omega
   rw[h1]at h⊢
   generalize(d:Int)=e at*
   have hk:(0:Int)<=K^d:=YFE (by omega)
   have hg:(0:Int)<=(K+1)^d:=YFE (by omega)
   have hD:0<24*K^3-6*K^2*e:=by
     have:24*K^3-6*K^2*e=6*K^2*(4*K-e):=by grind
     rw[this]
     exact Int.mul_pos (Int.mul_pos (by decide) (Int.pow_pos (by omega))) (by omega)
   have hD1:0<=24*K^3-6*K^2*(e+1):=by
     have:24*K^3-6*K^2*(e+1)=6*K^2*(4*K-(e+1)):=by grind
     rw[this]
     exact YEL (YEL (by decide) (YFE (by omega))) (by omega)
   have hid:=id31 K e
   have hnn:0<=6*e^4*K^2+(288*K^5+144*K^4*e+18*K^3*e^2+6*K^2*e^3)+(24*K^4-6*K^3*e):=by
     have e1:24*K^4-6*K^3*e=6*K^3*(4*K-e):=by grind
     have p:∀i j:Nat,0<=K^i*e^j:=fun i j=>YEL (YFE (by omega)) (YFE hd0)
     have q1:0<=6*K^3*(4*K-e):=YEL (YEL (by decide) (YFE (by omega))) (by omega)
     have:=p 2 4;have:=p 5 0;have:=p 4 1;have:=p 3 2;have:=p 2 3
     grind
   generalize hDd:24*K^3-6*K^2*e=D at*
   generalize hDe:24*K^3-6*K^2*(e+1)=D1 at*
   generalize 24*K^3+18*K^2*e+6*K*e^2+e^3=P at*
   generalize 24*K^3+18*K^2*(e+1)+6*K*(e+1)^2+(e+1)^3=P1 at*
   rw[Int.pow_succ,Int.pow_succ]
   generalize(K+1)^d=g at*
   generalize K^d=k at*
   refine Int.le_of_mul_le_mul_right (a:=D) ?_ hD
   have s1:g*D*((K+1)*D1)<=k*P*((K+1)*D1):=YD ih (YEL (by omega) hD1)
   have s2:k*((K+1)*(P*D1))<=k*(K*(P1*D)):=YEM (by omega) hk
   grind
theorem up22{K:Int}(hK:1<=K):∀d:Nat,(K-1)^d*(12*K^2+6*K*(d:Int)+(d:Int)^2)<=K^d*(12*K^2-6*K*(d:Int)+(d:Int)^2)
 |0=>by simp
 |d+1=>by
   have ih:=up22 hK d
   have hd0:(0:Int)<=d:=Int.natCast_nonneg d
   have h1:((d+1:Nat):Int)=(d:Int)+1:=by omega
   rw[h1]
   generalize(d:Int)=e at*
   have hk:(0:Int)<=K^d:=YFE (by omega)
   have hg:(0:Int)<=(K-1)^d:=YFE (by omega)
   have pos:∀x:Int,0<12*K^2-6*K*x+x^2:=fun x=>by
     have e1:12*K^2-6*K*x+x^2=(3*K-x)^2+3*K^2:=by grind
     have e2:0<=(3*K-x)^2:=by
       have:(3*K-x)^2=(3*K-x)*(3*K-x):=by grind
       rw[this];exact sq_nn _
     have e3:0<K^2:=Int.pow_pos (by omega)
     omega
   have hid:=id22 K e
   have hB:=pos e
   have hA:0<12*K^2+6*K*e+e^2:=by
     have:0<K^2:=Int.pow_pos (by omega)
     have:0<=K*e:=YEL (by omega) hd0
     have:0<=e^2:=YFE hd0
     grind
   have hA1:0<=12*K^2+6*K*(e+1)+(e+1)^2:=by
     have:0<K^2:=Int.pow_pos (by omega)
     have:0<=K*(e+1):=YEL (by omega) (by omega)
     have:0<=(e+1)^2:=YFE (by omega)
     grind
   have hnn:0<=e^4+12*K^2*e+(12*K^2-6*K*e+e^2)*(6*K+2*e)+(12*K^2-6*K*e+e^2):=by
     have:=YEL (YFG hB) (show 0<=6*K+2*e by omega)
     have:0<=K^2*e:=YEL (YFE (by omega)) hd0
     have:0<=e^4:=YFE hd0
     grind
   generalize 12*K^2-6*K*e+e^2=B at*
   generalize 12*K^2-6*K*(e+1)+(e+1)^2=B1 at*
   generalize 12*K^2+6*K*e+e^2=A at*
   generalize 12*K^2+6*K*(e+1)+(e+1)^2=A1 at*
   rw[Int.pow_succ,Int.pow_succ]
   generalize(K-1)^d=g at*
   generalize K^d=k at*
   refine Int.le_of_mul_le_mul_right (a:=A) ?_ hA
   have s1:g*A*((K-1)*A1)<=k*B*((K-1)*A1):=YD ih (YEL (by omega) hA1)
   have s2:k*((K-1)*(A1*B))<=k*(K*(A*B1)):=YEM (by omega) hk
   grind
theorem YuG{K N u:Int}{Q:Nat}(hK:1<=K)(hN:1<=N)(hu:0<=u)(hQ:(Q:Int)<4*K)
   (h:(Q:Int)*(24*K^2*N+6*u*K^2+6*Q*K*N+(Q:Int)^2*N)<=24*u*K^3):(K+1)^Q*N<=K^Q*(N+u):=by
 have h0:=up31 hK Q (by omega)
 have hq:(0:Int)<=Q:=Int.natCast_nonneg Q
 generalize(Q:Int)=q at*
 have hD:0<24*K^3-6*K^2*q:=by
   have:24*K^3-6*K^2*q=6*K^2*(4*K-q):=by grind
   rw[this]
   exact Int.mul_pos (Int.mul_pos (by decide) (Int.pow_pos (by omega))) (by omega)
 have hk:(0:Int)<=K^Q:=YFE (by omega)
 have h2:N*(24*K^3+18*K^2*q+6*K*q^2+q^3)<=(N+u)*(24*K^3-6*K^2*q):=by grind
 refine Int.le_of_mul_le_mul_right (a:=24*K^3-6*K^2*q) ?_ hD
 have s1:=YD h0 (show 0<=N by omega)
 have s2:=YEM h2 hk
 grind
theorem Ymk{K N u:Int}{Q:Nat}(hK:1<=K)(hN:1<=N)(hu:0<=u)
   (h:12*u*K^2+u*(Q:Int)^2<=12*N*K*(Q:Int)+6*u*K*(Q:Int)):(N+u)*(K-1)^Q<=N*K^Q:=by
 have h0:=up22 hK Q
 have hq:(0:Int)<=Q:=Int.natCast_nonneg Q
 generalize(Q:Int)=q at*
 have hA:0<12*K^2+6*K*q+q^2:=by
   have:0<K^2:=Int.pow_pos (by omega)
   have:0<=K*q:=YEL (by omega) hq
   have:0<=q^2:=YFE hq
   grind
 have hk:(0:Int)<=K^Q:=YFE (by omega)
 have h2:(N+u)*(12*K^2-6*K*q+q^2)<=N*(12*K^2+6*K*q+q^2):=by grind
 refine Int.le_of_mul_le_mul_right (a:=12*K^2+6*K*q+q^2) ?_ hA
 have s1:=YD h0 (show 0<=N+u by omega)
 have s2:=YEM h2 hk
 grind
theorem YrJ{u N:Int}(hu:0<=u)(hN:1<=N)(h:100*u<=N)(i j:Nat):100*(u^(i+1)*N^j)<=u^i*N^(j+1):=by
 have h1:=YD h (YEL (show 0<=u^i from YFE hu) (show 0<=N^j from YFE (by omega)))
 rw[Int.pow_succ,Int.pow_succ]
 generalize u^i=a at*
 generalize N^j=b at*
 clear h hu hN
 grind
theorem YxS{K N u g C1 C2 C3 C4 Q:Int}(hK:1<=K)(hu:0<=u)(hN:1<=N)(hNu:100*u<=N)(hg:0<g)(hQ0:0<=Q)
   (h1:C1*N<=K*g)(h2:K*g<=2*C2*N^2)(h3:3*C3*N^3<=K*g)(h4:K*g<=4*C4*N^4)
   (h:Q*g<=C1*u+C3*u^3-C2*u^2-C4*u^4):Q*(24*K^2*N+6*u*K^2+6*Q*K*N+Q^2*N)<=24*u*K^3:=by
 have pw:∀(a:Int)(i:Nat),0<=a->0<=a^i:=fun a i ha=>YFE ha
 have hN4:0<N^4:=Int.pow_pos (by omega)
 have hQM:Q*(12*N^4)<=K*(12*u*N^3-6*u^2*N^2+4*u^3*N-3*u^4):=by
   refine Int.le_of_mul_le_mul_right (a:=g) ?_ hg
   have a1:=YD h1 (YEL hu (pw N 3 (by omega)))
   have a2:=YD h2 (YEL (pw u 2 hu) (pw N 2 (by omega)))
   have a3:=YD h3 (YEL (pw u 3 hu) (show 0<=N by omega))
   have a4:=YD h4 (pw u 4 hu)
   have a5:=YD h (show 0<=12*N^4 by omega)
   grind
 have hpoly:(12*u*N^3-6*u^2*N^2+4*u^3*N-3*u^4)*(24*N*(12*N^4)^2+6*u*(12*N^4)^2+6*(12*u*N^3-6*u^2*N^2+4*u^3*N-3*u^4)*N*(12*N^4)+(12*u*N^3-6*u^2*N^2+4*u^3*N-3*u^4)^2*N)<=24*u*(12*N^4)^3:=by
   have m:∀i j:Nat,100*(u^(i+1)*N^j)<=u^i*N^(j+1):=YrJ hu hN hNu
   have n:∀i j:Nat,0<=u^i*N^j:=fun i j=>YEL (pw u i hu) (pw N j (by omega))
   have m5:=m 5 7
   have m6:=m 6 6
   have m7:=m 7 5
   have m8:=m 8 4
   have m9:=m 9 3
   have m10:=m 10 2
   have m11:=m 11 1
   have n5:=n 5 8
   have n12:=n 12 1
   grind
 have hP:0<=12*u*N^3-6*u^2*N^2+4*u^3*N-3*u^4:=by
   have m:∀i j:Nat,100*(u^(i+1)*N^j)<=u^i*N^(j+1):=YrJ hu hN hNu
   have n:∀i j:Nat,0<=u^i*N^j:=fun i j=>YEL (pw u i hu) (pw N j (by omega))
   have:=m 1 2
   have:=m 3 0
   have:=n 1 3
   have:=n 3 1
   grind
 have hM:0<12*N^4:=by omega
 generalize 12*u*N^3-6*u^2*N^2+4*u^3*N-3*u^4=P at*
 generalize 12*N^4=M at*
 refine Int.le_of_mul_le_mul_right (a:=M^3) ?_ (Int.pow_pos hM)
 have r0:0<=Q*M:=YEL hQ0 (by omega)
 have s0:0<=K*P:=YEL (by omega) hP
 have e1:Q*(24*K^2*N+6*u*K^2+6*Q*K*N+Q^2*N)*M^3=(Q*M)*(24*K^2*N*M^2+6*u*K^2*M^2+6*(Q*M)*K*N*M+(Q*M)^2*N):=by grind
 have e2:(K*P)*(24*K^2*N*M^2+6*u*K^2*M^2+6*(K*P)*K*N*M+(K*P)^2*N)=K^3*(P*(24*N*M^2+6*u*M^2+6*P*N*M+P^2*N)):=by grind
 rw[e1]
 generalize Q*M=r at*
 have i1:r^2<=(K*P)^2:=by
   have:=Int.mul_le_mul hQM hQM r0 s0
   grind
 have i2:6*r*K*N*M<=6*(K*P)*K*N*M:=by
   have:=YD hQM (show 0<=6*K*N*M from YEL (YEL (by omega) (by omega)) (by omega))
   grind
 have i3:r^2*N<=(K*P)^2*N:=YD i1 (by omega)
 have b0:0<=24*K^2*N*M^2+6*u*K^2*M^2+6*r*K*N*M+r^2*N:=by
   have z1:0<=K^2*N*M^2:=YEL (YEL (pw K 2 (by omega)) (by omega)) (pw M 2 (by omega))
   have z2:0<=u*K^2*M^2:=YEL (YEL hu (pw K 2 (by omega))) (pw M 2 (by omega))
   have z3:0<=r*K*N*M:=YEL (YEL (YEL r0 (by omega)) (by omega)) (by omega)
   have z4:0<=r^2*N:=YEL (pw r 2 r0) (by omega)
   grind
 have i4:=Int.mul_le_mul hQM (show 24*K^2*N*M^2+6*u*K^2*M^2+6*r*K*N*M+r^2*N<=24*K^2*N*M^2+6*u*K^2*M^2+6*(K*P)*K*N*M+(K*P)^2*N by omega) b0 s0
 have i5:=YEM hpoly (pw K 3 (by omega))
 rw[e2]at i4
 grind
theorem YxR{K N u g C1 C2 C3 C4 Q R ε:Int}(hK:1<=K)(hu:0<=u)(hN:1<=N)(hNu:100*u<=N)(hg:0<g)(hgu:u+u^2+u^3+u^4<=g)
   (h1:K*g<=(C1+1)*N)(h2:2*(C2-1)*N^2<=K*g)(h3:K*g<=3*(C3+1)*N^3)(h4:4*(C4-1)*N^4<=K*g)
   (h:C1*u+C3*u^3-C2*u^2-C4*u^4<=(Q+1)*g)(hR:Q+ε<=R)(hε:(K+2)*u^5<=4*(ε-4)*N^5)(hRK:R<=4*(K+2))(hR0:0<=R):
   12*u*(K+2)^2+u*R^2<=12*N*(K+2)*R+6*u*(K+2)*R:=by
 have pw:∀(a:Int)(i:Nat),0<=a->0<=a^i:=fun a i ha=>YFE ha
 have hN4:0<N^4:=Int.pow_pos (by omega)
 have hN5:0<N^5:=Int.pow_pos (by omega)
 have m:∀i j:Nat,100*(u^(i+1)*N^j)<=u^i*N^(j+1):=YrJ hu hN hNu
 have n:∀i j:Nat,0<=u^i*N^j:=fun i j=>YEL (pw u i hu) (pw N j (by omega))
 have hQM:K*(12*u*N^3-6*u^2*N^2+4*u^3*N-3*u^4)<=(Q+2)*(12*N^4):=by
   refine Int.le_of_mul_le_mul_right (a:=g) ?_ hg
   have a1:=YD h1 (YEL hu (pw N 3 (by omega)))
   have a2:=YD h2 (YEL (pw u 2 hu) (pw N 2 (by omega)))
   have a3:=YD h3 (YEL (pw u 3 hu) (show 0<=N by omega))
   have a4:=YD h4 (pw u 4 hu)
   have a5:=YD h (show 0<=12*N^4 by omega)
   have a6:=YD hgu (show 0<=12*N^4 by omega)
   clear h h1 h2 h3 h4 hgu pw m n hε hR hRK
   grind
 have hP:0<=12*u*N^3-6*u^2*N^2+4*u^3*N-3*u^4:=by
   have:=m 1 2
   have:=m 3 0
   have:=n 1 3
   have:=n 3 1
   clear h h1 h2 h3 h4 hgu pw m n hε hR hRK hQM
   grind
 have hr:(K+2)*((12*u*N^3-6*u^2*N^2+4*u^3*N-3*u^4)*N+3*u^5)<=12*N^5*R:=by
   have a1:=YD hQM (show 0<=N by omega)
   have a2:=YEM hR (show 0<=12*N^5 by omega)
   have a3:(12*u*N^3-6*u^2*N^2+4*u^3*N-3*u^4)*N<=N^5:=by
     have:=m 0 4
     have:=m 1 3
     have:=m 2 2
     have:=m 3 1
     have:=n 1 4
     have:=n 2 3
     have:=n 3 2
     have:=n 4 1
     clear h h1 h2 h3 h4 hgu pw m n hε hR hRK hQM a1 a2
     grind
   clear h h1 h2 h3 h4 hgu pw m n hRK hP
   grind
 have hpoly:12*u*(12*N^5)^2+u*((12*u*N^3-6*u^2*N^2+4*u^3*N-3*u^4)*N+3*u^5)^2<=12*N*(12*N^5)*((12*u*N^3-6*u^2*N^2+4*u^3*N-3*u^4)*N+3*u^5)+6*u*(12*N^5)*((12*u*N^3-6*u^2*N^2+4*u^3*N-3*u^4)*N+3*u^5):=by
   have:=m 5 5
   have:=m 6 4
   have:=m 7 3
   have:=m 8 2
   have:=m 9 1
   have:=m 10 0
   have:=n 5 6
   have:=n 6 5
   have:=n 8 3
   have:=n 10 1
   clear h h1 h2 h3 h4 hgu pw m n hε hR hRK hQM hr
   grind
 have hM:0<12*N^5:=by omega
 have hS:0<=(12*u*N^3-6*u^2*N^2+4*u^3*N-3*u^4)*N+3*u^5:=by
   have:=YEL hP (show 0<=N by omega)
   have:=pw u 5 hu
   omega
 generalize(12*u*N^3-6*u^2*N^2+4*u^3*N-3*u^4)*N+3*u^5=S at*
 generalize 12*N^5=M at*
 clear h h1 h2 h3 h4 hgu hε hR hQM hP m n hN4 hN5
 have hL:1<=K+2:=by omega
 generalize K+2=L at*
 refine Int.le_of_mul_le_mul_right (a:=M^2) ?_ (Int.pow_pos hM)
 have b1:=YEM hpoly (pw L 2 (by omega))
 --(r-s)(12 N L M+6 u L M-u (r+s)) is at least 0
 have d0:0<=M*R-L*S:=by omega
 have d1:L*S<=4*(L*M):=by
   have:=YEM hRK (show 0<=M by omega)
   grind
 have d2:M*R<=4*(L*M):=by
   have:=YEM hRK (show 0<=M by omega)
   grind
 have d3:0<=L*M:=YEL (by omega) (by omega)
 have d4:u*(M*R+L*S)<=12*N*(L*M):=by
   have e1:=YEM (show M*R+L*S<=8*(L*M)by omega) hu
   have e2:=YD (show u<=N by omega) d3
   have e3:=YD (show 0<=N by omega) d3
   grind
 have d5:0<=(M*R-L*S)*(12*N*(L*M)+6*(u*(L*M))-u*(M*R+L*S)):=by
   refine YEL d0 ?_
   have:=YEL hu d3
   omega
 clear d0 d1 d2 d3 d4 hpoly hr hRK
 grind
def pk(f:Nat->Nat):Nat->Nat
 |0=>0
 |n+1=>pk f n+f n*2^(144*n)
theorem Yic(f g:Nat->Nat):∀n,pk f n+pk g n=pk (fun i=>f i+g i) n
 |0=>rfl
 |n+1=>by
   have:=Yic f g n
   simp only[pk]
   rw[YE4,<-this]
   omega
theorem Yid(c:Nat)(f:Nat->Nat):∀n,c*pk f n=pk (fun i=>c*f i) n
 |0=>by simp [pk]
 |n+1=>by
   have:=Yid c f n
   simp only[pk]
   rw[YFw,this,YEH]
theorem YjC{f g:Nat->Nat}:∀{n},(∀i,i<n->f i=g i)->pk f n=pk g n
 |0,_=>rfl
 |n+1,h=>by simp only[pk];rw[YjC fun i hi=>h i (by omega),h n (by omega)]
theorem YCE{f g:Nat->Nat}{n:Nat}(h:∀i,i<n->g i<=f i):pk f n-pk g n=pk (fun i=>f i-g i) n:=by
 have h1:=Yic (fun i=>f i-g i) g n
 have h2:pk (fun i=>f i-g i+g i) n=pk f n:=YjC fun i hi=>by have:=h i hi;omega
 omega
theorem YoS{f:Nat->Nat}:∀{n},(∀i,i<n->f i<2^144)->pk f n<2^(144*n)
 |0,_=>by simp [pk]
 |n+1,h=>by
   have h1:=YoS (f:=f) (n:=n) fun i hi=>h i (by omega)
   have h2:=YEF (2^(144*n)) (show f n+1<=2^144 from h n (by omega))
   rw[show 144*(n+1)=144+144*n by omega,YEO]
   simp only[pk]
   rw[YE4]at h2
   omega
theorem Yvh{A a B b M:Nat}(hA:A<M)(hB:B<M)(h:A+a*M=B+b*M):A=B/\a=b:=by
 have h0:0<M:=by omega
 have h1:(A+a*M)/M=a:=by rw[Nat.add_mul_div_right _ _ h0,Nat.div_eq_of_lt hA];omega
 have h2:(B+b*M)/M=b:=by rw[Nat.add_mul_div_right _ _ h0,Nat.div_eq_of_lt hB];omega
 have h3:a=b:=by rw[<-h1,h,h2]
 subst h3
 exact⟨by omega,rfl⟩
theorem Ywi{f g:Nat->Nat}:∀{n},(∀i,i<n->f i<2^144)->(∀i,i<n->g i<2^144)->pk f n=pk g n->∀i,i<n->f i=g i
 |0,_,_,_,i,hi=>by omega
 |n+1,hf,hg,h,i,hi=>by
   simp only[pk]at h
   have:=Yvh (YoS fun i hi=>hf i (by omega)) (YoS fun i hi=>hg i (by omega)) h
   by_cases c:i=n
   . rw[c];exact this.2
   . exact Ywi (fun i hi=>hf i (by omega)) (fun i hi=>hg i (by omega)) this.1 i (by omega)
theorem Yp1{A a B b m:Nat}(hA:A<2^m)(hB:B<2^m):(A+a*2^m)&&&(B+b*2^m)=(A&&&B)+(a&&&b)*2^m:=by
 have h0:0<2^m:=Nat.two_pow_pos m
 have m1:∀{X x:Nat},X<2^m->(X+x*2^m)%2^m=X:=fun h=>by rw[Nat.add_mul_mod_self_right,Nat.mod_eq_of_lt h]
 have d1:∀{X x:Nat},X<2^m->(X+x*2^m)/2^m=x:=fun {X x} h=>by rw[Nat.add_mul_div_right _ _ h0,Nat.div_eq_of_lt h];omega
 have hm:((A+a*2^m)&&&(B+b*2^m))%2^m=A&&&B:=by rw[Nat.and_mod_two_pow,m1 hA,m1 hB]
 have hd:((A+a*2^m)&&&(B+b*2^m))/2^m=a&&&b:=by rw[Nat.and_div_two_pow,d1 hA,d1 hB]
 have:=YFB ((A+a*2^m)&&&(B+b*2^m)) (2^m)
 rw[hm,hd,YEJ]at this
 omega
theorem Yr3{f g:Nat->Nat}:∀{n},(∀i,i<n->f i<2^144)->(∀i,i<n->g i<2^144)->pk f n&&&pk g n=pk (fun i=>f i&&&g i) n
 |0,_,_=>by simp [pk]
 |n+1,hf,hg=>by
   simp only[pk]
   rw[Yp1 (YoS fun i hi=>hf i (by omega)) (YoS fun i hi=>hg i (by omega)),Yr3 (fun i hi=>hf i (by omega)) (fun i hi=>hg i (by omega))]
theorem Yuv{x p q:Nat}(h:((x&&&2^p*(2^q-1))+2^p*(2^q-1))&&&2^(p+q)=2^(p+q)):1<=x/2^p%2^q:=by
 have e1:(x&&&2^p*(2^q-1))=2^p*(x/2^p%2^q):=by
   have hm:(x&&&2^p*(2^q-1))%2^p=0:=by rw[Nat.and_mod_two_pow,Nat.mul_mod_right,Nat.and_zero]
   have hd:(x&&&2^p*(2^q-1))/2^p=x/2^p%2^q:=by
     rw[Nat.and_div_two_pow,Nat.mul_div_cancel_left _ (Nat.two_pow_pos p),Nat.and_two_pow_sub_one_eq_mod]
   have:=YFB (x&&&2^p*(2^q-1)) (2^p)
   rw[hm,hd]at this
   omega
 rcases YFk (x/2^p%2^q)with h0|h0
 . exfalso
   rw[e1,h0,Nat.mul_zero,YFv]at h
   have lt:2^p*(2^q-1)<2^(p+q):=by
     rw[YEO]
     exact Nat.mul_lt_mul_of_pos_left (by have:=Nat.two_pow_pos q;omega) (Nat.two_pow_pos p)
   have z:(2^p*(2^q-1))&&&2^(p+q)=0:=by
     have hd:((2^p*(2^q-1))&&&2^(p+q))/2^(p+q)=0:=by rw[Nat.and_div_two_pow,Nat.div_eq_of_lt lt,Nat.zero_and]
     have hm:((2^p*(2^q-1))&&&2^(p+q))%2^(p+q)=0:=by rw[Nat.and_mod_two_pow,Nat.mod_self,Nat.and_zero]
     have:=YFB ((2^p*(2^q-1))&&&2^(p+q)) (2^(p+q))
     rw[hd,hm]at this
     omega
   have:=Nat.two_pow_pos (p+q)
   omega
 . exact h0
def kap:Nat:=7490900928631539394323262730195513
def kg:Nat:=2010823406628030733297128842387837501308928
theorem kg_is:kg=kap*2^28:=by decide+kernel
def blk(W0 W1 W2 W3 W4 MASK TOP KG m:Nat)(n:Nat):Nat->Nat->Nat->Nat->Bool:=
 Nat.rec (fun N A eN eA=>Bool.and (YFc N eN) (YFc A eA))
   (fun _ ih N A eN eA=>
     (fun N2=>(fun V=>Bool.casesOn (YFc (Nat.land (Nat.add (Nat.land V MASK) MASK) TOP) TOP) false (ih (Nat.add N 127) (Nat.shiftRight V (Nat.add m 28)) eN eA))
       (Nat.sub (Nat.add (Nat.add (Nat.mul A W0) (Nat.mul (Nat.div KG N) W1)) (Nat.mul (Nat.div KG (Nat.mul 3 (Nat.mul N2 N))) W3))
         (Nat.add (Nat.mul (Nat.succ (Nat.div KG (Nat.mul 2 N2))) W2) (Nat.mul (Nat.succ (Nat.div KG (Nat.mul 4 (Nat.mul N2 N2)))) W4))))
     (Nat.mul N N)) n
def Lo(N a:Nat):Prop:=2^28*(kap+1)^a<=N*kap^a
def Hi(N b:Nat):Prop:=N*(kap+1)^b<=2^28*(kap+2)^b
def Good(n:Nat):Prop:=∃a b q,Lo n a/\Hi n b/\q*2^64+2<=a/\b+2<=(q+1)*2^64
theorem Lo.add{N u a Q:Nat}(h:Lo N a)(hs:(kap+1)^Q*N<=kap^Q*(N+u)):Lo (N+u) (a+Q):=by
 unfold Lo at*
 rw[YEO,YEO]
 have h1:=YEF ((kap+1)^Q) h
 have h2:=YEF (kap^a) hs
 generalize(kap+1)^a=x at*
 generalize(kap+1)^Q=y at*
 generalize kap^a=z at*
 generalize kap^Q=w at*
 grind
theorem Hi.add{N u b R:Nat}(h:Hi N b)(hs:(N+u)*(kap+1)^R<=N*(kap+2)^R):Hi (N+u) (b+R):=by
 unfold Hi at*
 rw[YEO,YEO]
 have h1:=YEF ((kap+2)^R) h
 have h2:=YEF ((kap+1)^b) hs
 generalize(kap+1)^b=x at*
 generalize(kap+1)^R=y at*
 generalize(kap+2)^b=z at*
 generalize(kap+2)^R=w at*
 grind
def c1(N:Nat):Nat:=kg/N
def c2(N:Nat):Nat:=kg/(2*(N*N))+1
def c3(N:Nat):Nat:=kg/(3*(N*N*N))
def c4(N:Nat):Nat:=kg/(4*(N*N*(N*N)))+1
def upv(N u:Nat):Nat:=c1 N*u+c3 N*u^3
def dnv(N u:Nat):Nat:=c2 N*u^2+c4 N*u^4
theorem sz{N:Nat}(h0:2^28<=N)(h1:N<2^29):2^111<=c1 N/\c1 N<=2^113/\c2 N<=2^84/\c3 N<=2^57/\c4 N<=2^29:=by
 have a1:(2:Nat)^28*2^28<=N*N:=YEV h0 h0
 have a2:(2:Nat)^28*2^28*2^28<=N*N*N:=YEV a1 h0
 have a3:(2:Nat)^28*2^28*(2^28*2^28)<=N*N*(N*N):=YEV a1 a1
 unfold c1 c2 c3 c4
 refine⟨YEQ (by decide+kernel) (Nat.div_le_div_left (a:=kg) (YFJ h1) (by omega)),YEQ (Nat.div_le_div_left (a:=kg) h0 (by decide)) (by decide+kernel),?_,?_,?_⟩
 . exact YEQ (Nat.succ_le_succ (Nat.div_le_div_left (a:=kg) (YEG 2 a1) (by decide))) (by decide+kernel)
 . exact YEQ (Nat.div_le_div_left (a:=kg) (YEG 3 a2) (by decide)) (by decide+kernel)
 . exact YEQ (Nat.succ_le_succ (Nat.div_le_div_left (a:=kg) (YEG 4 a3) (by decide))) (by decide+kernel)
theorem upw{u:Nat}(h:u<=127):u^2<=127*u/\u^3<=16129*u/\u^4<=2048383*u/\u^5<=127^5:=by
 have e2:u^2=u*u:=by grind
 have e3:u^3=u^2*u:=by grind
 have e4:u^4=u^3*u:=by grind
 have b2:u^2<=127*u:=by rw[e2];exact YEF u h
 have b3:u^3<=16129*u:=by rw[e3];have:=YEV b2 h;omega
 have b4:u^4<=2048383*u:=by rw[e4];have:=YEV b3 h;omega
 exact⟨b2,b3,b4,YEP h 5⟩
theorem YqE{N u:Nat}(h0:2^28<=N)(h1:N<2^29)(hu:u<=127):dnv N u<=upv N u/\upv N u<=2^120*u:=by
 obtain⟨s1,s1',s2,s3,s4⟩:=sz h0 h1
 obtain⟨p2,p3,p4,_⟩:=upw hu
 unfold dnv upv
 have m2:=YEV s2 p2
 have m4:=YEV s4 p4
 have m1:=YEF u s1
 have m1':=YEF u s1'
 have m3:=YEV s3 p3
 generalize c1 N*u=x at*
 generalize c3 N*u^3=y at*
 generalize c2 N*u^2=z at*
 generalize c4 N*u^4=w at*
 constructor
 . omega
 . omega
def qv(N u:Nat):Nat:=(upv N u-dnv N u)/2^28
theorem YrN{K N u g C1 C2 C3 C4 Q kg:Nat}(hK:100<=K)(hN:1<=N)(hNu:100*u<=N)(hg0:0<g)(hg:u+u^2+u^3+u^4<=g)(hkg:K*g=kg)
   (k1:C1*N<=kg)(k1':kg<(C1+1)*N)(k2:kg<C2*(2*(N*N)))(k2':(C2-1)*(2*(N*N))<=kg)
   (k3:C3*(3*(N*N*N))<=kg)(k3':kg<(C3+1)*(3*(N*N*N)))(k4:kg<C4*(4*(N*N*(N*N))))(k4':(C4-1)*(4*(N*N*(N*N)))<=kg)
   (g2:1<=C2)(g4:1<=C4)(d0:C2*u^2+C4*u^4<=C1*u+C3*u^3)(hq1:Q*g<=C1*u+C3*u^3-(C2*u^2+C4*u^4))
   (hq2:C1*u+C3*u^3-(C2*u^2+C4*u^4)<(Q+1)*g)(hu5:(K+2)*u^5<=384*N^5)(hqK:Q<=K):
   (K+1)^Q*N<=K^Q*(N+u)/\(N+u)*(K+1)^(Q+100)<=N*(K+2)^(Q+100):=by
 obtain⟨D2,rfl⟩:∃x,C2=x+1:=⟨C2-1,by omega⟩
 obtain⟨D4,rfl⟩:∃x,C4=x+1:=⟨C4-1,by omega⟩
 rw[Nat.add_sub_cancel]at k2' k4'
 have e1:Q*g+((D2+1)*u^2+(D4+1)*u^4)<=C1*u+C3*u^3:=by omega
 have e2:C1*u+C3*u^3<(Q+1)*g+((D2+1)*u^2+(D4+1)*u^4):=by omega
 clear hq1 hq2 d0 g2 g4
 subst hkg
 have L:=YxS (K:=K) (N:=N) (u:=u) (g:=g) (C1:=C1) (C2:=(D2:Int)+1) (C3:=C3) (C4:=(D4:Int)+1) (Q:=Q) (by omega) (by omega) (by omega) (by omega) (by omega) (by omega)
   (by exact_mod_cast k1) (by have:((K*g:Nat):Int)<(((D2+1)*(2*(N*N)):Nat):Int):=by exact_mod_cast k2
                              push_cast at this;clear e1 e2 k1 k1' k2 k2' k3 k3' k4 k4' hu5 hg;grind)
   (by have:((C3*(3*(N*N*N)):Nat):Int)<=((K*g:Nat):Int):=by exact_mod_cast k3
       push_cast at this;clear e1 e2 k1 k1' k2 k2' k3 k3' k4 k4' hu5 hg;grind)
   (by have:((K*g:Nat):Int)<(((D4+1)*(4*(N*N*(N*N))):Nat):Int):=by exact_mod_cast k4
       push_cast at this;clear e1 e2 k1 k1' k2 k2' k3 k3' k4 k4' hu5 hg;grind)
   (by have:((Q*g+((D2+1)*u^2+(D4+1)*u^4):Nat):Int)<=((C1*u+C3*u^3:Nat):Int):=by exact_mod_cast e1
       push_cast at this;omega)
 have H:=YxR (K:=K) (N:=N) (u:=u) (g:=g) (C1:=C1) (C2:=(D2:Int)+1) (C3:=C3) (C4:=(D4:Int)+1) (Q:=Q) (R:=(Q:Int)+100) (ε:=100) (by omega) (by omega) (by omega) (by omega) (by omega) (by exact_mod_cast hg)
   (by have:((K*g:Nat):Int)<(((C1+1)*N:Nat):Int):=by exact_mod_cast k1'
       push_cast at this;omega)
   (by have:((D2*(2*(N*N)):Nat):Int)<=((K*g:Nat):Int):=by exact_mod_cast k2'
       push_cast at this;clear e1 e2 k1 k1' k2 k2' k3 k3' k4 k4' hu5 hg L;grind)
   (by have:((K*g:Nat):Int)<(((C3+1)*(3*(N*N*N)):Nat):Int):=by exact_mod_cast k3'
       push_cast at this;clear e1 e2 k1 k1' k2 k2' k3 k3' k4 k4' hu5 hg L;grind)
   (by have:((D4*(4*(N*N*(N*N))):Nat):Int)<=((K*g:Nat):Int):=by exact_mod_cast k4'
       push_cast at this;clear e1 e2 k1 k1' k2 k2' k3 k3' k4 k4' hu5 hg L;grind)
   (by have:((C1*u+C3*u^3:Nat):Int)<(((Q+1)*g+((D2+1)*u^2+(D4+1)*u^4):Nat):Int):=by exact_mod_cast e2
       push_cast at this;omega)
   (by omega) (by rw[show(4:Int)*(100-4)=384 from rfl];exact_mod_cast hu5) (by omega) (by omega)
 have l:=YuG (K:=K) (N:=N) (u:=u) (Q:=Q) (by omega) (by omega) (by omega) (by omega) L
 have h:=Ymk (K:=(K:Int)+2) (N:=N) (u:=u) (Q:=Q+100) (by omega) (by omega) (by omega) (by push_cast;exact H)
 rw[show(K:Int)+2-1=(K:Int)+1 by omega]at h
 exact⟨by exact_mod_cast l,by exact_mod_cast h⟩
theorem YuJ(a:Nat){b:Nat}(h:0<b):a<(a/b+1)*b:=by
 have:=Nat.lt_div_mul_add (a:=a) (b:=b) h
 rw[YE4]
 omega
theorem steps{N u:Nat}(h0:2^28<=N)(h1:N<2^29)(hu:u<=127):
   (kap+1)^qv N u*N<=kap^qv N u*(N+u)/\(N+u)*(kap+1)^(qv N u+100)<=N*(kap+2)^(qv N u+100):=by
 obtain⟨d0,d1⟩:=YqE h0 h1 hu
 obtain⟨p2,p3,p4,p5⟩:=upw hu
 have hq1:qv N u*2^28<=upv N u-dnv N u:=YFx _ _
 have hq2:upv N u-dnv N u<(qv N u+1)*2^28:=by
   have:=Nat.lt_div_mul_add (a:=upv N u-dnv N u) (b:=2^28) (by decide)
   unfold qv;rw[YE4];omega
 have hqK:qv N u<=kap:=by
   have:qv N u*2^28<=2^120*127:=by omega
   unfold kap;omega
 have k1:c1 N*N<=kg:=YFx _ _
 have k1':kg<(c1 N+1)*N:=YuJ kg (by omega)
 have pN:0<N*N:=YFm (by omega) (by omega)
 have pN3:0<N*N*N:=YFm pN (by omega)
 have pN4:0<N*N*(N*N):=YFm pN pN
 have k2:kg<c2 N*(2*(N*N)):=YuJ kg (by omega)
 have k2':(c2 N-1)*(2*(N*N))<=kg:=by unfold c2;rw[Nat.add_sub_cancel];exact YFx _ _
 have k3:c3 N*(3*(N*N*N))<=kg:=YFx _ _
 have k3':kg<(c3 N+1)*(3*(N*N*N)):=YuJ kg (by omega)
 have k4:kg<c4 N*(4*(N*N*(N*N))):=YuJ kg (by omega)
 have k4':(c4 N-1)*(4*(N*N*(N*N)))<=kg:=by unfold c4;rw[Nat.add_sub_cancel];exact YFx _ _
 have g2:1<=c2 N:=by unfold c2;exact Nat.le_add_left 1 _
 have g4:1<=c4 N:=by unfold c4;exact Nat.le_add_left 1 _
 have hu5:(kap+2)*u^5<=384*N^5:=by
   have b1:=YEG (kap+2) p5
   have b2:=YEG 384 (YEP h0 5)
   exact YEQ b1 (YEQ (by decide+kernel) b2)
 have hg:u+u^2+u^3+u^4<=2^28:=by omega
 exact YrN (by decide) (by omega) (by omega) (by decide) hg kg_is.symm k1 k1' k2 k2' k3 k3' k4 k4' g2 g4 d0 hq1 hq2 hu5 hqK
theorem Yt9{N A X W0 W1 W2 W3 W4 KG:Nat}(hW0:W0=pk (fun _=>2^28) 127)(hW1:W1=pk (fun i=>i+1) 127)(hW2:W2=pk (fun i=>(i+1)^2) 127)(hW3:W3=pk (fun i=>(i+1)^3) 127)(hW4:W4=pk (fun i=>(i+1)^4) 127)(hKG:KG=kg)
   (h0:2^28<=N)(h1:N<2^29)
   (hX:X=A*W0+KG/N*W1+KG/(3*(N*N*N))*W3-((KG/(2*(N*N))+1)*W2+(KG/(4*(N*N*(N*N)))+1)*W4)):
   X=pk (fun i=>A*2^28+(upv N (i+1)-dnv N (i+1))) 127:=by
 rw[hX,hW0,hW1,hW2,hW3,hW4,hKG,Yid,Yid,Yid,Yid,Yid,Yic,Yic,Yic,YCE]
 . refine YjC fun i hi=>?_
   have:=(YqE h0 h1 (u:=i+1) (by omega)).1
   unfold upv dnv c1 c2 c3 c4 at*
   omega
 . intro i hi
   have:=(YqE h0 h1 (u:=i+1) (by omega)).1
   unfold upv dnv c1 c2 c3 c4 at*
   omega
theorem Yvo{f:Nat->Nat}{n m:Nat}(hm:m=144*n)(h:∀i,i<n->f i<2^144)(g:Nat):pk f (n+1)/2^(m+g)=f n/2^g:=by
 subst hm
 have h1:=YoS (f:=f) (n:=n) fun i hi=>h i (by omega)
 rw[YEO,<-YFl]
 congr 1
 rw[pk,Nat.add_mul_div_right _ _ (Nat.two_pow_pos _),Nat.div_eq_of_lt h1,YFv]
theorem Yv4(N A u:Nat):(A*2^28+(upv N u-dnv N u))/2^28=A+qv N u:=by
 rw[Nat.add_comm,Nat.add_mul_div_right _ _ (Nat.two_pow_pos _),Nat.add_comm];rfl
theorem qv_le{N u:Nat}(h0:2^28<=N)(h1:N<2^29)(hu:u<=127):qv N u<=2^99:=by
 obtain⟨_,d1⟩:=YqE h0 h1 hu
 have hq1:qv N u*2^28<=upv N u-dnv N u:=YFx _ _
 omega
theorem Yym{N A e X MK TP m:Nat}(hm:m=144*126)(hMK:MK=pk (fun _=>2^57*(2^35-1)) 127)(hTP:TP=pk (fun _=>2^92) 127)(h0:2^28<=N)(h1:N<2^29)(hA:220000000<=A)(hA2:A<2^114)(hL:Lo N (A-220000000))(hH:Hi N (A-220000000+e))(he:e+200<=220000000)
   (hX:X=pk (fun i=>A*2^28+(upv N (i+1)-dnv N (i+1))) 127)
   (hc:((X&&&MK)+MK)&&&TP=TP):
   X/2^(m+28)=A+qv N 127/\∀u,1<=u->u<=127->Lo (N+u) (A-220000000+qv N u)/\Hi (N+u) (A-220000000+e+(qv N u+100))/\Good (N+u):=by
 have hlt:∀i,i<127->A*2^28+(upv N (i+1)-dnv N (i+1))<2^144:=fun i hi=>by
   have:=(YqE h0 h1 (u:=i+1) (by omega)).2
   omega
 constructor
 . rw[hX,Yvo hm (fun i hi=>hlt i (by omega)) 28]
   exact Yv4 ..
 intro u hu1 hu2
 obtain⟨i,rfl⟩:∃i,u=i+1:=⟨u-1,by omega⟩
 rw[hMK,hTP,hX,Yr3 hlt (fun _ _=>by decide),Yic,Yr3 (fun i _=>by
   have:(A*2^28+(upv N (i+1)-dnv N (i+1)))&&&2^57*(2^35-1)<=2^57*(2^35-1):=Nat.and_le_right
   omega) (fun _ _=>by decide)]at hc
 have hb:=Ywi (fun i _=>YFp Nat.and_le_right (by decide)) (fun _ _=>by decide) hc i (by omega)
 have hbit:=Yuv (p:=57) (q:=35) hb
 have hst:=steps h0 h1 hu2
 have l:=hL.add hst.1
 have r:=hH.add hst.2
 have hy:=Yv4 N A (i+1)
 refine⟨l,r,⟨_,_,(A+qv N (i+1))/2^64,l,r,?_,?_⟩⟩
 all_goals
   have hbit2:1<=(A+qv N (i+1))/2^29%2^35:=by
     rw[<-hy,YFl];exact hbit
   generalize qv N (i+1)=Q at*
   clear hbit hb hc hX hlt hst l r hy hL hH
   omega
theorem YBl{W0 W1 W2 W3 W4 KG MK TP m:Nat}(hW0:W0=pk (fun _=>2^28) 127)(hW1:W1=pk (fun i=>i+1) 127)(hW2:W2=pk (fun i=>(i+1)^2) 127)(hW3:W3=pk (fun i=>(i+1)^3) 127)(hW4:W4=pk (fun i=>(i+1)^4) 127)(hKG:KG=kg)
   (hm:m=144*126)(hMK:MK=pk (fun _=>2^57*(2^35-1)) 127)(hTP:TP=pk (fun _=>2^92) 127)(n:Nat):∀N A e eN eA,blk W0 W1 W2 W3 W4 MK TP KG m n N A eN eA=true->
   2^28<=N->N+127*n<2^29->220000000<=A->A+n*2^100<2^114->Lo N (A-220000000)->Hi N (A-220000000+e)->e+100*n+200<=220000000->
   eN=N+127*n/\220000000<=eA/\Lo eN (eA-220000000)/\Hi eN (eA-220000000+(e+100*n))/\∀i,1<=i->i<=127*n->Good (N+i):=by
 induction n with
 |zero=>
   intro N A e eN eA h h0 h1 hA _ hL hH he
   have h':Bool.and (YFc N eN) (YFc A eA)=true:=h
   obtain⟨a,b⟩:=Bool.and_eq_true_iff.1 h'
   obtain rfl:=YEW a
   obtain rfl:=YEW b
   exact⟨by omega,hA,hL,hH,fun i a b=>by omega⟩
 |succ n ih=>
   intro N A e eN eA h h0 h1 hA hA2 hL hH he
   obtain⟨X,hX0⟩:∃X,X=A*W0+KG/N*W1+KG/(3*(N*N*N))*W3-((KG/(2*(N*N))+1)*W2+(KG/(4*(N*N*(N*N)))+1)*W4):=⟨_,rfl⟩
   have hX:=Yt9 hW0 hW1 hW2 hW3 hW4 hKG h0 (by omega) hX0
   have h2:(Bool.casesOn (motive:=fun _=>Bool) (YFc (((X&&&MK)+MK)&&&TP) TP) false (blk W0 W1 W2 W3 W4 MK TP KG m n (N+127) (X >>> (m+28)) eN eA))=true:=by
     rw[hX0];exact h
   cases hc:YFc (((X&&&MK)+MK)&&&TP) TP with
   |false=>rw[hc]at h2;cases h2
   |true=>
     rw[hc]at h2
     have h3:=YEW hc
     obtain⟨t1,t2⟩:=Yym hm hMK hTP h0 (by omega) hA (by omega) hL hH (by omega) hX h3
     have q1:=qv_le (N:=N) (u:=127) h0 (by omega) (by decide)
     obtain⟨l,r,_⟩:=t2 127 (by decide) (by decide)
     have t3:X >>> (m+28)=A+qv N 127:=by rw[Nat.shiftRight_eq_div_pow];exact t1
     rw[t3]at h2
     obtain⟨a,b,c,d,f⟩:=ih (N+127) (A+qv N 127) (e+100) eN eA h2 (by omega) (by omega) (by omega) (by omega) (by rw[show A+qv N 127-220000000=A-220000000+qv N 127 by omega];exact l)
       (by rw[show A+qv N 127-220000000+(e+100)=A-220000000+e+(qv N 127+100)by omega];exact r) (by omega)
     refine⟨by omega,b,c,by rw[show e+100*(n+1)=e+100+100*n by omega];exact d,fun i i1 i2=>?_⟩
     by_cases hi:i<=127
     . exact(t2 i i1 hi).2.2
     . have:=f (i-127) (by omega) (by omega)
       rwa [show N+127+(i-127)=N+i by omega]at this
end Go.Proofs.YtfjodiojchknmaaGreatDoor.LB
