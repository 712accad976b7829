/- Pitches of the program, walked: span, Speed. -/
import Derived.Test.YtlhmikjnholpnaaGreatDoorMgX52e
import Derived.Test.YtlhmikjnholpnaaGreatDoorMgX52d
open Bool renaming and->QN,and_eq_true->YS,or_eq_false_iff->JH
open Int renaming mul_comm->KA,mul_le_mul_of_nonneg_right->Xq,mul_neg->KC,mul_nonneg->ZF,natCast_add->WT,natCast_mul->JV,neg_neg->JW,tdiv_eq_ediv_of_nonneg->ZG,tmod_eq_emod_of_nonneg->UF,toNat->Xi,toNat_natCast->Yh
open Go.IntWalk renaming i64_in->Yg,u64_in->Z8,up_tdiv->Wt,up_tmod->Vm
open List renaming all_eq_true->Vn,append_nil->Z9,length_append->JI,length_cons->Xr,length_map->Vq,length_nil->ZI,mem_append->KE,mem_cons->K4,mem_cons_of_mem->KH,mem_cons_self->KF,mem_singleton->JD,take_length->QB
open Nat renaming add->Kf,add_assoc->XV,add_mul->YN,add_zero->Kw,beq->YL,ble->Y8,div->Jm,div_add_mod->KO,div_div_eq_div_mul->KY,div_eq_of_lt->Qu,div_le_self->QP,div_mul_le_self->XW,dvd_trans->JM,eq_of_beq_eq_true->JE,eq_zero_or_pos->KU,gcd->YG,gcd_dvd_left->Wv,le_div_iff_mul_le->Wc,le_mul_of_pos_left->V6,le_of_ble_eq_true->KI,le_of_eq->YB,le_of_lt->JN,le_of_mul_le_mul_left->WV,le_of_mul_le_mul_right->Kr,le_of_not_lt->ZK,le_refl->Yr,le_trans->Yj,lt_irrefl->XX,lt_of_le_of_lt->Jn,lt_of_lt_of_le->Qf,lt_or_ge->YV,lt_trichotomy->We,mod->KZ,mod_eq_of_lt->Qg,mod_lt->Kj,mul->K5,mul_add->Y9,mul_assoc->Yx,mul_comm->Yk,mul_le_mul->YP,mul_le_mul_left->Yz,mul_le_mul_right->Yu,mul_left_comm->Jd,mul_lt_mul_of_pos_right->ZL,mul_one->Kb,mul_pos->Y3,mul_pow->Yt,mul_right_comm->WW,mul_zero->Wf,not_lt_zero->QC,one_mul->Kc,pow->Kx,pow_add->Yo,pow_le_pow_iff_left->XY,pow_le_pow_left->YM,pow_le_pow_right->Kl,pow_mul->Yl,pow_one->Wg,pow_pos->YD,pow_succ->YF,pow_zero->JO,reduceAdd->Ya,reduceEqDiff->Yc,reduceLeDiff->Ye,two_pow_pos->Qv,zero_add->KL,zero_le->JP,zero_mul->JX
open Or renaming inl->Jo,inr->KV
open Go.Proofs.Tryz renaming prog->Yb
set_option linter.all false
namespace Go.Proofs.YtlhmikjnholpnaaGreatDoor
open Go Go.Vx
set_option maxRecDepth 100000
set_option maxHeartbeats 4000000
def v24:VF:=⟨9,[.tmp 2],(ZR [u1 2 .mov [.cn (.bool false)]] (ZR [Zm 3 0,Zq 4 .geq 3 (-20000),Zm 5 4,Zg 6 5 true 0,u2 7 5 true (.cmp .leq) [.tm 6,.cn (.int .i64 50000)],u1 8 .and [.tm 5,.tm 7],Zm 2 8] .ret))⟩
theorem YsD:Yn Yb Tryz.f24=some v24:=by kernel_rfl
def v26:VF:=⟨9,[.cell 4 true 2],(ZR [Zn 4] (ZR [Zm 5 0,u1 6 (.ari .add) [.cn (.int .i64 273150),.tm 5],Zm 7 1,u1 8 (.build [(.int .i64 0),(.int .i64 0)] [(0,1),(1,1)]) [.tm 6,.tm 7],Zs 2 4 8] .ret))⟩
theorem YsF:Yn Yb Tryz.f26=some v26:=by kernel_rfl
def v25:VF:=⟨26,[.cell 6 true 2],(ZR [Zn 6] (ZR [Zm 11 0,Zm 12 2,Zm 13 1,u1 14 (.call 47) [.tm 11,.tm 12,.tm 13],Zm 10 14,Ze 15 0 10,Ze 16 1 10,Ze 17 2 10,Zm 7 15,Zm 8 16,Zm 9 17] (.seq (ZR [Zm 18 8] (ZC 18 (ZR [Zm 19 7,Zm 20 7,u1 21 (.build [(.int .i64 0),(.int .i64 0)] [(0,1),(1,1)]) [.tm 19,.tm 20],Zs 2 6 21] .ret) .skip)) (ZR [Zm 22 7,Zm 23 7,Zp 24 23 1,u1 25 (.build [(.int .i64 0),(.int .i64 0)] [(0,1),(1,1)]) [.tm 22,.tm 24],Zs 2 6 25] .ret))))⟩
theorem YsE:Yn Yb Tryz.f25=some v25:=by kernel_rfl
def Hc(s:Int)(l:List (Int×Int))(den:Int):Int×Int:=if(XO s l den).2.1=true then((XO s l den).1,(XO s l den).1)else((XO s l den).1,IntKind.i64.wrap ((XO s l den).1+1))
def pspC:Ctr:={ alias:=false,of:=fun l=>match l with
 | [.int .i64 s,.int .i64 den,.vs _ _ n sz get]=> .ex (List (Int×Int)) fun l=> .pre (lsP 2 YA n sz get l/\1<=n/\n<=1000000000000) (.fin (.agg [.int .i64 (Hc s l den).1,.int .i64 (Hc s l den).2]) [])
 |_=>noC}
def JB(t:Int):Bool:=decide (-20000<=t)&&decide (t<=50000)
theorem Dm{k:SV->List HO->Prop}{al:Bool}{hp:List HO}{x y:Int}(h:k (.agg [.int .i64 x,.int .i64 y]) []):Jv al k (.agg [.int .i64 x,.int .i64 y]) hp:=
 Ky (show k _ []from h) (Jq (.agg [.int .i64 x,.int .i64 y]) ⟨trivial,trivial,trivial⟩) (fun _=>by simp [Y0,Y4])
theorem Yh5{k:SV->List HO->Prop}{al:Bool}{hp:List HO}{x y e:Int}(h:k (.tup [.agg [.int .i64 x,.int .i64 y],.int .i64 e]) []):Jv al k (.tup [.agg [.int .i64 x,.int .i64 y],.int .i64 e]) hp:=
 Ky (show k _ []from h) (Jq (.tup [.agg [.int .i64 x,.int .i64 y],.int .i64 e]) ⟨⟨trivial,trivial,trivial⟩,trivial,trivial⟩) (fun _=>by simp [Y0,Y4])
def RP0:Env:={ ct:=fun n=>match n with|47=>some prodC|_=>none,fn:=fun _=>none,meth:=fun _ _=>none}
theorem Ygg:RP0.ct 47=some prodC:=rfl
theorem Ygh:YE Yb RP0:=by
 refine⟨fun f c h=>?_,fun f vf h=>?_,(fun _ _ _ h=>by cases h),by kernel_rfl,(fun _ h=>by cases h)⟩
 ·simp only[RP0]at h
  split at h
  ·cases h;exact⟨Yn3,_,Tryz.func47,rfl,rfl⟩
  ·cases h
 ·cases h
theorem Yn4:pspC.ok Yb 25:=by
 refine Yv Tryz.func25 YsE Ygh 200 pspC fun args k h=>?_
 simp only[pspC]at h
 split at h
 ·rename_i s den tt z n sz get
  obtain⟨l,⟨⟨rfl,rfl,hg⟩,hn1,hn⟩,h⟩:=h
  refine⟨[.int .i64 s,.int .i64 den,.vs tt z l.length 2 (fun k=>YA (l.getD k default))],⟨⟨rfl,rfl⟩,⟨rfl,rfl⟩,⟨id,rfl,rfl,rfl,hg⟩,trivial⟩,?_⟩
  dsimp only[v25,Ygg,prodC,YA,go_sem,reduceIte,Ya]
  simp only[Yd,Ya,Ye,reduceCtorEq,Yc]
  refine⟨l,⟨⟨rfl,rfl,fun k _=>Y1 _⟩,hn1,hn⟩,by decide,by decide,by decide,fun hc=>?_,fun hc=>?_⟩
  ·rw[Hc,if_pos hc]at h;exact Dm h
  ·rw[Hc,if_neg (by rw[hc];decide)]at h;exact Dm h
 ·exact h.1.elim
def v30:VF:=⟨23,[.tmp 2],(ZR [u1 1 .box [.tm 0],Zi 2 0] (.seq (ZR [Za 3 0 1,Zf 4 1 3,Zq 5 .lss 4 100000,Zm 6 5,Zj 7 6 false 0 1,Zh 8 6 false 1 7,u2 9 6 false (.cmp .gtr) [.tm 8,.cn (.int .i64 1000000)],u1 10 .or [.tm 6,.tm 9],Zm 11 10,Zj 12 11 false 1 1,Zh 13 11 false 1 12,u2 14 11 false (.call 24) [.tm 13],u2 15 11 false .not [.tm 14],u1 16 .or [.tm 11,.tm 15],Zm 17 16,Zj 18 17 false 2 1,Zh 19 17 false 1 18,u2 20 17 false (.call 24) [.tm 19],u2 21 17 false .not [.tm 20],u1 22 .or [.tm 17,.tm 21]] (ZC 22 (ZR [Zi 2 2] .ret) .skip)) (ZR [Zi 2 0] .ret)))⟩
theorem YsI:Yn Yb Tryz.f30=some v30:=by kernel_rfl
def v46:VF:=⟨77,[.tmp 4,.tmp 5],(ZR [u1 4 .mov [.cn .nil],Zi 5 0] (.seq (.draw [(6,.box [(.int .i64 0),(.int .i64 0),(.int .i64 0),(.int .i64 0),(.int .i64 0),(.int .i64 0),(.int .i64 0)])] [Zu 13 0,w1 14 .nilCheck [.tm 13],Zy 15 3 14,Zv 16 1 15,Zu 17 1,w1 18 .rem [.tm 17,.cn (.int .i64 12)],ZX 19 7 16 18,Zw 20 7 19,Zu 21 0,w1 22 .nilCheck [.tm 21],Zy 23 3 22,Zv 24 1 23,w1 25 (.idxAddr 7) [.tm 24,.cn (.int .i64 9)],Zw 26 7 25,Zz 27 81 20 26,Zu 12 27,ZE 28 0 12,ZE 29 1 12,ZS 7 6 28,Zu 7 29]) (ZR [Zt 31 7 6,Zc 32 82 31,Zm 30 32,Ze 33 0 30,Ze 34 1 30,Ze 35 2 30,Zm 8 33,Zm 9 34,Zm 10 35] (.seq (ZR [Zm 36 8,Zl 37 36,Zi 38 0] (.block 0 (.loop (ZR [Zr 39 .lss 38 37] (.seq (ZC 39 .skip (.exit 0)) (.seq (.block 1 (ZR [Zm 40 38,Zm 11 40] (.region [Zm 41 8,Zm 42 11,Zx 43 2 41 42,Za 44 1 43,Zf 45 1 44,u1 46 (.ari .mul) [.tm 45,.cn (.int .i64 2)],Zx 47 2 41 42,Za 48 1 47,Zs 1 48 46]))) (.region [Zp 49 38 1,Zm 38 49]))))))) (.seq (.draw [] [Zu 50 8,Zu 51 9,w1 52 (.ari .mul) [.cn (.int .i64 2),.tm 51],Zu 53 1,w1 54 .quo [.tm 53,.cn (.int .i64 12)],w1 55 (.ari .sub) [.tm 54,.cn (.int .i64 5)],w1 56 (.ari .mul) [.tm 52,.tm 55],w1 57 (.build [(.int .i64 0),(.int .i64 0)] [(0,1),(1,1)]) [.cn (.int .i64 2),.tm 56],Zu 58 0,w1 59 .nilCheck [.tm 58],Zy 60 0 59,Zy 61 2 60,Zv 62 1 61,Zu 63 9,Zu 65 0,w1 66 .nilCheck [.tm 65],Zy 67 0 66,Zy 68 1 67,Zv 69 1 68,Zu 70 9,w1 71 .neg [.tm 70],Zu 75 9,w1 76 (.ari .mul) [.cn (.int .i64 2),.tm 75],Zz 64 26 62 63,Zz 72 26 69 71,w1 73 (.buildSlice 2 3 [(.int .i64 0),(.int .i64 0)] [(0,2),(2,2),(4,2)]) [.tm 57,.tm 64,.tm 72],⟨u1 74 (.append 2 16 [(.int .i64 0),(.int .i64 0)]) [.tm 50,.tm 73],[.tm 9,.tm 75,.tm 75,.tm 76]⟩,Zu 4 74,Zu 5 76]) .ret)))))⟩
theorem YsY:Yn Yb Tryz.f46=some v46:=by kernel_rfl
def X5(a t0 t:Int):Int:=if a<100000\/1000000<a\/JB t0=false\/JB t=false then 2 else 0
def chkSC:Ctr:={ alias:=false,of:=fun l=>match l with
 | [.agg [.int .i64 a,.int .i64 t0,.int .i64 t]]=> .fin (.int .i64 (X5 a t0 t)) []
 |_=>noC}
def Wi(x:Int×Int):Int×Int:=(x.1,x.2*2)
def JS(L:Nat->Rt)(note:Int):Rt:=(KG (L (note%12).toNat) (L 9) (-1)).1
def Fy(r:Rt):List (Int×Int):=if YY r=0 then Ys r else []
def Hm(r:Rt):Int:=if YY r=0 then r.n else 0
def ZD(L:Nat->Rt)(t0 t note:Int):List (Int×Int)×Int:=
 ((Fy (JS L note)).map Wi++[(2,2*Hm (JS L note)*(note/12-5)),(273150+t,Hm (JS L note)),(273150+t0, -Hm (JS L note))],2*Hm (JS L note))
def XJ(l:List (Int×Int))(i k:Nat):Int×Int:=if k<i then Wi (l.getD k default)else l.getD k default
theorem Ro{r:Rt}(h:YY r=0):∀x,x∈Ys r-> -100000<=x.2/\x.2<=100000:=by
 obtain⟨_,h1,h2,h3,h4,h5,h6,_⟩:=WY h
 have key:∀(p n:Int),KW n=false->∀x,x∈tm1 p n-> -100000<=x.2/\x.2<=100000:=fun p n hn x hx=>by
  unfold tm1 at hx
  split at hx
  ·cases hx
  ·rw[JD]at hx;subst hx;exact QQ hn
 intro x hx
 simp only[Ys,KE]at hx
 rcases hx with hx|hx|hx|hx|hx|hx
 ·exact key _ _ h1 x hx
 ·exact key _ _ h2 x hx
 ·exact key _ _ h3 x hx
 ·exact key _ _ h4 x hx
 ·exact key _ _ h5 x hx
 ·exact key _ _ h6 x hx
theorem YdA{a b c d e f:Int}{k:Nat}(hk:k<3):YH (YR 2 (YK (k*2) [SV.int .i64 a,SV.int .i64 b,SV.int .i64 c,SV.int .i64 d,SV.int .i64 e,SV.int .i64 f]))=2/\Jk (YR 2 (YK (k*2) [SV.int .i64 a,SV.int .i64 b,SV.int .i64 c,SV.int .i64 d,SV.int .i64 e,SV.int .i64 f])):=by
 rcases(show k=0\/k=1\/k=2 by omega)with rfl|rfl|rfl <;> exact⟨rfl,trivial,trivial,trivial⟩
def termC:Ctr:={ alias:=false,of:=fun l=>match l with
 | [.xp _ [.int .i64 _,.int .i64 t0,.int .i64 t,.vs _ _ n sz get],.int .i64 note]=> .ex (Nat->Rt) fun L=> .pre ((n=12/\sz=7/\∀k,k<12->Qz (get k) (Yp (L k)))/\(0<=note/\note<=139)/\JB t0=true/\JB t=true)
     (.fin (.tup [.vs true false (ZD L t0 t note).1.length 2 (fun k=>YA ((ZD L t0 t note).1.getD k default)),.int .i64 (ZD L t0 t note).2]) [])
 |_=>noC}
def valdC:Ctr:={ alias:=false,of:=fun l=>match l with
 | [.int .i64 t]=> .fin (.bool (JB t)) []
 |_=> .pre False (.fin (.bool false) [])}
def TIv:Env:={ ct:=fun _=>none,fn:=fun _=>none,meth:=fun _ _=>none}
theorem Sy:YE Yb TIv:=by
 refine⟨fun f c h=>?_,fun f vf h=>?_,(fun _ _ _ h=>by cases h),by kernel_rfl,(fun _ h=>by cases h)⟩
 ·cases h
 ·cases h
theorem YtP:valdC.ok Yb 24:=by
 refine Yv Tryz.func24 YsD Sy 300 valdC fun args k h=>?_
 simp only[valdC]at h
 split at h
 ·rename_i t
  refine⟨[.int .i64 t],by simp [leL,le],?_⟩
  dsimp only[v24,go_sem,reduceIte,Ya]
  simp only[Yd,Ya,Ye,reduceCtorEq,Yc]
  exact Qi h
 ·exact h.1.elim
def TI0:Env:={ ct:=fun n=>match n with|24=>some valdC|_=>none,fn:=fun _=>none,meth:=fun _ _=>none}
theorem YgJ:TI0.ct 24=some valdC:=rfl
theorem YgK:YE Yb TI0:=by
 refine⟨fun f c h=>?_,fun f vf h=>?_,(fun _ _ _ h=>by cases h),by kernel_rfl,(fun _ h=>by cases h)⟩
 ·simp only[TI0]at h
  split at h
  ·cases h;exact⟨YtP,_,Tryz.func24,rfl,rfl⟩
  ·cases h
 ·cases h
theorem Ic:chkSC.ok Yb 30:=by
 refine Yv Tryz.func30 YsI YgK 300 chkSC fun args k h=>?_
 simp only[chkSC]at h
 split at h
 ·rename_i a t0 t
  refine⟨[.agg [.int .i64 a,.int .i64 t0,.int .i64 t]],by simp [leL,le],?_⟩
  dsimp only[v30,YgJ,valdC,go_sem,reduceIte,Ya]
  simp only[Yd,Ya,Ye,reduceCtorEq,Yc]
  have h:k (.int .i64 (X5 a t0 t)) []:=h
  refine⟨fun hc=>?_,fun hc=>?_⟩
  ·rw[X5,if_pos (by simpa [or_assoc]using hc)]at h;exact YX h
  ·rw[X5,if_neg (by simpa [or_assoc,and_assoc]using hc)]at h;exact YX h
 ·exact h.1.elim
def warmC:Ctr:={ alias:=false,of:=fun l=>match l with
 | [.int .i64 t,.int .i64 num]=> .pre (JB t=true) (.fin (.agg [.int .i64 (273150+t),.int .i64 num]) [])
 |_=>noC}
theorem UB{t:Int}(h:JB t=true): -20000<=t/\t<=50000:=by simpa [JB]using h
theorem YeK:warmC.ok Yb 26:=by
 refine Yv Tryz.func26 YsF Sy 300 warmC fun args k h=>?_
 simp only[warmC]at h
 split at h
 ·rename_i t num
  obtain⟨ht,h⟩:=h
  have ht:=UB ht
  refine⟨[.int .i64 t,.int .i64 num],by simp [leL,le],?_⟩
  dsimp only[v26,go_sem,reduceIte,Ya]
  simp only[Yd,Ya,Ye,reduceCtorEq,Yc]
  rw[Yg (273150+t) (by omega)]
  exact Dm h
 ·exact h.1.elim
def TI1:Env:={ ct:=fun n=>match n with|81=>some Wo|82=>some trmC|26=>some warmC|_=>none,fn:=fun _=>none,meth:=fun _ _=>none}
theorem FR:TI1.ct 81=some Wo:=rfl
theorem FT:TI1.ct 82=some trmC:=rfl
theorem FQ:TI1.ct 26=some warmC:=rfl
theorem YgL:YE Yb TI1:=by
 refine⟨fun f c h=>?_,fun f vf h=>?_,(fun _ _ _ h=>by cases h),by kernel_rfl,(fun _ h=>by cases h)⟩
 ·simp only[TI1]at h
  split at h
  ·cases h;exact⟨IB,_,Tryz.func81,rfl,rfl⟩
  ·cases h;exact⟨YdD,_,Tryz.func82,rfl,rfl⟩
  ·cases h;exact⟨YeK,_,Tryz.func26,rfl,rfl⟩
  ·cases h
 ·cases h
theorem Yro:termC.ok Yb 46:=by
 refine Yv Tryz.func46 YsY YgL 600 termC fun args k h=>?_
 simp only[termC]at h
 split at h
 ·rename_i tt a t0 t tv zv n sz get note
  obtain⟨L,⟨⟨rfl,rfl,hg⟩,hn,h0,h1⟩,h⟩:=h
  refine⟨[.xp tt [.int .i64 a,.int .i64 t0,.int .i64 t,.vs tv zv 12 7 (fun k=>Yp (L k))],.int .i64 note],?_,?_⟩
  ·simp only[BQ,BR,LP,BS,and_true,true_and]
   exact⟨id,⟨rfl,rfl⟩,⟨rfl,rfl⟩,⟨rfl,rfl⟩,⟨id,rfl,rfl,rfl,hg⟩,trivial⟩
  dsimp only[v46,XB,FR,FT,Wo,Ji,trmC,Yp,FQ,warmC,go_sem,reduceIte,Ya]
  simp only[Yd,Ya,Ye,reduceCtorEq,Yc]
  obtain⟨m,rfl⟩:∃m:Nat,note=(m:Int):=⟨note.toNat,by omega⟩
  have em:(m:Int).tmod 12=((m%12:Nat):Int):=by rw[UF (by omega)];omega
  simp only[em,Yh]
  obtain⟨r,hr⟩:∃r,r=JS L m:=⟨_,rfl⟩
  have hr':(KG (L (m%12)) (L (Xi 9)) (-1)).1=r:=by rw[hr,JS,show((m:Int)%12).toNat=m%12 by omega];rfl
  simp only[hr']
  refine⟨by decide,⟨by omega,by omega⟩,by decide,by decide,by decide,?_⟩
  by_cases hc:YY r=0
  ·rw[if_neg (fun hh=>hh hc)]
   dsimp only[XB,FR,FT,Wo,Ji,trmC,Yp,FQ,warmC,go_sem,reduceIte,Ya]
   simp only[Yd,Ya,Ye,reduceCtorEq,Yc]
   intro z
   refine⟨by decide,by decide,by decide,?_⟩
   have hlen:=V0 r
   refine Loop.keep [0,0,2,0,2,0,27] Nat (fun i=>[(38,.int .i64 i)]) (fun i=>[(2,.own z 2 (Ys r).length (fun k=>YA (XJ (Ys r) i k)))]) [] (fun i=>i<=(Ys r).length) (fun i=>(Ys r).length-i) ?_ ?_
   ·refine⟨0,JP _,?_⟩
    dsimp only[YA,go_sem,reduceIte,Ya]
    simp only[Yf]
    refine⟨⟨by decide,rfl⟩,fun k hk=>?_⟩
    rw[XJ,if_neg (QC _)]
    exact⟨rfl,rfl⟩
   ·rintro i hi
    dsimp only[XB,FR,FT,Wo,Ji,trmC,Yp,FQ,warmC,YA,Yh,go_sem,reduceIte,Ya]
    simp only[Yd,Ya,Ye,reduceCtorEq,Yc]
    refine⟨fun hlt=>?_,fun hge=>?_⟩
    ·have hil:i<(Ys r).length:=by omega
     have hx:=Ro hc _ (KK hil)
     have ei:XJ (Ys r) i i=(Ys r).getD i default:=if_neg (XX _)
     rw[ei,Yg (((Ys r).getD i default).2*2) (by omega),NO hil (by omega)]
     refine⟨⟨by omega,by omega⟩,hil,⟨by omega,by omega⟩,hil,i+1,by omega,by omega,?_⟩
     simp only[Yf]
     refine⟨by decide,fun k hk=>?_⟩
     by_cases hki:k=i
     ·subst hki
      rw[if_pos rfl,XJ,if_pos (by omega)]
      exact⟨⟨rfl,rfl⟩,⟨rfl,rfl⟩,trivial⟩
     ·rw[if_neg hki]
      have:XJ (Ys r) (i+1) k=XJ (Ys r) i k:=by
       unfold XJ
       by_cases h1:k<i
       ·rw[if_pos h1,if_pos (by omega)]
       ·rw[if_neg h1,if_neg (by omega)]
      rw[this]
      exact⟨⟨rfl,rfl⟩,⟨rfl,rfl⟩,trivial⟩
    ·obtain rfl:i=(Ys r).length:=by omega
     have hd:=ZU hc
     have e1:IntKind.i64.wrap (2*r.n)=2*r.n:=Yg _ (by omega)
     have e2:IntKind.i64.wrap (IntKind.i64.wrap ((m:Int).tdiv 12)-5)=(m:Int)/12-5:=by
      rw[ZG (by omega),Yg ((m:Int)/12) (by omega),Yg _ (by omega)]
     have hm:=Js (x:=2*r.n) (y:=(m:Int)/12-5) (X:=2000) (Y:=20) (by omega) (by omega)
     have e3:IntKind.i64.wrap (2*r.n*((m:Int)/12-5))=2*r.n*((m:Int)/12-5):=Yg _ (by omega)
     have e4:IntKind.i64.wrap (0-r.n)= -r.n:=by rw[Yg _ (by omega)];omega
     rw[e1,e2,e3,e4]
     refine⟨by decide,h1,h0,by decide,⟨by unfold Ka;omega,fun k hk=>YdA hk⟩,?_⟩
     have hT:ZD L t0 t m=((Ys r).map Wi++[(2,2*r.n*((m:Int)/12-5)),(273150+t,r.n),(273150+t0, -r.n)],2*r.n):=by
      rw[ZD,<-hr,Fy,if_pos hc,Hm,if_pos hc]
     refine Ky (show k _ []from h) ?_ (fun _=>by simp [Y0,Y4,YA])
     rw[hT]
     dsimp only[QE,go_sem,reduceIte,Ya]
     simp only[Yf]
     refine⟨by simp,by simp,fun q hq=>?_⟩
     by_cases h2:q<(Ys r).length
     ·simp only[if_pos h2,XJ]
      rw[MB (by simpa using h2),B3 h2]
      exact Y1 _
     ·simp only[if_neg h2]
      rw[MC (by simp;omega),Vq]
      rcases(show q-(Ys r).length=0\/q-(Ys r).length=1\/q-(Ys r).length=2 by omega)with e|e|e <;> (rw[e];exact Y1 _)
  ·rw[if_pos hc]
   dsimp only[XB,FR,FT,Wo,Ji,trmC,Yp,FQ,warmC,go_sem,reduceIte,Ya]
   simp only[Yd,Ya,Ye,reduceCtorEq,Yc]
   refine⟨by decide,by decide,by decide,?_⟩
   refine Loop.keep [0,0,2,0,2,0,27] Nat (fun i=>[(38,.int .i64 i)]) (fun _=>[]) [] (fun i=>i=0) (fun i=>i) ?_ ?_
   ·refine⟨0,rfl,?_⟩
    dsimp only[go_sem,reduceIte,Ya]
    simp only[Yf]
    rfl
   ·rintro i rfl
    dsimp only[XB,FR,FT,Wo,Ji,trmC,Yp,FQ,warmC,YA,Yh,go_sem,reduceIte,Ya]
    simp only[Yd,Ya,Ye,reduceCtorEq,Yc]
    have e2:IntKind.i64.wrap (IntKind.i64.wrap ((m:Int).tdiv 12)-5)=(m:Int)/12-5:=by
     rw[ZG (by omega),Yg ((m:Int)/12) (by omega),Yg _ (by omega)]
    have e3:IntKind.i64.wrap (IntKind.i64.wrap (2*0)*((m:Int)/12-5))=2*0*((m:Int)/12-5):=by
     rw[show IntKind.i64.wrap (2*0)=0 by decide,Int.mul_zero,Int.zero_mul];decide
    rw[e2,e3]
    refine⟨fun hh=>absurd hh (by decide),fun _=>⟨by decide,h1,h0,by decide,⟨by unfold Ka;omega,fun k hk=>YdA hk⟩,?_⟩⟩
    have hT:ZD L t0 t m=([(2,2*0*((m:Int)/12-5)),(273150+t,0),(273150+t0, -0)],2*0):=by
     rw[ZD,<-hr,Fy,if_neg hc,Hm,if_neg hc];rfl
    refine Ky (show k _ []from h) ?_ (fun _=>by simp [Y0,Y4,YA])
    rw[hT]
    dsimp only[QE,go_sem,reduceIte,Ya]
    simp only[Yf]
    refine⟨⟨by decide,rfl,fun q hq=>?_⟩,by decide⟩
    rw[show IntKind.i64.wrap (0-0)= -0 by decide]
    rcases(show q=0\/q=1\/q=2 by omega)with rfl|rfl|rfl <;> exact Y1 _
 ·exact h.1.elim
def v21:VF:=⟨19,[.cell 6 true 2],(ZR [Zn 6] (ZR [Zm 10 0,Zm 11 1,Zd 12 46 10 11,Zm 9 12,Ze 13 0 9,Ze 14 1 9,Zm 7 13,Zm 8 14] (ZR [Zm 15 2,Zm 16 8,Zm 17 7,u1 18 (.call 25) [.tm 15,.tm 16,.tm 17],Zs 2 6 18] .ret)))⟩
theorem YsC:Yn Yb Tryz.f21=some v21:=by kernel_rfl
def v41:VF:=⟨31,[.cell 8 true 2,.tmp 9],(ZR [u1 4 .box [.tm 0],u1 5 .box [.tm 1],Zn 8,Zi 9 0] (ZR [Zt 13 3 4,Zt 14 27 5,Zd 15 19 13 14,Zm 12 15,Ze 16 0 12,Ze 17 1 12,Zm 10 16,Zm 11 17] (.seq (.block 0 (ZR [Zm 19 11,Zq 20 .neq 19 0,Zm 18 20] (ZC 18 (ZR [u1 21 (.build [(.int .i64 0),(.int .i64 0)] []) [],Zm 22 11,Zs 2 8 21,Zm 9 22] .ret) (ZR [Zm 24 2,Zc 25 20 24,u1 26 .not [.tm 25],Zm 23 26] (ZC 23 (ZR [u1 27 (.build [(.int .i64 0),(.int .i64 0)] []) [],Zs 2 8 27,Zi 9 2] .ret) .skip))))) (ZR [Zm 28 3,Zm 29 10,u1 30 .callv [.tm 28,.tm 29],Zs 2 8 30,Zi 9 0] .ret))))⟩
theorem YsT:Yn Yb Tryz.f41=some v41:=by kernel_rfl
def v19:VF:=⟨26,[.tmp 4,.tmp 5],(ZR [u1 2 .box [.tm 0],u1 3 .box [.tm 1],u1 4 .mov [.cn (.val (.pointer none))],Zi 5 0] (.seq (ZR [Zt 9 3 2,Zc 10 30 9,Zm 6 10] (ZR [Zm 11 6,Zq 12 .neq 11 0] (ZC 12 (ZR [Zm 13 6,u1 4 .mov [.cn (.val (.pointer none))],Zm 5 13] .ret) .skip))) (ZR [Zt 15 27 3,Zc 16 45 15,Zm 14 16,Ze 17 0 14,Ze 18 1 14,Zm 7 17,Zm 8 18] (.seq (ZR [Zm 19 8,Zq 20 .neq 19 0] (ZC 20 (ZR [Zm 21 8,u1 4 .mov [.cn (.val (.pointer none))],Zm 5 21] .ret) .skip)) (ZR [Zt 22 3 2,Zm 23 7,u1 24 (.build [(.int .i64 0),(.int .i64 0),(.int .i64 0),.nil] [(0,3),(3,1)]) [.tm 22,.tm 23],u1 25 .box [.tm 24],Zm 4 25,Zi 5 0] .ret)))))⟩
theorem YsA:Yn Yb Tryz.f19=some v19:=by kernel_rfl
def v20:VF:=⟨9,[.tmp 2],(ZR [u1 2 .mov [.cn (.bool false)]] (ZR [Zm 3 0,Zq 4 .geq 3 0,Zm 5 4,Zg 6 5 true 0,u2 7 5 true (.cmp .leq) [.tm 6,.cn (.int .i64 139)],u1 8 .and [.tm 5,.tm 7],Zm 2 8] .ret))⟩
theorem YsB:Yn Yb Tryz.f20=some v20:=by kernel_rfl
theorem Ws(T:Tm):YR 27 (YW T)=YW T:=rfl
theorem Xy(T:Tm):YH (YW T)=27:=rfl
def VJ(L:Nat->Rt)(t0 t note u:Int):Int×Int:=Hc u (ZD L t0 t note).1 (ZD L t0 t note).2
def freqC:Ctr:={ alias:=false,of:=fun l=>match l with
 | [.xp _ [.int .i64 _,.int .i64 t0,.int .i64 t,.vs _ _ n sz get],.int .i64 note,.int .i64 u]=> .ex (Nat->Rt) fun L=> .pre ((n=12/\sz=7/\∀k,k<12->Qz (get k) (Yp (L k)))/\(0<=note/\note<=139)/\JB t0=true/\JB t=true)
     (.fin (.agg [.int .i64 (VJ L t0 t note u).1,.int .i64 (VJ L t0 t note u).2]) [])
 |_=>noC}
theorem Yrn(L:Nat->Rt)(t0 t note:Int):3<=(ZD L t0 t note).1.length/\(ZD L t0 t note).1.length<=9:=by
 have:(Fy (JS L note)).length<=6:=by
  unfold Fy;split
  ·exact V0 _
  ·simp
 simp only[ZD,JI,Vq,Xr,ZI]
 omega
def TJ0:Env:={ ct:=fun n=>match n with|46=>some termC|25=>some pspC|_=>none,fn:=fun _=>none,meth:=fun _ _=>none}
theorem YgN:TJ0.ct 46=some termC:=rfl
theorem YgM:TJ0.ct 25=some pspC:=rfl
theorem YgO:YE Yb TJ0:=by
 refine⟨fun f c h=>?_,fun f vf h=>?_,(fun _ _ _ h=>by cases h),by kernel_rfl,(fun _ h=>by cases h)⟩
 ·simp only[TJ0]at h
  split at h
  ·cases h;exact⟨Yro,_,Tryz.func46,rfl,rfl⟩
  ·cases h;exact⟨Yn4,_,Tryz.func25,rfl,rfl⟩
  ·cases h
 ·cases h
theorem Ykb:freqC.ok Yb 21:=by
 refine Yv Tryz.func21 YsC YgO 600 freqC fun args k h=>?_
 simp only[freqC]at h
 split at h
 ·rename_i tt a t0 t tv zv n sz get note u
  obtain⟨L,⟨⟨rfl,rfl,hg⟩,hn,h0,h1⟩,h⟩:=h
  refine⟨[.xp tt [.int .i64 a,.int .i64 t0,.int .i64 t,.vs tv zv 12 7 (fun k=>Yp (L k))],.int .i64 note,.int .i64 u],?_,?_⟩
  ·simp only[BQ,BR,LP,BS,and_true,true_and]
   exact⟨id,⟨rfl,rfl⟩,⟨rfl,rfl⟩,⟨rfl,rfl⟩,⟨id,rfl,rfl,rfl,hg⟩,trivial⟩
  have hl:=Yrn L t0 t note
  dsimp only[v21,YgN,YgM,termC,pspC,go_sem,reduceIte,Ya]
  simp only[Yd,Ya,Ye,reduceCtorEq,Yc]
  refine⟨L,⟨fun q _=>Y1 _,hn,h0,h1⟩,by decide,by decide,(ZD L t0 t note).1,⟨⟨rfl,rfl,fun q _=>Y1 _⟩,by omega,by omega⟩,?_⟩
  exact Dm (show k _ []from h)
 ·exact h.1.elim
theorem GV{a t0 t:Int}(h:X5 a t0 t=0):(100000<=a/\a<=1000000)/\JB t0=true/\JB t=true:=by
 unfold X5 at h
 split at h
 ·cases h
 ·rename_i hn
  simp only[not_or,Bool.not_eq_false]at hn
  exact⟨by omega,hn.2.2.1,hn.2.2.2⟩
abbrev Iv:=Int×Int
def Aa(x:Int):Bool:=decide (-4611686018427387904<=x)&&decide (x<=4611686018427387904)
def ivE(l:List Iv):Int:=if l.all (fun a=>Aa a.1&&Aa a.2)then(if l.all (fun a=>decide (a.1<=a.2))then 0 else 2)else 7
def rndT(up:Bool)(x d:Int):Int:=if up then -((-x)/d)else x/d
def rndB(t:Int):Int×Bool:=if -4611686018427387904<=t/\t<=4611686018427387904 then(t,true)else(0,false)
def YcE(up:Bool)(x d:Int):Int×Bool:=rndB (rndT up x d)
def YqW(a b:Int×Bool):Iv×Int:=if a.2&&b.2 then((a.1,b.1),0)else((0,0),7)
def lowI(x:Int)(r:List Int):Int:=r.foldl (fun low y=>if y<low then y else low) x
def YkE(x:Int)(r:List Int):Int:=r.foldl (fun high y=>if high<y then y else high) x
def YqV(d:Int)(x:Int)(r:List Int):Iv×Int:=YqW (YcE false (lowI x r) d) (YcE true (YkE x r) d)
def fitF(lo hi:Int):Iv×Int:=if Aa lo&&Aa hi then((lo,hi),0)else((0,0),7)
def Oa(e:Int):Iv×Int:=((0,0),e)
def addF(a b:Iv):Iv×Int:=if ivE [a,b]≠0 then Oa (ivE [a,b])else fitF (a.1+b.1) (a.2+b.2)
def mulF(a b:Iv):Iv×Int:=if ivE [a,b]≠0 then Oa (ivE [a,b])else YqV 1 (a.1*b.1) [a.1*b.2,a.2*b.1,a.2*b.2]
def Yaa(f:Iv->Iv->Iv×Int):Ctr:={ alias:=false,of:=fun a=>match a with
 | [.agg [.int .i64 x,.int .i64 y],.agg [.int .i64 z,.int .i64 w]]=> .fin (.tup [.agg (YA (f (x,y) (z,w)).1),.int .i64 (f (x,y) (z,w)).2]) []
 |_=>noC}
def addC:=Yaa addF
def mulC:=Yaa mulF
structure Prt where
 a:Iv
 b:Iv
 e:Int
def v27:VF:=⟨9,[.tmp 2],(ZR [u1 2 .mov [.cn (.bool false)]] (ZR [Zm 3 0,Zq 4 .geq 3 (-20000),Zm 5 4,Zg 6 5 true 0,u2 7 5 true (.cmp .leq) [.tm 6,.cn (.int .i64 50000)],u1 8 .and [.tm 5,.tm 7],Zm 2 8] .ret))⟩
theorem YsG:Yn Yb Tryz.f27=some v27:=by kernel_rfl
def v32:VF:=⟨23,[.tmp 2],(ZR [u1 1 .box [.tm 0],Zi 2 0] (.seq (ZR [Za 3 0 1,Zf 4 1 3,Zq 5 .lss 4 100000,Zm 6 5,Zj 7 6 false 0 1,Zh 8 6 false 1 7,u2 9 6 false (.cmp .gtr) [.tm 8,.cn (.int .i64 1000000)],u1 10 .or [.tm 6,.tm 9],Zm 11 10,Zj 12 11 false 1 1,Zh 13 11 false 1 12,u2 14 11 false (.call 27) [.tm 13],u2 15 11 false .not [.tm 14],u1 16 .or [.tm 11,.tm 15],Zm 17 16,Zj 18 17 false 2 1,Zh 19 17 false 1 18,u2 20 17 false (.call 27) [.tm 19],u2 21 17 false .not [.tm 20],u1 22 .or [.tm 17,.tm 21]] (ZC 22 (ZR [Zi 2 2] .ret) .skip)) (ZR [Zi 2 0] .ret)))⟩
theorem YsK:Yn Yb Tryz.f32=some v32:=by kernel_rfl
def v61:VF:=⟨12,[.tmp 4],(ZR [Zi 4 0] (.seq (.block 0 (.loop (.seq (ZR [Zm 5 1,Zq 6 .neq 5 0] (ZC 6 .skip (.exit 0))) (.block 1 (.draw [] [Zu 7 1,Zu 8 0,Zu 9 1,w1 10 .rem [.tm 8,.tm 9],Zu 0 7,Zu 1 10]))))) (ZR [Zm 11 0,Zm 4 11] .ret)))⟩
theorem Ytd:Yn Yb Tryz.f61=some v61:=by kernel_rfl
def v34:VF:=⟨92,[.tmp 2],(ZR [u1 1 .box [.tm 0],Zi 2 0] (.seq (ZR [Za 8 2 1,Zf 9 1 8,Zq 10 .lss 9 0,Zm 11 10,Zj 12 11 false 2 1,Zh 13 11 false 1 12,u2 14 11 false (.cmp .gtr) [.tm 13,.cn (.int .i64 11)],u1 15 .or [.tm 11,.tm 14]] (ZC 15 (ZR [Zi 2 2] .ret) .skip)) (.seq (ZR [Zi 3 0] (.block 0 (.loop (.seq (ZR [Zm 16 3,Zq 17 .lss 16 12] (ZC 17 .skip (.exit 0))) (.seq (.block 1 (ZR [Zm 20 3,Za 21 3 1,u1 22 (.idxArr 12 2) [.tm 21,.tm 20],Zt 23 2 22,Zn 4,Zs 2 4 23] (ZR [Za 24 1 4,Zf 25 1 24,Zq 26 .lss 25 1,Zm 27 26,Zj 28 27 false 1 4,Zh 29 27 false 1 28,u2 30 27 false (.cmp .gtr) [.tm 29,.cn (.int .i64 24)],u1 31 .or [.tm 27,.tm 30],Zm 32 31,Zj 33 32 false 0 4,Zh 34 32 false 1 33,Zj 35 32 false 1 4,Zh 36 32 false 1 35,u2 37 32 false (.ari .mul) [.cn (.int .i64 (-2)),.tm 36],u2 38 32 false (.cmp .lss) [.tm 34,.tm 37],u1 39 .or [.tm 32,.tm 38],Zm 40 39,Zj 41 40 false 0 4,Zh 42 40 false 1 41,Zj 43 40 false 1 4,Zh 44 40 false 1 43,u2 45 40 false (.ari .mul) [.cn (.int .i64 2),.tm 44],u2 46 40 false (.cmp .gtr) [.tm 42,.tm 45],u1 47 .or [.tm 40,.tm 46]] (ZC 47 (ZR [Zi 2 2] .ret) .skip)))) (.region [Zm 18 3,Zp 19 18 1,Zm 3 19])))))) (.seq (ZR [Za 48 0 1,Zf 49 1 48,Zc 50 60 49,u1 51 .not [.tm 50],Zm 52 51,Zj 53 52 false 2 1,Zh 54 52 false 1 53,Zj 55 52 false 3 1,u2 56 52 false (.idxArr 12 2) [.tm 55,.tm 54],u2 57 52 false (.load true 2) [.tm 56],u2 58 52 false (.build [(.int .i64 0),(.int .i64 0)] [(0,1),(1,1)]) [.cn (.int .i64 0),.cn (.int .i64 1)],u2 59 52 false (.eqv true [true,true]) [.tm 57,.tm 58],u1 60 .or [.tm 52,.tm 59]] (ZC 60 (ZR [Zi 2 6] .ret) .skip)) (ZR [Zi 5 1] (.seq (ZR [Zi 6 0] (.block 2 (.loop (.seq (ZR [Zm 61 6,Zq 62 .lss 61 12] (ZC 62 .skip (.exit 2))) (.seq (.block 3 (ZR [Zm 65 6,Za 66 3 1,u1 67 (.idxArr 12 2) [.tm 66,.tm 65],Zt 68 2 67,Zn 7,Zs 2 7 68] (.seq (ZR [Za 69 0 7,Zf 70 1 69,Za 71 0 7,Zf 72 1 71,u1 73 .neg [.tm 72],u1 74 .max [.tm 70,.tm 73],Za 75 1 7,Zf 76 1 75,Zd 77 61 74 76,Zq 78 .neq 77 1] (ZC 78 (ZR [Zi 2 6] .ret) .skip)) (ZR [Zm 79 5,Zq 80 .leq 79 120] (ZC 80 (.draw [] [Zu 81 5,Zu 82 5,Zy 83 1 7,Zv 84 1 83,Zy 87 1 7,Zv 88 1 87,Zz 85 61 82 84,w1 86 .quo [.tm 81,.tm 85],w1 89 (.ari .mul) [.tm 86,.tm 88],Zu 5 89]) .skip))))) (.region [Zm 63 6,Zp 64 63 1,Zm 6 64])))))) (.seq (ZR [Zm 90 5,Zq 91 .gtr 90 120] (ZC 91 (ZR [Zi 2 7] .ret) .skip)) (ZR [Zi 2 0] .ret))))))))⟩
theorem YsM:Yn Yb Tryz.f34=some v34:=by kernel_rfl
def TT0:Env:={ ct:=fun _=>none,fn:=fun _=>none,meth:=fun _ _=>none}
theorem SA:YE Yb TT0:=by
 refine⟨fun f c h=>?_,fun f vf h=>?_,(fun _ _ _ h=>by cases h),by kernel_rfl,(fun _ h=>by cases h)⟩
 ·cases h
 ·cases h
theorem Yrs:valdC.ok Yb 27:=by
 refine Yv Tryz.func27 YsG SA 300 valdC fun args k h=>?_
 simp only[valdC]at h
 split at h
 ·rename_i t
  refine⟨[.int .i64 t],by simp [leL,le],?_⟩
  dsimp only[v27,go_sem,reduceIte,Ya]
  simp only[Yd,Ya,Ye,reduceCtorEq,Yc]
  exact Qi h
 ·exact h.1.elim
def TT1:Env:={ ct:=fun n=>match n with|27=>some valdC|_=>none,fn:=fun _=>none,meth:=fun _ _=>none}
theorem YgT:TT1.ct 27=some valdC:=rfl
theorem YgU:YE Yb TT1:=by
 refine⟨fun f c h=>?_,fun f vf h=>?_,(fun _ _ _ h=>by cases h),by kernel_rfl,(fun _ h=>by cases h)⟩
 ·simp only[TT1]at h
  split at h
  ·cases h;exact⟨Yrs,_,Tryz.func27,rfl,rfl⟩
  ·cases h
 ·cases h
theorem Yi6:chkSC.ok Yb 32:=by
 refine Yv Tryz.func32 YsK YgU 300 chkSC fun args k h=>?_
 simp only[chkSC]at h
 split at h
 ·rename_i a t0 t
  refine⟨[.agg [.int .i64 a,.int .i64 t0,.int .i64 t]],by simp [leL,le],?_⟩
  dsimp only[v32,YgT,valdC,go_sem,reduceIte,Ya]
  simp only[Yd,Ya,Ye,reduceCtorEq,Yc]
  have h:k (.int .i64 (X5 a t0 t)) []:=h
  refine⟨fun hc=>?_,fun hc=>?_⟩
  ·rw[X5,if_pos (by simpa [or_assoc]using hc)]at h;exact YX h
  ·rw[X5,if_neg (by simpa [or_assoc,and_assoc]using hc)]at h;exact YX h
 ·exact h.1.elim
theorem Ykn:tgcdC.ok Yb 61:=by
 refine Yv Tryz.func61 Ytd SA 100 tgcdC fun args k h=>?_
 simp only[tgcdC]at h
 split at h
 ·rename_i a b
  obtain⟨x,y,⟨rfl,rfl,hx,hy⟩,h⟩:=h
  refine⟨[.int .i64 x,.int .i64 y],by simp [leL,le],?_⟩
  dsimp only[v61,go_sem,reduceIte,Ya]
  simp only[Yd,Ya,Ye,reduceCtorEq,Yc]
  refine Loop.keep [4] (Nat×Nat) (fun s=>[(0,.int .i64 s.1),(1,.int .i64 s.2)]) (fun _=>[]) [] (fun s=>YG s.1 s.2=YG x y/\s.1<=9223372036854775807/\s.2<=9223372036854775807) (fun s=>s.2) ?_ ?_
  ·refine⟨(x,y),⟨rfl,hx,hy⟩,?_⟩
   dsimp only[go_sem,reduceIte,Ya]
   simp only[Yf]
  ·rintro⟨p,q⟩ ⟨he,hp,hq⟩
   dsimp only at he hp hq
   dsimp only[go_sem,reduceIte,Ya]
   simp only[Yd,Ya,Ye,reduceCtorEq,Yc]
   refine⟨fun hc=>⟨hc,(q,p%q),⟨?_,by simp only;omega,?_⟩,?_,?_⟩,fun hc=>YX ?_⟩
   ·rw[<-he,Nat.gcd_comm p q]
    show YG q (p%q)=YG q p
    rw[Nat.gcd_comm q (p%q),<-Nat.gcd_rec]
   ·have:=Kj p (by omega:0<q)
    simp only;omega
   ·exact Kj p (by omega:0<q)
   ·have e:(p:Int).tmod q=((p%q:Nat):Int):=Vm rfl rfl
    rw[e]
    simp only[Yf]
   ·obtain rfl:q=0:=by omega
    rw[Nat.gcd_zero_right]at he
    rw[he];exact h
 ·exact h.1.elim
theorem Vz{T:Tm}(h:Ki T=0):(0<=T.wolf/\T.wolf<=11)/\(∀j,j<12->XH (T.p j)=false)/\Xz T.nm=true/\(∀j,j<12->Un (T.p j)=1)/\(T.p T.wolf.toNat).1=0/\YQ T 12<=120:=by
 unfold Ki at h
 split at h
 ·exact absurd h (by decide)
 rename_i h1
 split at h
 ·exact absurd h (by decide)
 rename_i h2
 split at h
 ·exact absurd h (by decide)
 rename_i h3
 split at h
 ·exact absurd h (by decide)
 rename_i h4
 have h5:Xz T.nm=true/\WF T 12=true/\(T.p T.wolf.toNat).1=0:=by
  refine⟨?_,?_,?_⟩
  ·cases hn:Xz T.nm
   ·exact absurd (.inl hn) h3
   ·rfl
  ·cases hn:WF T 12
   ·exact absurd (.inr (.inl hn)) h3
   ·rfl
  ·exact Classical.byContradiction fun hn=>h3 (.inr (.inr hn))
 refine⟨by omega,fun j hj=>?_,h5.1,fun j hj=>?_,h5.2.2,by omega⟩
 ·cases hb:XH (T.p j)
  ·rfl
  ·exact absurd (Dq hj hb) h2
 ·have:=Vn.1 h5.2.1 j (List.mem_range.2 hj)
  exact of_decide_eq_true this
theorem E4(T:Tm){i:Nat}(h:i<12):YR 2 (YK (3+Kq (i:Int) 2) (YW T))=[.int .i64 (T.p i).1,.int .i64 (T.p i).2]:=by
 rcases V1 h with rfl|rfl|rfl|rfl|rfl|rfl|rfl|rfl|rfl|rfl|rfl|rfl <;> rfl
theorem E5(T:Tm){i:Nat}(h:i<12):2<=YH (YK (3+Kq (i:Int) 2) (YW T)):=by
 rcases V1 h with rfl|rfl|rfl|rfl|rfl|rfl|rfl|rfl|rfl|rfl|rfl|rfl <;> exact KI rfl
def chk5A:Ctr:={ alias:=false,of:=fun l=>match l with
 | [.agg cs]=> .ex Tm fun T=> .pre (cs=YW T/\T.nm.size<=9223372036854775807) (.fin (.int .i64 (Ki T)) [])
 |_=>noC}
theorem YaH{T:Tm}{i:Nat}(hi:i<12)(h:¬Un (T.p i)=1):WF T 12=false:=List.all_eq_false.2 ⟨i,List.mem_range.2 hi,by simpa using h⟩
theorem Ymv{T:Tm}(h:∀i,i<12->Un (T.p i)=1):WF T 12=true:=Vn.2 fun i hi=>decide_eq_true (h i (List.mem_range.1 hi))
def TT3:Env:={ ct:=fun n=>match n with|61=>some tgcdC|60=>some nameC|_=>none,fn:=fun _=>none,meth:=fun _ _=>none}
theorem Hw:TT3.ct 61=some tgcdC:=rfl
theorem Hv:TT3.ct 60=some nameC:=rfl
theorem YgV:YE Yb TT3:=by
 refine⟨fun f c h=>?_,fun f vf h=>?_,(fun _ _ _ h=>by cases h),by kernel_rfl,(fun _ h=>by cases h)⟩
 ·simp only[TT3]at h
  split at h
  ·cases h;exact⟨Ykn,_,Tryz.func61,rfl,rfl⟩
  ·cases h;exact⟨Yqj,_,Tryz.func60,rfl,rfl⟩
  ·cases h
 ·cases h
theorem T8:chk5A.ok Yb 34:=by
 refine Yv Tryz.func34 YsM YgV 300 chk5A fun args k h=>?_
 simp only[chk5A]at h
 split at h
 ·rename_i cs
  obtain⟨T,⟨rfl,hnm⟩,h⟩:=h
  refine⟨[.agg (YW T)],⟨YU _ (JQ T _),trivial⟩,?_⟩
  have h:k (.int .i64 (Ki T)) []:=h
  dsimp only[v34,YW,Xv,Hw,Hv,tgcdC,nameC,go_sem,reduceIte,Ya]
  simp only[Yd,Ya,Ye,reduceCtorEq,Yc]
  refine⟨rfl,fun hb=>?_,fun hb=>?_⟩
  ·rw[Ki,if_pos (by simpa using hb)]at h;exact YX h
  have hw:0<=T.wolf/\T.wolf<=11:=by simp only[JH,decide_eq_false_iff_not]at hb;omega
  rw[Ki,if_neg (by omega)]at h
  refine Loop.keep [1] Nat (fun i=>[(3,.int .i64 i)]) (fun _=>[]) [] (fun i=>i<=12/\∀j,j<i->XH (T.p j)=false) (fun i=>12-i) ?_ ?_
  ·refine⟨0,⟨by omega,fun j hj=>by omega⟩,?_⟩
   dsimp only[go_sem,reduceIte,Ya]
   simp only[Yf]
   exact⟨by decide,rfl⟩
  ·rintro i ⟨hi,hall⟩
   replace hi:i<=12:=hi
   dsimp only[Hw,Hv,tgcdC,nameC,Yh,go_sem,reduceIte,Ya]
   simp only[Yd,Ya,Ye,reduceCtorEq,Yc]
   refine⟨fun hlt=>?_,fun hge=>?_⟩
   ·have hi12:i<12:=by omega
    have e:=E4 T hi12
    have el:=E5 T hi12
    simp only[YW,Xv]at e el
    rw[e]
    dsimp only[Hw,Hv,tgcdC,nameC,Yh,go_sem,reduceIte,Ya]
    simp only[Yd,Ya,Ye,reduceCtorEq,Yc]
    simp only[TE (T.p i)]
    refine⟨⟨by omega,by omega⟩,el,fun hb=>?_,fun hb=>⟨i+1,⟨by omega,fun j hj=>?_⟩,by omega,?_⟩⟩
    ·rw[if_pos (Dq hi12 hb)]at h;exact YX h
    ·rcases YV j i with h1|h1
     ·exact hall j h1
     ·obtain rfl:j=i:=by omega
      exact hb
    ·rw[Yg ((i:Int)+1) (by omega)]
     simp only[Yf]
     exact⟨by decide,rfl⟩
   ·obtain rfl:i=12:=by omega
    have hbad:∀j,j<12->XH (T.p j)=false:=hall
    rw[if_neg (by rw[TC hbad];decide)]at h
    obtain⟨w,hwe⟩:∃w:Nat,T.wolf=(w:Int):=⟨T.wolf.toNat,by omega⟩
    have hw12:w<12:=by omega
    have e:=E4 T hw12
    have el:=E5 T hw12
    simp only[YW,Xv,hwe]at e el
    rw[hwe,Yh]at h
    simp only[Kw,hwe]
    rw[e]
    dsimp only[Hw,Hv,tgcdC,nameC,Yh,go_sem,reduceIte,Ya]
    simp only[Yd,Ya,Ye,reduceCtorEq,Yc]
    refine⟨hnm,fun _=>⟨by omega,by omega⟩,fun _=>el,fun hc=>?_,fun hc=>?_⟩
    ·have hx:Xz T.nm=false\/WF T 12=false\/(T.p w).1≠0:=by
      cases hnf:Xz T.nm
      ·exact Jo rfl
      ·refine KV ?_
       by_cases h0:(T.p w).1=0
       ·refine Jo (YaH hw12 fun hg=>?_)
        unfold Un at hg
        rw[h0]at hg
        have h2:=HC (hbad w hw12)
        simp at hg
        rw[hnf,h0,show(T.p w).2=1 by omega]at hc
        exact absurd hc (by decide)
       ·exact KV h0
     rw[if_pos hx]at h;exact YX h
    have hnw:Xz T.nm=true/\(T.p w).1=0:=by
     simp only[JH,Bool.not_eq_false',YS,decide_eq_true_eq]at hc
     exact⟨hc.1,hc.2.1⟩
    rw[hnw.1,hnw.2]at h
    refine Loop.keep [1] Nat (fun i=>[(5,.int .i64 (YQ T i:Nat)),(6,.int .i64 i)]) (fun _=>[]) [] (fun i=>i<=12/\∀j,j<i->Un (T.p j)=1) (fun i=>12-i) ?_ ?_
    ·refine⟨0,⟨by omega,fun j hj=>by omega⟩,?_⟩
     dsimp only[go_sem,reduceIte,Ya]
     simp only[Yf]
     exact⟨by decide,rfl,rfl⟩
    ·rintro i ⟨hi,hgcd⟩
     replace hi:i<=12:=hi
     dsimp only[Hw,Hv,tgcdC,nameC,Yh,go_sem,reduceIte,Ya]
     simp only[Yd,Ya,Ye,reduceCtorEq,Yc]
     refine⟨fun hlt=>?_,fun hge=>?_⟩
     ·have hi12:i<12:=by omega
      have e:=E4 T hi12
      have el:=E5 T hi12
      simp only[YW,Xv,hwe]at e el
      rw[e]
      dsimp only[Hw,Hv,tgcdC,nameC,Yh,go_sem,reduceIte,Ya]
      simp only[Yd,Ya,Ye,reduceCtorEq,Yc]
      have hb:=hbad i hi12
      obtain⟨⟨x1,x2⟩,x3,x4⟩:=HC hb
      have hsn:(T.p i).2=((T.p i).2.toNat:Int):=by omega
      obtain⟨r1,r2⟩:=Hz (T:=T) (i:=i) fun j hj=>hbad j (by omega)
      refine⟨⟨by omega,by omega⟩,el,(T.p i).1.natAbs,(T.p i).2.toNat,⟨M1 _ (by omega),hsn,by omega,by omega⟩,?_⟩
      by_cases hg1:(T.p i).1.natAbs.gcd (T.p i).2.toNat=1
      ·rw[hg1]
       have hgcd':∀j,j<i+1->Un (T.p j)=1:=fun j hj=>by
        rcases YV j i with h1|h1
        ·exact hgcd j h1
        ·obtain rfl:j=i:=by omega
         exact hg1
       refine⟨fun hc=>absurd rfl hc,fun _=>⟨fun hle=>⟨YQ T i,(T.p i).2.toNat,⟨rfl,hsn,by omega,by omega⟩,?_,i+1,⟨by omega,hgcd'⟩,by omega,?_⟩,fun hgt=>⟨i+1,⟨by omega,hgcd'⟩,by omega,?_⟩⟩⟩
       ·have:=Nat.gcd_pos_of_pos_left (T.p i).2.toNat (by omega:0<YQ T i)
        omega
       ·have r3:=Hz (T:=T) (i:=i+1) fun j hj=>hbad j (by omega)
        have ha:YQ T (i+1)=YQ T i/YG (YQ T i) (T.p i).2.toNat*(T.p i).2.toNat:=by rw[YQ,if_pos (by omega)]
        have e1:((YQ T i:Nat):Int).tdiv ((YG (YQ T i) (T.p i).2.toNat:Nat):Int)=((YQ T i/YG (YQ T i) (T.p i).2.toNat:Nat):Int):=Wt rfl rfl
        have hd:=QP (YQ T i) (YG (YQ T i) (T.p i).2.toNat)
        have e2:IntKind.i64.wrap ((YQ T i/YG (YQ T i) (T.p i).2.toNat:Nat):Int)=((YQ T i/YG (YQ T i) (T.p i).2.toNat:Nat):Int):=by
         generalize YQ T i/YG (YQ T i) (T.p i).2.toNat=q at hd
         exact Yg _ (by omega)
        have e3:((YQ T i/YG (YQ T i) (T.p i).2.toNat:Nat):Int)*(T.p i).2=(YQ T (i+1):Nat):=by rw[ha,JV,<-hsn]
        rw[e1,e2,e3,Yg (YQ T (i+1):Int) (by omega),Yg ((i:Int)+1) (by omega)]
        simp only[Yf]
        exact⟨by decide,rfl⟩
       ·have ha:YQ T (i+1)=YQ T i:=by rw[YQ,if_neg (by omega)]
        rw[ha,Yg ((i:Int)+1) (by omega)]
        simp only[Yf]
        exact⟨by decide,rfl⟩
      ·have hl:=YaH hi12 hg1
       rw[hl,if_pos (KV (Jo rfl))]at h
       refine⟨fun hc=>YX h,fun hc=>absurd ?_ hg1⟩
       omega
     ·obtain rfl:i=12:=by omega
      rw[Ymv hgcd,if_neg (by simp)]at h
      refine⟨fun hc=>?_,fun hc=>?_⟩
      ·rw[if_pos (by omega)]at h;exact YX h
      ·rw[if_neg (by omega)]at h;exact YX h
 ·exact h.1.elim
structure Rep (L:Int) (r:Rt) (a b c:Int):Prop where
 ok:YY r=0
 ha:r.a*L=a*r.n
 hb:r.b*L=b*r.n
 hc:r.c*L=c*r.n
 hd:r.d=0
 he:r.e=0
 hf:r.f=0
def sm(x:Int):Prop:= -100000<=x/\x<=100000
theorem Lj{a b g:Nat}(hg:0<g)(ha:g∣a)(hb:g∣b):(a/g).gcd (b/g)=a.gcd b/g:=Nat.gcd_div ha hb
theorem Rn{x:Int}{g:Nat}:(x.tdiv g).natAbs=x.natAbs/g:=by
 rw[Int.natAbs_tdiv,Int.natAbs_natCast];rfl
theorem BT{x y n L:Int}(hn:1<=n)(hnL:n<=L)(h:x*L=y*n)(hy:sm y):sm x:=by
 have h2:x.natAbs*L.natAbs=y.natAbs*n.natAbs:=by rw[<-Int.natAbs_mul,h,Int.natAbs_mul]
 have h3:x.natAbs<=y.natAbs:=by
  refine Kr (c:=L.natAbs) ?_ (by omega)
  rw[h2]
  exact Yz _ (by omega)
 unfold sm at*
 omega
theorem L4{L:Int}{x:Rt}{a b c:Int}(hL:1<=L/\L<=1000)(hn:1<=x.n)(ha:x.a*L=a*x.n)(hb:x.b*L=b*x.n)(hc:x.c*L=c*x.n)
 (hd:x.d=0)(he:x.e=0)(hf:x.f=0)(sa:sm a)(sb:sm b)(sc:sm c):(Jr x).2=0/\Rep L (Jr x).1 a b c:=by
 obtain⟨g,hg⟩:∃g,g=JR x:=⟨_,rfl⟩
 have hg2:g=((x.n.toNat.gcd x.a.natAbs).gcd x.b.natAbs).gcd x.c.natAbs:=by
  rw[hg,JR,hd,he,hf];simp
 have dn:g∣x.n.toNat:=by rw[hg2];exact JM (Wv ..) (JM (Wv ..) (Wv ..))
 have da:g∣x.a.natAbs:=by rw[hg2];exact JM (Wv ..) (JM (Wv ..) (Nat.gcd_dvd_right ..))
 have db:g∣x.b.natAbs:=by rw[hg2];exact JM (Wv ..) (Nat.gcd_dvd_right ..)
 have dc:g∣x.c.natAbs:=by rw[hg2];exact Nat.gcd_dvd_right ..
 have g0:0<g:=Nat.pos_of_dvd_of_pos dn (by omega)
 have tn:x.n.tdiv g=((x.n.toNat/g:Nat):Int):=by
  rw[ZG (by omega)]
  obtain⟨m,hm⟩:∃m:Nat,x.n=m:=⟨x.n.toNat,by omega⟩
  rw[hm,Yh];rfl
 have mulg:∀{y:Int},g∣y.natAbs->y.tdiv g*g=y:=fun h=>Int.tdiv_mul_cancel (Int.dvd_natAbs.1 (Int.natCast_dvd_natCast.2 h))
 have mn:((x.n.toNat/g:Nat):Int)*g=x.n:=by
  have:=Nat.div_mul_cancel dn
  have e:((x.n.toNat/g*g:Nat):Int)=x.n:=by rw[this];omega
  rw[JV]at e
  exact e
 obtain⟨n',hn'⟩:∃n',n'=x.n.toNat/g:=⟨_,rfl⟩
 rw[<-hn']at tn mn
 have n1:1<=n':=by
  rcases KU n' with h|h
  ·rw[h]at mn;omega
  ·exact h
 have can:∀{y v:Int},g∣y.natAbs->y*L=v*x.n->y.tdiv g*L=v*n':=fun {y v} h1 h2=>by
  refine Int.eq_of_mul_eq_mul_right (a:=g) (by omega) ?_
  rw[Int.mul_right_comm,mulg h1,Int.mul_assoc,mn,h2]
 have ca:=can da ha
 have cb:=can db hb
 have cc:=can dc hc
 have hgcd:((n'.gcd (x.a.tdiv g).natAbs).gcd (x.b.tdiv g).natAbs).gcd (x.c.tdiv g).natAbs=1:=by
  rw[Rn,Rn,Rn,hn',Lj g0 dn da,Lj g0 (Nat.dvd_gcd dn da) db,Lj g0 (Nat.dvd_gcd (Nat.dvd_gcd dn da) db) dc,<-hg2]
  exact Nat.div_self g0
 have hdv:n'∣L.toNat:=by
  have key:∀{y v:Int},y*L=v*n'->n'∣y.natAbs*L.toNat:=fun {y v} h=>by
   refine⟨v.natAbs,?_⟩
   have:=congrArg Int.natAbs h
   rw[Int.natAbs_mul,Int.natAbs_mul,Int.natAbs_natCast]at this
   rw[show L.toNat=L.natAbs by omega,this,Yk]
  have h1:n'∣n'*L.toNat:=Nat.dvd_mul_right ..
  have:=Nat.dvd_gcd (Nat.dvd_gcd (Nat.dvd_gcd h1 (key ca)) (key cb)) (key cc)
  rw[Nat.gcd_mul_right,Nat.gcd_mul_right,Nat.gcd_mul_right,hgcd,Kc]at this
  exact this
 have nL:n'<=L.toNat:=Nat.le_of_dvd (by omega) hdv
 have sa':=BT (n:=n') (L:=L) (by omega) (by omega) ca sa
 have sb':=BT (n:=n') (L:=L) (by omega) (by omega) cb sb
 have sc':=BT (n:=n') (L:=L) (by omega) (by omega) cc sc
 have eD:QD x (JR x)=⟨x.a.tdiv g,x.b.tdiv g,x.c.tdiv g,0,0,0,n'⟩:=by
  rw[<-hg,QD,hd,he,hf,tn];simp
 have bad:∀{y:Int},sm y->KW y=false:=fun h=>by
  simp only[KW,JH,decide_eq_false_iff_not];unfold sm at h;omega
 have hchk:YY (QD x (JR x))=0:=by
  rw[eD,YY,if_neg (by simp only;omega),if_neg,if_neg]
  ·simp only[JR,Yh,Int.natAbs_zero,Nat.gcd_zero_right]
   rw[hgcd];decide
  ·simp only[bad sa',bad sb',bad sc']
   decide
 unfold Jr
 rw[if_pos hchk]
 refine⟨rfl,hchk,?_,?_,?_,?_,?_,?_⟩ <;> rw[eD]
 ·exact ca
 ·exact cb
 ·exact cc
theorem Rep.n_rng{L:Int}{r:Rt}{a b c:Int}(h:Rep L r a b c):1<=r.n/\r.n<=1000:=(WY h.ok).1
theorem G2{L s:Int}{x y:Rt}{a b c a' b' c':Int}(hL:1<=L/\L<=1000)(hx:Rep L x a b c)(hy:Rep L y a' b' c')(sa:sm (a+s*a'))(sb:sm (b+s*b'))(sc:sm (c+s*c')):
 (KG x y s).2=0/\Rep L (KG x y s).1 (a+s*a') (b+s*b') (c+s*c'):=by
 have nx:=hx.n_rng
 have ny:=hy.n_rng
 unfold KG
 rw[if_neg (by rw[hx.ok];decide),if_neg (by rw[hy.ok];decide)]
 have key:∀{u v p q:Int},u*L=p*x.n->v*L=q*y.n->(u*y.n+s*v*x.n)*L=(p+s*q)*(x.n*y.n):=fun {u v p q} h1 h2=>by
  have e1:(u*y.n+s*v*x.n)*L=(u*L)*y.n+s*(v*L)*x.n:=by grind
  rw[e1,h1,h2];grind
 refine L4 hL ?_ (key hx.ha hy.ha) (key hx.hb hy.hb) (key hx.hc hy.hc) ?_ ?_ ?_ sa sb sc
 ·have:=Int.mul_pos (show 0<x.n by omega) (show 0<y.n by omega)
  exact this
 ·show x.d*y.n+s*y.d*x.n=0
  rw[hx.hd,hy.hd];simp
 ·show x.e*y.n+s*y.e*x.n=0
  rw[hx.he,hy.he];simp
 ·show x.f*y.n+s*y.f*x.n=0
  rw[hx.hf,hy.hf];simp
def YT(x d:Nat):Nat:=if x/d*d<x then x/d+1 else x/d
theorem Ue(x d:Nat)(hd:0<d):x<=YT x d*d:=by
 have h:=KO x d
 have h2:=Kj x hd
 rw[Yk]at h
 unfold YT
 split
 ·rw[YN,Kc];omega
 ·omega
theorem X3{x d k:Nat}(h:x<=k*d):YT x d<=k:=by
 unfold YT
 rcases KU d with h0|h0
 ·subst h0
  simp only[Wf,Nat.div_zero]at*
  split <;> omega
 split
 ·rename_i h1
  rw[Nat.lt_iff_add_one_le]at*
  refine Nat.lt_of_mul_lt_mul_right (a:=d) ?_
  omega
 ·exact Nat.div_le_of_le_mul (by rw[Yk];exact h)
theorem Yar(x d:Nat):x/d<=YT x d:=by
 unfold YT
 split <;> omega
theorem HK{x y d:Nat}(h:x<=y):x/d<=YT y d:=Yj (Nat.div_le_div_right h) (Yar y d)
theorem Yi2{x d:Nat}(hd:0<d):YT (YT x d) 2=YT x (d*2):=by
 refine Nat.le_antisymm (X3 (X3 ?_)) (X3 ?_)
 ·have:=Ue x (d*2) (by omega)
  rw[Yx,Yk 2 d];exact this
 ·have h1:=Ue x d hd
  have h2:=Yu d (Ue (YT x d) 2 (by decide))
  rw[Yk d 2,<-Yx];omega
def gl(M:Nat)(t:Bool):Nat->Nat->Nat->Nat->Nat×Nat
 |0,_,_,S=>(S,S+1)
 |f+1,A,B,S=>
  if A*A/M<2*M then
   if YT (B*B) M<2*M then gl M t f (A*A/M) (YT (B*B) M) (2*S)
   else(S*2^(f+1),(S+1)*2^(f+1))
  else
   if(t&&decide (2*M<=YT (YT (B*B) M) 2))=true then(S*2^(f+1),(S+1)*2^(f+1))
   else gl M t f (A*A/M/2) (YT (YT (B*B) M) 2) (2*S+1)
theorem U5(M:Nat)(t:Bool):∀(f A B S:Nat),S*2^f<=(gl M t f A B S).1/\(gl M t f A B S).2<=(S+1)*2^f
 |0,A,B,S=>by simp [gl]
 |f+1,A,B,S=>by
  have e1:∀x,x*2^(f+1)=x*2*2^f:=fun x=>by rw[YF,Yx,Yk 2 (2^f)]
  have m:∀x y,x<=y->x*2^f<=y*2^f:=fun x y h=>Yu _ h
  rw[gl]
  split
  ·split
   ·obtain⟨h1,h2⟩:=U5 M t f (A*A/M) (YT (B*B) M) (2*S)
    rw[e1,e1]
    exact⟨Yj (m _ _ (by omega)) h1,Yj h2 (m _ _ (by omega))⟩
   ·exact⟨Yr _,Yr _⟩
  ·split
   ·exact⟨Yr _,Yr _⟩
   ·obtain⟨h1,h2⟩:=U5 M t f (A*A/M/2) (YT (YT (B*B) M) 2) (2*S+1)
    rw[e1,e1]
    exact⟨Yj (m _ _ (by omega)) h1,Yj h2 (m _ _ (by omega))⟩
theorem Ydl{P A N M A1:Nat}(hM:0<M)(h:P*A<=N*M)(h1:A1*M<=A*A):P*P*A1<=N*N*M:=by
 refine Kr (c:=M) ?_ hM
 have k1:P*P*(A1*M)<=P*P*(A*A):=Yz _ h1
 have k2:(P*A)*(P*A)<=(N*M)*(N*M):=YP h h
 have e1:P*P*A1*M=P*P*(A1*M):=Yx ..
 have e2:P*P*(A*A)=(P*A)*(P*A):=by simp only[Yx,Jd]
 have e3:(N*M)*(N*M)=N*N*M*M:=by simp only[Yx,Jd]
 omega
theorem Ydj{P B N M B1:Nat}(hM:0<M)(h:N*M<=P*B)(h1:B*B<=B1*M):N*N*M<=P*P*B1:=by
 refine Kr (c:=M) ?_ hM
 have k1:P*P*(B*B)<=P*P*(B1*M):=Yz _ h1
 have k2:(N*M)*(N*M)<=(P*B)*(P*B):=YP h h
 have e1:P*P*B1*M=P*P*(B1*M):=Yx ..
 have e2:P*P*(B*B)=(P*B)*(P*B):=by simp only[Yx,Jd]
 have e3:(N*M)*(N*M)=N*N*M*M:=by simp only[Yx,Jd]
 omega
theorem Gq(S:Nat):2^(2*S)=2^S*2^S:=by rw[<-Yo];congr 1;omega
theorem PA(N f:Nat):N^(2^(f+1))=(N*N)^(2^f):=by
 rw[YF,Yk (2^f) 2,Yl,Nat.pow_two]
theorem BE(M:Nat)(t:Bool)(hM:0<M):∀(f A B S N:Nat),2^S*A<=N*M->N*M<=2^S*B->M<=A->B<=2*M->2^(gl M t f A B S).1<=N^(2^f)/\N^(2^f)<=2^(gl M t f A B S).2:=by
 have stop:∀(f A B S N:Nat),2^S*A<=N*M->N*M<=2^S*B->M<=A->B<=2*M->2^S<=N/\N<=2^(S+1):=by
  intro f A B S N h1 h2 ha hb
  constructor
  ·refine Kr (c:=M) ?_ hM
   have:=Yz (2^S) ha
   omega
  ·refine Kr (c:=M) ?_ hM
   have:=Yz (2^S) hb
   rw[YF,Yx]
   omega
 have stop2:∀(f S N:Nat),2^S<=N/\N<=2^(S+1)->2^(S*2^f)<=N^(2^f)/\N^(2^f)<=2^((S+1)*2^f):=fun f S N h=>by
  rw[Yl,Yl]
  exact⟨YM h.1 _,YM h.2 _⟩
 intro f
 induction f with
 |zero=>
  intro A B S N h1 h2 ha hb
  have:=stop 0 A B S N h1 h2 ha hb
  simpa [gl]using this
 |succ f ih=>
  intro A B S N h1 h2 ha hb
  have hs:=stop2 (f+1) S N (stop f A B S N h1 h2 ha hb)
  have hA:A*A/M*M<=A*A:=XW _ _
  have hB:B*B<=YT (B*B) M*M:=Ue _ _ hM
  have k1:=Ydl hM h1 hA
  have k2:=Ydj hM h2 hB
  have hA1:M<=A*A/M:=(Wc hM).2 (YP ha ha)
  have hB1:YT (B*B) M<=4*M:=X3 (by
   have:=YP hb hb
   have e:4*M*M=2*M*(2*M):=by rw[Nat.mul_mul_mul_comm,Yx]
   omega)
  rw[gl,PA]
  rw[PA]at hs
  split
  ·split
   ·refine ih _ _ _ _ ?_ ?_ hA1 (by omega)
    ·rw[Gq];exact k1
    ·rw[Gq];exact k2
   ·exact hs
  ·rename_i hge
   split
   ·exact hs
   ·have hB2:YT (B*B) M<=YT (YT (B*B) M) 2*2:=Ue _ _ (by decide)
    have hA2:A*A/M/2*2<=A*A/M:=XW _ _
    have e3:∀x,2^(2*S+1)*x=2^S*2^S*(x*2):=fun x=>by rw[YF,Gq,Yx,Yk 2 x]
    refine ih _ _ _ _ ?_ ?_ (by omega) (X3 (by omega))
    ·rw[e3]
     exact Yj (Yz _ hA2) k1
    ·rw[e3]
     exact Yj k2 (Yz _ hB2)
theorem Ls(M E:Nat)(t:Bool)(hM:0<M)(hE:0<E)(g:Nat):∀(f A B S A' B':Nat),E*A<=A'->A'<=B'->B'<=E*B->
 (gl M t f A B S).1*2^g<=(gl (M*E) false (f+g) A' B' S).1/\(gl (M*E) false (f+g) A' B' S).2<=(gl M t f A B S).2*2^g:=by
 intro f
 induction f with
 |zero=>
  intro A B S A' B' _ _ _
  have:=U5 (M*E) false (0+g) A' B' S
  simpa [gl]using this
 |succ f ih=>
  intro A B S A' B' ha hab hb
  have stop:S*2^(f+1)*2^g<=(gl (M*E) false (f+1+g) A' B' S).1/\(gl (M*E) false (f+1+g) A' B' S).2<=(S+1)*2^(f+1)*2^g:=by
   have:=U5 (M*E) false (f+1+g) A' B' S
   rw[Yx,Yx,<-Yo]
   exact this
  have hME:0<M*E:=Y3 hM hE
  have q1:E*(A*A/M)<=A'*A'/(M*E):=by
   rw[Wc hME]
   have h1:A*A/M*M<=A*A:=XW _ _
   have h2:=Yz (E*E) h1
   have h3:=YP ha ha
   have e1:E*(A*A/M)*(M*E)=E*E*(A*A/M*M):=by simp only[Yx,Jd,Yk]
   have e2:E*A*(E*A)=E*E*(A*A):=by simp only[Yx,Jd,Yk]
   omega
  have q2:YT (B'*B') (M*E)<=E*YT (B*B) M:=X3 (by
   have h1:B*B<=YT (B*B) M*M:=Ue _ _ hM
   have h2:=Yz (E*E) h1
   have h3:=YP hb hb
   have e1:E*YT (B*B) M*(M*E)=E*E*(YT (B*B) M*M):=by simp only[Yx,Jd,Yk]
   have e2:E*B*(E*B)=E*E*(B*B):=by simp only[Yx,Jd,Yk]
   omega)
  have q3:A'*A'/(M*E)<=YT (B'*B') (M*E):=HK (YP hab hab)
  have e2M:2*(M*E)=E*(2*M):=by rw[<-Yx,Yk]
  by_cases c1:A*A/M<2*M
  ·by_cases c2:YT (B*B) M<2*M
   ·have d2:YT (B'*B') (M*E)<2*(M*E):=by
     rw[e2M]
     exact Jn q2 (Nat.mul_lt_mul_of_pos_left c2 hE)
    have d1:A'*A'/(M*E)<2*(M*E):=by omega
    rw[show f+1+g=(f+g)+1 by omega,gl,if_pos c1,if_pos c2,gl,if_pos d1,if_pos d2]
    exact ih _ _ _ _ _ q1 q3 q2
   ·rw[gl.eq_def M t (f+1)]
    simp only
    rw[if_pos c1,if_neg c2]
    exact stop
  ·have d1:¬A'*A'/(M*E)<2*(M*E):=by
    have:E*(2*M)<=E*(A*A/M):=Yz _ (by omega)
    omega
   by_cases c2:(t&&decide (2*M<=YT (YT (B*B) M) 2))=true
   ·rw[gl.eq_def M t (f+1)]
    simp only
    rw[if_neg c1,if_pos c2]
    exact stop
   ·rw[show f+1+g=(f+g)+1 by omega,gl,if_neg c1,if_neg c2,gl,if_neg d1,if_neg (by simp)]
    refine ih _ _ _ _ _ ?_ (HK q3) (X3 ?_)
    ·rw[Wc (by decide)]
     have h1:A*A/M/2*2<=A*A/M:=XW _ _
     have h2:=Yz E h1
     rw[Yx];omega
    ·have h1:YT (B*B) M<=YT (YT (B*B) M) 2*2:=Ue _ _ (by decide)
     have h2:=Yz E h1
     rw[Yx];omega
theorem ML(a:Nat):hiW (a:Int)=((a*a/18446744073709551616:Nat):Int):=by
 show(a:Int)*a/18446744073709551616=_
 rw[Int.natCast_ediv,JV];rfl
theorem LZ(a:Nat):loW (a:Int)=((a*a%18446744073709551616:Nat):Int):=by
 show(a:Int)*a%18446744073709551616=_
 rw[Int.natCast_emod,JV];rfl
theorem Re(x:Nat):Qq (x:Int)=((x/9223372036854775808:Nat):Int):=Fu (s:=63) (by decide)
theorem Rc(x:Nat):sl1 (x:Int)=((x*2%18446744073709551616:Nat):Int):=by
 show IntKind.u64.wrap ((x:Int)*2^min (Xi 1) 64)=_
 rw[show(2:Int)^min (Xi 1) 64=2 from rfl,Ce,Int.natCast_emod,JV];rfl
theorem Yjf{M x:Nat}(hM:0<M):x/(2*M)*2+x%(2*M)/M=x/M:=by
 have e1:x/(2*M)=x/M/2:=by rw[Yk,KY]
 have e2:x%(2*M)/M=x/M%2:=by
  rw[Yk,Nat.mod_mul_right_div_self]
 rw[e1,e2];omega
theorem Ybq{h b:Nat}(hb:b<2):(h*2||| b)=h*2+b:=by
 have:=Nat.two_pow_add_eq_or_of_lt (i:=1) (b:=b) (by simpa using hb) h
 rw[Wg]at this
 rw[Yk h 2,this]
theorem Is{a:Nat}(ha:a*a<18446744073709551616*9223372036854775808):Wj (hiW (a:Int)) (loW (a:Int))=((a*a/9223372036854775808:Nat):Int):=by
 show Jw .or .u64 (sl1 (hiW (a:Int))) (Qq (loW (a:Int)))=_
 rw[ML,LZ,Rc,Re]
 generalize a*a=x at*
 have h1:x/18446744073709551616<9223372036854775808:=Nat.div_lt_of_lt_mul ha
 have h2:x%18446744073709551616/9223372036854775808<2:=Nat.div_lt_of_lt_mul (Kj _ (by decide))
 have h3:=Yjf (M:=9223372036854775808) (x:=x) (by decide)
 rw[show 2*9223372036854775808=18446744073709551616 from rfl]at h3
 generalize x/18446744073709551616=h at*
 generalize x%18446744073709551616/9223372036854775808=l at*
 rw[Qg (by omega),TA (by omega) (by omega),Ybq h2,h3]
theorem TU{x d:Nat}(hd:0<d)(h:x%d=0):YT x d=x/d:=by
 unfold YT
 rw[if_neg]
 have:=KO x d
 rw[Yk]at this
 omega
theorem TV{x d:Nat}(hd:0<d)(h:x%d≠0):YT x d=x/d+1:=by
 unfold YT
 rw[if_pos]
 have:=KO x d
 rw[Yk]at this
 omega
theorem YmQ{x M:Nat}(hM:0<M):x%(2*M)*2%(2*M)=x%M*2:=by
 have e:x%(2*M)%M=x%M:=Nat.mod_mul_left_mod ..
 rw[<-e]
 generalize x%(2*M)=y at*
 rw[Yk y 2,Nat.mul_mod_mul_left,Yk]
theorem Ydd(b:Nat):(0<sl1 (loW (b:Int)))↔b*b%9223372036854775808≠0:=by
 rw[LZ,Rc]
 have h:=YmQ (x:=b*b) (M:=9223372036854775808) (by decide)
 rw[show 2*9223372036854775808=18446744073709551616 from rfl]at h
 rw[h]
 omega
theorem YdI{z:Nat}(h:z<18446744073709551616):(IntKind.u64.wrap ((z:Int)+1)=0↔z+1=18446744073709551616)/\(z+1<18446744073709551616->IntKind.u64.wrap ((z:Int)+1)=((z+1:Nat):Int)):=by
 rw[Ce]
 constructor <;> omega
theorem TM{S b:Nat}(hS:S<9223372036854775808)(hb:b<2):Jw .or .u64 (sl1 (S:Int)) ((b:Nat):Int)=((2*S+b:Nat):Int):=by
 rw[Rc,Qg (by omega),TA (by omega) (by omega),Ybq hb,Yk]
theorem AW{S f:Nat}(hf:f<=64)(h:S*2^f<18446744073709551616):shW (S:Int) f=((S*2^f:Nat):Int):=P9 hf h
theorem uS{S:Nat}(hS:S<18446744073709551615):IntKind.u64.wrap ((S:Int)+1)=((S+1:Nat):Int):=by rw[Z8 _ (by omega)];rfl
def F9(p:Nat×Nat):Int×Int:=((p.1:Int),(p.2:Int))
theorem YoB:∀(f S a b:Nat),f<=28->S<2^(34-f)->9223372036854775808<=a->a<=b->b<18446744073709551616->
 Xn f (S:Int) (a:Int) (b:Int)=F9 (gl 9223372036854775808 true f a b S):=by
 intro f
 induction f with
 |zero=>
  intro S a b _ hS _ _ _
  rw[show(2:Nat)^(34-0)=17179869184 from rfl]at hS
  rw[Xn,gl,F9,uS (by omega)]
 |succ f ih=>
  intro S a b hf hS ha hab hb
  have e34:(2:Nat)^(34-f)=2*2^(34-(f+1)):=by rw[show 34-f=34-(f+1)+1 by omega,YF,Yk]
  have hS2:S<17179869184:=Qf hS (by rw[show 17179869184=2^34 from rfl];exact Kl (by decide) (by omega))
  have stop:(shW (S:Int) (f+1),shW (IntKind.u64.wrap ((S:Int)+1)) (f+1))=F9 (S*2^(f+1),(S+1)*2^(f+1)):=by
   have hp:(2:Nat)^(34-(f+1))*2^(f+1)=17179869184:=by rw[<-Yo,show 34-(f+1)+(f+1)=34 by omega]
   have h1:S*2^(f+1)<=2^(34-(f+1))*2^(f+1):=Yu _ (JN hS)
   have h2:(S+1)*2^(f+1)<=2^(34-(f+1))*2^(f+1):=Yu _ hS
   rw[uS (by omega),AW (by omega) (by omega),AW (by omega) (by omega)];rfl
  have haa:9223372036854775808*9223372036854775808<=a*a:=YP ha ha
  have hbb:b*b<18446744073709551616*18446744073709551616:=Nat.mul_lt_mul_of_lt_of_le hb (JN hb) (by decide)
  have hab2:a*a<=b*b:=YP hab hab
  have kA:Qq (hiW (a:Int))=((a*a/170141183460469231731687303715884105728:Nat):Int):=by rw[ML,Re,KY]
  have kB:Qq (hiW (b:Int))=((b*b/170141183460469231731687303715884105728:Nat):Int):=by rw[ML,Re,KY]
  have hS0:=TM (S:=S) (b:=0) (by omega) (by decide)
  have hS1:=TM (S:=S) (b:=1) (by omega) (by decide)
  have eb:IntKind.u64.wrap (Wj (hiW (b:Int)) (loW (b:Int))+1)=IntKind.u64.wrap (Wj (hiW (b:Int)) (loW (b:Int))+1):=rfl
  rw[Xn,gl,kA,kB]
  by_cases c1:a*a<170141183460469231731687303715884105728
  ·have z1:a*a/170141183460469231731687303715884105728=0:=Qu c1
   have c1':a*a/9223372036854775808<2*9223372036854775808:=Nat.div_lt_of_lt_mul c1
   have la:9223372036854775808<=a*a/9223372036854775808:=(Wc (by decide)).2 haa
   rw[if_pos c1',z1,if_pos (by rfl),Is c1,hS0]
   by_cases c2:b*b<170141183460469231731687303715884105728
   ·have z2:b*b/170141183460469231731687303715884105728=0:=Qu c2
    have c2':b*b/9223372036854775808<18446744073709551616:=Nat.div_lt_of_lt_mul c2
    have hq:a*a/9223372036854775808<=b*b/9223372036854775808:=Nat.div_le_div_right hab2
    rw[z2,Is c2]
    obtain⟨u1,u2⟩:=YdI c2'
    by_cases c3:b*b%9223372036854775808≠0
    ·rw[if_pos ((Ydd b).2 c3),TV (by decide) c3]
     by_cases c4:b*b/9223372036854775808+1=18446744073709551616
     ·rw[if_pos (by rw[decide_eq_true (u1.2 c4)];simp),if_neg (by omega)]
      exact stop
     ·rw[if_neg (by rw[decide_eq_false (fun h=>c4 (u1.1 h))];simp),if_pos (by omega),u2 (by omega)]
      exact ih _ _ _ (by omega) (by omega) la (by omega) (by omega)
    ·rw[if_neg (fun h=>c3 ((Ydd b).1 h)),TU (by decide) (by omega)]
     rw[if_neg (by rw[decide_eq_false (show¬((b*b/9223372036854775808:Nat):Int)=0 by omega)];simp),if_pos (by omega)]
     exact ih _ _ _ (by omega) (by omega) la (by omega) (by omega)
   ·have hz2:1<=b*b/170141183460469231731687303715884105728:=(Wc (by decide)).2 (by omega)
    have hc:¬YT (b*b) 9223372036854775808<2*9223372036854775808:=by
     have h1:=Yar (b*b) 9223372036854775808
     have h2:2*9223372036854775808<=b*b/9223372036854775808:=(Wc (by decide)).2 (by omega)
     omega
    have hk:(!decide (((0:Nat):Int)=((b*b/170141183460469231731687303715884105728:Nat):Int)))=true:=by
     rw[decide_eq_false (by omega)];rfl
    rw[if_neg hc,hk]
    simp only[Bool.true_or,if_true,ite_self]
    exact stop
  ·have e1:a*a/170141183460469231731687303715884105728=1:=by
    have h1:1<=a*a/170141183460469231731687303715884105728:=(Wc (by decide)).2 (by omega)
    have h2:a*a/170141183460469231731687303715884105728<2:=Nat.div_lt_of_lt_mul (by omega)
    omega
   have e2:b*b/170141183460469231731687303715884105728=1:=by
    have h1:1<=b*b/170141183460469231731687303715884105728:=(Wc (by decide)).2 (by omega)
    have h2:b*b/170141183460469231731687303715884105728<2:=Nat.div_lt_of_lt_mul (by omega)
    omega
   have c1':¬a*a/9223372036854775808<2*9223372036854775808:=by
    have h2:2*9223372036854775808<=a*a/9223372036854775808:=(Wc (by decide)).2 (by omega)
    omega
   have ea:a*a/9223372036854775808/2=a*a/18446744073709551616:=by rw[KY]
   have hal:9223372036854775808<=a*a/18446744073709551616:=(Wc (by decide)).2 (by omega)
   have hbl:9223372036854775808<=b*b/18446744073709551616:=(Wc (by decide)).2 (by omega)
   have hq:a*a/18446744073709551616<=b*b/18446744073709551616:=Nat.div_le_div_right hab2
   have hbu:b*b/18446744073709551616<18446744073709551616:=Nat.div_lt_of_lt_mul hbb
   rw[if_neg c1',e1,e2,if_neg (by decide),hS1,ea,Yi2 (by decide),show 9223372036854775808*2=18446744073709551616 from rfl,ML,ML,LZ]
   obtain⟨u1,u2⟩:=YdI hbu
   by_cases c3:b*b%18446744073709551616≠0
   ·rw[if_pos (by omega),TV (by decide) c3]
    by_cases c4:b*b/18446744073709551616+1=18446744073709551616
    ·rw[if_pos (by rw[decide_eq_true (u1.2 c4)];simp),if_pos (by rw[decide_eq_true (show 18446744073709551616<=b*b/18446744073709551616+1 by omega)];rfl)]
     exact stop
    ·rw[if_neg (by rw[decide_eq_false (fun h=>c4 (u1.1 h))];simp),if_neg (by rw[decide_eq_false (show¬18446744073709551616<=b*b/18446744073709551616+1 by omega)];simp),u2 (by omega)]
     exact ih _ _ _ (by omega) (by omega) hal (by omega) (by omega)
   ·rw[if_neg (by omega),TU (by decide) (by omega)]
    rw[if_neg (by rw[decide_eq_false (show¬((b*b/18446744073709551616:Nat):Int)=0 by omega)];simp),if_neg (by rw[decide_eq_false (show¬18446744073709551616<=b*b/18446744073709551616 by omega)];simp)]
    exact ih _ _ _ (by omega) (by omega) hal (by omega) (by omega)
def lgK(n:Nat):Nat:=Yw n-1
theorem BZ{n:Nat}(h:1<=n):2^lgK n<=n/\n<2^(lgK n+1):=by
 have h0:Yw n≠0:=fun e=>by have:=bitsN_eq0.1 e;omega
 unfold lgK
 constructor
 ·refine ZK fun hh=>?_
  have:=bitsN_le.2 hh
  omega
 ·rw[show Yw n-1+1=Yw n by omega];exact US n
theorem WE{n m:Nat}(hm:0<m)(h:n<2^m):lgK n<m:=by
 have:=bitsN_le.2 h
 unfold lgK;omega
theorem O3{n:Nat}(h1:1<=n)(h2:n<4611686018427387904):JZ (n:Int)=true->n=2^lgK n:=by
 intro h
 unfold JZ at h
 have h:=of_decide_eq_true h
 have e:IntKind.i64.wrap ((n:Int)-1)=((n-1:Nat):Int):=by rw[Yg _ (by omega)];omega
 rw[e]at h
 have h3:IntKind.i64.wrap ((BitVec.ofInt 64 (n:Int)&&&BitVec.ofInt 64 ((n-1:Nat):Int)).toNat:Int)=0:=h
 rw[BitVec.toNat_and,H7 (by omega),H7 (by omega)]at h3
 have hle:n&&&(n-1)<=n:=Nat.and_le_left
 rw[Yg _ (by omega)]at h3
 have h4:n&&&(n-1)=0:=by omega
 obtain⟨b1,b2⟩:=BZ h1
 refine Nat.le_antisymm (ZK fun hh=>?_) b1
 have t1:n.testBit (lgK n)=true:=by
  rw[Nat.testBit_eq_decide_div_mod_eq]
  have:n/2^lgK n=1:=by
   have g1:1<=n/2^lgK n:=(Wc (YD (by decide))).2 (by omega)
   have g2:n/2^lgK n<2:=Nat.div_lt_of_lt_mul (by rw[<-YF];exact b2)
   omega
  rw[this];rfl
 have t2:(n-1).testBit (lgK n)=true:=by
  rw[Nat.testBit_eq_decide_div_mod_eq]
  have:(n-1)/2^lgK n=1:=by
   have g1:1<=(n-1)/2^lgK n:=(Wc (YD (by decide))).2 (by omega)
   have g2:(n-1)/2^lgK n<2:=Nat.div_lt_of_lt_mul (by rw[<-YF];omega)
   omega
  rw[this];rfl
 have t3:(n&&&(n-1)).testBit (lgK n)=true:=by rw[Nat.testBit_and,t1,t2];rfl
 rw[h4,Nat.zero_testBit]at t3
 cases t3
def qN(n:Nat):Nat×Nat:=if JZ (n:Int)=true then(lgK n*2^28,lgK n*2^28)else gl 9223372036854775808 true 28 (n*2^(63-lgK n)) (n*2^(63-lgK n)) (lgK n)
def lN(n p:Nat):Nat×Nat:=if JZ (n:Int)=true then(lgK n*2^p,lgK n*2^p)else gl (2^(2*p+64)) false p (n*2^(2*p+64-lgK n)) (n*2^(2*p+64-lgK n)) (lgK n)
theorem Gg{n D:Nat}(h1:1<=n)(hD:lgK n<=D):2^D<=n*2^(D-lgK n)/\n*2^(D-lgK n)<2*2^D/\2^lgK n*(n*2^(D-lgK n))=n*2^D:=by
 obtain⟨b1,b2⟩:=BZ h1
 have e:2^D=2^lgK n*2^(D-lgK n):=by rw[<-Yo];congr 1;omega
 refine⟨?_,?_,?_⟩
 ·rw[e];exact Yu _ b1
 ·rw[e,<-Yx,<-Nat.pow_succ']
  exact ZL b2 (YD (by decide))
 ·rw[e,Jd]
theorem Yoz{n:Nat}(h1:1<=n)(h2:n<4611686018427387904):XA (n:Int)=F9 (qN n):=by
 have hk:lgK n<62:=WE (by decide) h2
 unfold XA qN
 rw[Yh]
 by_cases c:JZ (n:Int)=true
 ·rw[if_pos c,if_pos c]
  have e:shW ((Yw n-1:Nat):Int) 28=((lgK n*2^28:Nat):Int):=AW (by decide) (by show lgK n*268435456<_;omega)
  have e:IntKind.u64.wrap (((Yw n-1:Nat):Int)*2^min (Xi 28) 64)=((lgK n*2^28:Nat):Int):=e
  rw[e];rfl
 ·rw[if_neg c,if_neg c]
  obtain⟨m1,m2,m3⟩:=Gg (D:=63) h1 (by omega)
  have e:shW (n:Int) (63-(Yw n-1))=((n*2^(63-lgK n):Nat):Int):=AW (by omega) (Qf m2 (by decide))
  rw[e]
  exact YoB 28 (lgK n) _ _ (by decide) (by rw[show(2:Nat)^(34-28)=64 from rfl];omega) m1 (Yr _) m2
theorem Yl6{e k:Nat}(h:e<=32*k):2^e<=4294967296^k:=by
 rw[Wr]
 exact Kl (by decide) h
theorem YiZ{x e k:Nat}(h:x<2^e)(he:e<=32*k):nl x<=k:=nl_le.2 (Qf h (Yl6 he))
theorem GU{x e:Nat}(h:x<2^e)(he:e<=32*512):Jx x=x:=by
 unfold Jx
 rw[if_pos]
 exact YiZ (k:=512) h he
theorem Yc1(a d:Nat)(hd:0<d):shF a (-(d:Int))=a/2^d:=by
 unfold shF
 rw[if_pos (by omega),show(- -(d:Int)).toNat=d by omega]
theorem Yc2(a d:Nat):shF a (d:Int)=a*2^d:=by
 unfold shF
 rw[if_neg (by omega),Yh]
theorem H1{a d e:Nat}(h:a*2^d<2^e)(he:e<=32*512):Kd a (d:Int) false=a*2^d:=by
 unfold Kd
 rw[Bool.false_and,if_neg (by decide),Yc2,GU h he]
theorem YaN{a d e:Nat}(hd:0<d)(h:a<2^e)(he:e<=32*512):Kd a (-(d:Int)) false=a/2^d:=by
 unfold Kd
 rw[Bool.false_and,if_neg (by decide),Yc1 _ _ hd,GU (Jn (QP _ _) h) he]
theorem YaM{a d e:Nat}(hd:0<d)(h:a<2^e)(he:e+1<=32*512):Kd a (-(d:Int)) true=YT a (2^d):=by
 have h1:a/2^d<2^e:=Jn (QP _ _) h
 have h2:a/2^d*2^d<2^e:=Jn (XW _ _) h
 unfold Kd YT
 rw[Bool.true_and,Yc1 _ _ hd,GU h1 (by omega),JW,Yc2,GU h2 (by omega)]
 by_cases c:a/2^d*2^d<a
 ·rw[if_pos (decide_eq_true c),if_pos c]
  exact GU (e:=e+1) (by rw[YF];omega) he
 ·rw[if_neg (by rw[decide_eq_false c];decide),if_neg c]
theorem GN{a b e:Nat}(h:a+b<2^e)(he:e<=32*512):Xj a b=a+b:=GU h he
theorem H4{a b e:Nat}(h:a*b<2^e)(he:e<=32*512):QZ a b=a*b:=GU h he
theorem Ymt{D:Nat}(hD0:64<=D)(hD:D<=4200):∀(f a b S q:Nat),a<=b->b<=2*2^D->S<2^(q-f)->f<=q->q<=4200->
 QY (2*2^D) (D:Int) f a b S=gl (2^D) false f a b S:=by
 intro f
 induction f with
 |zero=>
  intro a b S q _ _ hS _ hq
  rw[QY,gl,GN (e:=q+1) (by
   have:=Nat.one_le_two_pow (n:=q)
   rw[YF];rw[Nat.sub_zero]at hS;omega) (by omega)]
 |succ f ih=>
  intro a b S q hab hb hS hfq hq
  have hbb:b*b<=2^(2*D+2):=by
   have:=YP hb hb
   rw[show 2*D+2=D+1+(D+1)by omega,Yo,YF,Yk (2^D)]
   exact this
  have haa:a*a<=b*b:=YP hab hab
  have l1:∀x,x<=2^(2*D+2)->x<2^(2*D+3):=fun x hx=>by
   have:(2:Nat)^(2*D+3)=2*2^(2*D+2):=by rw[Nat.pow_succ',]
   have:=Nat.one_le_two_pow (n:=2*D+2)
   omega
  have ea:QZ a a=a*a:=H4 (l1 _ (by omega)) (by omega)
  have eb:QZ b b=b*b:=H4 (l1 _ (by omega)) (by omega)
  have fa:Kd (a*a) (-(D:Int)) false=a*a/2^D:=YaN (by omega) (l1 _ (by omega)) (by omega)
  have fb:Kd (b*b) (-(D:Int)) true=YT (b*b) (2^D):=YaM (by omega) (l1 _ (by omega)) (by omega)
  have hA:a*a/2^D<=YT (b*b) (2^D):=HK haa
  have hB:YT (b*b) (2^D)<=4*2^D:=X3 (by
   rw[show 2*D+2=2+D+D by omega,Yo,Yo]at hbb
   exact hbb)
  have hB2:YT (b*b) (2^D)<2^(D+3):=by
   have:(2:Nat)^(D+3)=8*2^D:=by rw[Yo,Yk]
   have:=Nat.one_le_two_pow (n:=D)
   omega
  have hq2:q-f=q-(f+1)+1:=by omega
  have hS2:2*S+1<2^(q-f):=by rw[hq2,YF];omega
  have hqq:(2:Nat)^(q-f)<=2^q:=Kl (by decide) (by omega)
  have es1:Kd S 1 false=2*S:=by
   have:=H1 (a:=S) (d:=1) (e:=q) (by rw[Wg];omega) (by omega)
   rw[Wg,Yk]at this
   exact this
  have es2:∀b,b<=1->Xj (2*S) b=2*S+b:=fun b hb=>GN (e:=q) (by omega) (by omega)
  have hSf:(S+1)*2^(f+1)<=2^q:=by
   have:(2:Nat)^q=2^(q-(f+1))*2^(f+1):=by rw[<-Yo];congr 1;omega
   rw[this]
   exact Yu _ hS
  have hSf0:S*2^(f+1)<=(S+1)*2^(f+1):=Yu _ (by omega)
  have lq:∀x,x<=2^q->x<2^(q+1):=fun x hx=>by
   have:=Nat.one_le_two_pow (n:=q)
   rw[YF];omega
  have st1:Kd S ((f+1:Nat):Int) false=S*2^(f+1):=H1 (lq _ (by omega)) (by omega)
  have st2:Kd (Xj S 1) ((f+1:Nat):Int) false=(S+1)*2^(f+1):=by
   rw[GN (e:=q+1) (lq _ (by
    have:(2:Nat)^(q-(f+1))<=2^q:=Kl (by decide) (by omega)
    omega)) (by omega)]
   exact H1 (lq _ (by omega)) (by omega)
  rw[QY,gl,ea,eb,fa,fb,es1,st1,st2]
  by_cases c1:a*a/2^D<2*2^D
  ·rw[if_pos c1,if_pos c1]
   by_cases c2:YT (b*b) (2^D)<2*2^D
   ·rw[if_pos c2,if_pos c2,es2 0 (by omega),Kw]
    exact ih _ _ _ q hA (by omega) (by omega) (by omega) hq
   ·rw[if_neg c2,if_neg c2]
  ·have g1:Kd (a*a/2^D) (-1) false=a*a/2^D/2:=by
    have:=YaN (a:=a*a/2^D) (d:=1) (by decide) (Jn hA hB2) (by omega)
    rw[Wg]at this
    exact this
   have g2:Kd (YT (b*b) (2^D)) (-1) true=YT (YT (b*b) (2^D)) 2:=by
    have:=YaM (a:=YT (b*b) (2^D)) (d:=1) (by decide) hB2 (by omega)
    rw[Wg]at this
    exact this
   rw[if_neg c1,if_neg c1,Bool.false_and,if_neg (by decide),g1,g2,es2 1 (by omega)]
   exact ih _ _ _ q (HK hA) (X3 (by omega)) (by omega) (by omega) hq
theorem Ymr{n p:Nat}(h1:1<=n)(h2:n<4611686018427387904)(hp:p<=2048):JL (n:Int) p=lN n p:=by
 have hk:lgK n<62:=WE (by decide) h2
 have hk2:lgK n<2^6:=by rw[show(2:Nat)^6=64 from rfl];omega
 unfold JL lN
 rw[Yh]
 by_cases c:JZ (n:Int)=true
 ·rw[if_pos c,if_pos c]
  have e:Kd (lgK n) (p:Int) false=lgK n*2^p:=H1 (e:=6+p) (by rw[Yo];exact ZL hk2 (YD (by decide))) (by omega)
  show(Kd (lgK n) (p:Int) false,Kd (lgK n) (p:Int) false)=_
  rw[e]
 ·rw[if_neg c,if_neg c]
  obtain⟨D,hD⟩:∃D,D=2*p+64:=⟨_,rfl⟩
  rw[<-hD]
  obtain⟨m1,m2,m3⟩:=Gg (D:=D) h1 (by omega)
  have hD1:2*2^D<2^(D+2):=by
   have:(2:Nat)^(D+2)=4*2^D:=by rw[Yo,Yk]
   have:=Nat.one_le_two_pow (n:=D)
   omega
  have ea:Kd n ((D:Int)-((Yw n-1:Nat):Int)) false=n*2^(D-lgK n):=by
   rw[show((D:Int)-((Yw n-1:Nat):Int))=((D-lgK n:Nat):Int)by unfold lgK at hk⊢;omega]
   exact H1 (e:=D+2) (by omega) (by omega)
  have e2:Kd 2 (D:Int) false=2*2^D:=H1 (e:=D+2) hD1 (by omega)
  show QY (Kd 2 (D:Int) false) (D:Int) p (Kd n ((D:Int)-((Yw n-1:Nat):Int)) false) (Kd n ((D:Int)-((Yw n-1:Nat):Int)) false) (lgK n)=_
  rw[ea,e2]
  exact Ymt (by omega) (by omega) p _ _ _ (p+6) (Yr _) (JN m2) (by rw[show p+6-p=6 by omega];exact hk2) (by omega) (by omega)
theorem YbD{n:Nat}(h1:1<=n)(h2:n<4611686018427387904)(c:JZ (n:Int)=true)(p:Nat):2^(lgK n*2^p)<=n^(2^p)/\n^(2^p)<=2^(lgK n*2^p):=by
 have e0:=O3 h1 h2 c
 have e:n^(2^p)=2^(lgK n*2^p):=by
  rw[Yl,<-e0]
 rw[e];exact⟨Yr _,Yr _⟩
theorem Yb5{n:Nat}(h1:1<=n)(h2:n<4611686018427387904):2^(qN n).1<=n^(2^28)/\n^(2^28)<=2^(qN n).2:=by
 unfold qN
 by_cases c:JZ (n:Int)=true
 ·rw[if_pos c]
  exact YbD h1 h2 c 28
 ·rw[if_neg c]
  have hk:lgK n<62:=WE (by decide) h2
  obtain⟨m1,m2,m3⟩:=Gg (D:=63) h1 (by omega)
  exact BE _ true (by decide) 28 _ _ _ n (YB m3) (YB m3.symm) m1 (JN m2)
theorem MS{n p:Nat}(h1:1<=n)(h2:n<4611686018427387904):2^(lN n p).1<=n^(2^p)/\n^(2^p)<=2^(lN n p).2:=by
 unfold lN
 by_cases c:JZ (n:Int)=true
 ·rw[if_pos c]
  exact YbD h1 h2 c p
 ·rw[if_neg c]
  have hk:lgK n<62:=WE (by decide) h2
  obtain⟨m1,m2,m3⟩:=Gg (D:=2*p+64) h1 (by omega)
  exact BE _ false (YD (by decide)) p _ _ _ n (YB m3) (YB m3.symm) m1 (JN m2)
theorem Yal{n p:Nat}(h1:1<=n)(h2:n<4611686018427387904)(hp:28<=p):(qN n).1*2^(p-28)<=(lN n p).1/\(lN n p).2<=(qN n).2*2^(p-28):=by
 unfold lN qN
 by_cases c:JZ (n:Int)=true
 ·rw[if_pos c,if_pos c]
  have e:lgK n*2^28*2^(p-28)=lgK n*2^p:=by
   rw[Yx,<-Yo];congr 2;omega
  simp only
  rw[e];exact⟨Yr _,Yr _⟩
 ·rw[if_neg c,if_neg c]
  have hk:lgK n<62:=WE (by decide) h2
  have eM:(2:Nat)^(2*p+64)=9223372036854775808*2^(2*p+1):=by
   rw[show(9223372036854775808:Nat)=2^63 from rfl,<-Yo];congr 1;omega
  have eA:n*2^(2*p+64-lgK n)=2^(2*p+1)*(n*2^(63-lgK n)):=by
   rw[show 2*p+64-lgK n=2*p+1+(63-lgK n)by omega,Yo,Jd]
  have:=Ls 9223372036854775808 (2^(2*p+1)) true (by decide) (YD (by decide)) (p-28) 28 (n*2^(63-lgK n)) (n*2^(63-lgK n)) (lgK n) _ _ (YB eA.symm) (Yr _) (YB eA)
  rw[<-eM,show 28+(p-28)=p by omega]at this
  exact this
def upS(g:Nat->Nat):List (Int×Int)->Nat
 | []=>0
 |x::l=>(if x.2<0 then 0 else g x.1.toNat*x.2.toNat)+upS g l
def dnS(g:Nat->Nat):List (Int×Int)->Nat
 | []=>0
 |x::l=>(if x.2<0 then g x.1.toNat*(-x.2).toNat else 0)+dnS g l
def upP:List (Int×Int)->Nat
 | []=>1
 |x::l=>(if x.2<0 then 1 else x.1.toNat^x.2.toNat)*upP l
def dnP:List (Int×Int)->Nat
 | []=>1
 |x::l=>(if x.2<0 then x.1.toNat^(-x.2).toNat else 1)*dnP l
def okU(x:Int×Int):Prop:=1<=x.1/\x.1<=1000000000001/\ -3000000000000000<=x.2/\x.2<=3000000000000000
theorem Ybj{x:Int×Int}(h:okU x):okT x:=⟨h.1,h.2.1,by have:=h.2.2.1;omega,by have:=h.2.2.2;omega⟩
theorem WL{x:Int×Int}(h:okU x):1<=x.1.toNat/\x.1.toNat<4611686018427387904/\x.1=(x.1.toNat:Int):=by
 obtain⟨h1,h2,h3,h4⟩:=h
 omega
theorem YbE{K g h n e:Nat}(H:2^g<=n^K/\n^K<=2^h):2^(g*e)<=(n^e)^K/\(n^e)^K<=2^(h*e):=by
 rw[Yl,Yl,<-Yl n,Yk e K,Yl]
 exact⟨YM H.1 _,YM H.2 _⟩
theorem Vj{K:Nat}{g h:Nat->Nat}(H:∀n,1<=n->n<4611686018427387904->2^g n<=n^K/\n^K<=2^h n):∀(l:List (Int×Int)),(∀x,x∈l->okU x)->
 (2^upS g l<=upP l^K/\upP l^K<=2^upS h l)/\2^dnS g l<=dnP l^K/\dnP l^K<=2^dnS h l
 | [],_=>by simp [upS,upP,dnS,dnP]
 |x::l,hl=>by
  obtain⟨⟨a1,a2⟩,b1,b2⟩:=Vj H l fun y hy=>hl y (KH _ hy)
  obtain⟨n1,n2,_⟩:=WL (hl x (KF ..))
  have hx:=H _ n1 n2
  rw[upS,upS,upP,dnS,dnS,dnP,Yt,Yt,Yo,Yo,Yo,Yo]
  by_cases c:x.2<0
  ·simp only[if_pos c,JO,Nat.one_pow,Kc]
   obtain⟨p1,p2⟩:=YbE (e:=(-x.2).toNat) hx
   exact⟨⟨a1,a2⟩,YP p1 b1,YP p2 b2⟩
  ·simp only[if_neg c,JO,Nat.one_pow,Kc]
   obtain⟨p1,p2⟩:=YbE (e:=x.2.toNat) hx
   exact⟨⟨YP p1 a1,YP p2 a2⟩,b1,b2⟩
theorem N2{g:Nat->Nat}{B:Nat}(H:∀n,1<=n->n<4611686018427387904->g n<=B):∀(l:List (Int×Int)),(∀x,x∈l->okU x)->upS g l<=l.length*(B*3000000000000000)/\dnS g l<=l.length*(B*3000000000000000)
 | [],_=>by simp [upS,dnS]
 |x::l,hl=>by
  obtain⟨a1,a2⟩:=N2 H l fun y hy=>hl y (KH _ hy)
  have hx:=hl x (KF ..)
  obtain⟨n1,n2,_⟩:=WL hx
  obtain⟨_,_,x3,x4⟩:=hx
  have h1:=YP (H _ n1 n2) (show x.2.toNat<=3000000000000000 by omega)
  have h2:=YP (H _ n1 n2) (show(-x.2).toNat<=3000000000000000 by omega)
  rw[upS,dnS,Xr,YN,Kc]
  constructor
  ·split <;> omega
  ·split <;> omega
theorem Yb4{n:Nat}(h1:1<=n)(h2:n<4611686018427387904):(qN n).1<=(qN n).2/\(qN n).2<=17179869184:=by
 have hs:=Yb5 h1 h2
 have hk:lgK n<62:=WE (by decide) h2
 refine⟨(Nat.pow_le_pow_iff_right (by decide)).1 (Yj hs.1 hs.2),?_⟩
 unfold qN
 split
 ·show lgK n*268435456<=_;omega
 ·have:=(U5 9223372036854775808 true 28 (n*2^(63-lgK n)) (n*2^(63-lgK n)) (lgK n)).2
  rw[show(2:Nat)^28=268435456 from rfl]at this
  omega
theorem Yaj{n p:Nat}(h1:1<=n)(h2:n<4611686018427387904):(lN n p).1<=(lN n p).2/\(lN n p).2<=64*2^p:=by
 have hs:=MS (p:=p) h1 h2
 have hk:lgK n<62:=WE (by decide) h2
 refine⟨(Nat.pow_le_pow_iff_right (by decide)).1 (Yj hs.1 hs.2),?_⟩
 unfold lN
 split
 ·exact Yu _ (by omega)
 ·exact Yj (U5 _ false p _ _ (lgK n)).2 (Yu _ (by omega))
theorem GF{g h:Nat->Nat}(H:∀n,1<=n->n<4611686018427387904->g n<=h n):∀(l:List (Int×Int)),(∀x,x∈l->okU x)->upS g l<=upS h l/\dnS g l<=dnS h l
 | [],_=>by simp [upS,dnS]
 |x::l,hl=>by
  obtain⟨a1,a2⟩:=GF H l fun y hy=>hl y (KH _ hy)
  obtain⟨n1,n2,_⟩:=WL (hl x (KF ..))
  have h1:=Yu x.2.toNat (H _ n1 n2)
  have h2:=Yu (-x.2).toNat (H _ n1 n2)
  rw[upS,dnS,upS,dnS]
  constructor
  ·split <;> omega
  ·split <;> omega
def Jc(a:Int×Int):Int:=a.1*18446744073709551616+a.2
theorem Ydh{M t:Int}(hM:0<M):t/M*M+t%M=t:=Int.ediv_mul_add_emod ..
theorem Ah{a:Int×Int}{x y:Int}(ha:okL a)(h0:0<=x*y)(h:Jc a+x*y<340282366920938463463374607431768211456):Jc (XN a x y)=Jc a+x*y:=by
 obtain⟨⟨a0,a1⟩,b0,b1⟩:=ha
 unfold Jc at h⊢
 unfold XN
 generalize x*y=t at*
 have e1:=Ydh (M:=18446744073709551616) (t:=t) (by decide)
 have e2:=Ydh (M:=18446744073709551616) (t:=a.2+t%18446744073709551616) (by decide)
 have r1:=Int.emod_nonneg t (show(18446744073709551616:Int)≠0 by decide)
 have r2:=Int.emod_lt_of_pos t (show(0:Int)<18446744073709551616 by decide)
 have r3:=Int.emod_nonneg (a.2+t%18446744073709551616) (show(18446744073709551616:Int)≠0 by decide)
 have r4:=Int.emod_lt_of_pos (a.2+t%18446744073709551616) (show(0:Int)<18446744073709551616 by decide)
 have q1:0<=t/18446744073709551616:=Int.ediv_nonneg h0 (by decide)
 have q2:0<=(a.2+t%18446744073709551616)/18446744073709551616:=Int.ediv_nonneg (by omega) (by decide)
 generalize t%18446744073709551616=lo at*
 generalize t/18446744073709551616=hi at*
 generalize(a.2+lo)%18446744073709551616=r at*
 generalize(a.2+lo)/18446744073709551616=c at*
 rw[Z8 (a.1+hi) (by omega),Z8 (a.1+hi+c) (by omega)]
 omega
theorem Ybt{a b:Int×Int}(ha:okL a)(hb:okL b):VQ a b=decide (Jc b<Jc a):=by
 obtain⟨⟨a0,a1⟩,a2,a3⟩:=ha
 obtain⟨⟨b0,b1⟩,b2,b3⟩:=hb
 unfold VQ Jc
 by_cases c:b.1<a.1
 ·rw[decide_eq_true c,Bool.true_or,decide_eq_true (by omega)]
 ·rw[decide_eq_false c,Bool.false_or]
  by_cases d:a.1=b.1
  ·rw[decide_eq_true d,Bool.true_and,d]
   by_cases e:b.2<a.2
   ·rw[decide_eq_true e,decide_eq_true (by omega)]
   ·rw[decide_eq_false e,decide_eq_false (by omega)]
  ·rw[decide_eq_false d,Bool.false_and,decide_eq_false (by omega)]
theorem OM:∀(l:List (Int×Int))(s:Gss),s.ok->(∀x,x∈l->okU x)->
 Jc s.u0+(upS (fun n=>(qN n).1) l:Nat)<340282366920938463463374607431768211456->Jc s.u1+(upS (fun n=>(qN n).2) l:Nat)<340282366920938463463374607431768211456->
 Jc s.d0+(dnS (fun n=>(qN n).1) l:Nat)<340282366920938463463374607431768211456->Jc s.d1+(dnS (fun n=>(qN n).2) l:Nat)<340282366920938463463374607431768211456->
 (l.foldl JY s).ok/\Jc (l.foldl JY s).u0=Jc s.u0+(upS (fun n=>(qN n).1) l:Nat)/\Jc (l.foldl JY s).u1=Jc s.u1+(upS (fun n=>(qN n).2) l:Nat)/\
   Jc (l.foldl JY s).d0=Jc s.d0+(dnS (fun n=>(qN n).1) l:Nat)/\Jc (l.foldl JY s).d1=Jc s.d1+(dnS (fun n=>(qN n).2) l:Nat)
 | [],s,hs,_,_,_,_,_=>by simpa [upS,dnS]using hs
 |x::l,s,hs,hl,h1,h2,h3,h4=>by
  have hx:=hl x (KF ..)
  obtain⟨n1,n2,n3⟩:=WL hx
  have hq:XA x.1=F9 (qN x.1.toNat):=by
   conv=>lhs;rw[n3]
   exact Yoz n1 n2
  obtain⟨k1,k2,k3,k4⟩:=hs
  have ih:=OM l (JY s x) (OL s x ⟨k1,k2,k3,k4⟩) fun y hy=>hl y (KH _ hy)
  rw[upS,WT]at h1 h2
  rw[dnS,WT]at h3 h4
  rw[List.foldl_cons,upS,upS,dnS,dnS,WT,WT,WT,WT]
  by_cases c:x.2<0
  ·rw[if_pos c]at h1 h2 h3 h4
   simp only[if_pos c]
   have c0:¬0<=x.2:=by omega
   have hm:∀z:Nat,(z:Int)*(-x.2)=((z*(-x.2).toNat:Nat):Int):=fun z=>by rw[JV];congr 1;omega
   have hz:∀z:Nat,0<=(z:Int)*(-x.2):=fun z=>ZF (by omega) (by omega)
   have e:JY s x= { s with d0:=XN s.d0 ((qN x.1.toNat).1:Nat) (-x.2),d1:=XN s.d1 ((qN x.1.toNat).2:Nat) (-x.2)}:=by rw[JY,if_neg c0,hq];rfl
   have p0:=Ah (x:=((qN x.1.toNat).1:Nat)) (y:= -x.2) k3 (hz _) (by rw[hm];omega)
   have p1:=Ah (x:=((qN x.1.toNat).2:Nat)) (y:= -x.2) k4 (hz _) (by rw[hm];omega)
   rw[hm]at p0 p1
   rw[e]at ih⊢
   simp only at ih h1 h2 h3 h4
   rw[p0,p1]at ih
   obtain⟨i0,i1,i2,i3,i4⟩:=ih (by omega) (by omega) (by omega) (by omega)
   exact⟨i0,by omega,by omega,by omega,by omega⟩
  ·rw[if_neg c]at h1 h2 h3 h4
   simp only[if_neg c]
   have c0:0<=x.2:=by omega
   have hm:∀z:Nat,(z:Int)*x.2=((z*x.2.toNat:Nat):Int):=fun z=>by rw[JV];congr 1;omega
   have hz:∀z:Nat,0<=(z:Int)*x.2:=fun z=>ZF (by omega) (by omega)
   have e:JY s x= { s with u0:=XN s.u0 ((qN x.1.toNat).1:Nat) x.2,u1:=XN s.u1 ((qN x.1.toNat).2:Nat) x.2}:=by rw[JY,if_pos c0,hq];rfl
   have p0:=Ah (x:=((qN x.1.toNat).1:Nat)) (y:=x.2) k1 (hz _) (by rw[hm];omega)
   have p1:=Ah (x:=((qN x.1.toNat).2:Nat)) (y:=x.2) k2 (hz _) (by rw[hm];omega)
   rw[hm]at p0 p1
   rw[e]at ih⊢
   simp only at ih h1 h2 h3 h4
   rw[p0,p1]at ih
   obtain⟨i0,i1,i2,i3,i4⟩:=ih (by omega) (by omega) (by omega) (by omega)
   exact⟨i0,by omega,by omega,by omega,by omega⟩
theorem ON{l:List (Int×Int)}(hl:∀x,x∈l->okU x)(hn:l.length<=100):G1 l=
 if dnS (fun n=>(qN n).2) l<upS (fun n=>(qN n).1) l then(1,true)else if upS (fun n=>(qN n).2) l<dnS (fun n=>(qN n).1) l then(-1,true)else(0,false):=by
 obtain⟨a1,a2⟩:=N2 (g:=fun n=>(qN n).2) (fun n h1 h2=>(Yb4 h1 h2).2) l hl
 obtain⟨b1,b2⟩:=GF (g:=fun n=>(qN n).1) (h:=fun n=>(qN n).2) (fun n h1 h2=>(Yb4 h1 h2).1) l hl
 have hb:l.length*(17179869184*3000000000000000)<=100*(17179869184*3000000000000000):=Yu _ hn
 have z:Jc (0,0)=0:=rfl
 have h0:gss0.ok:=by simp [Gss.ok,gss0,okL]
 obtain⟨⟨k1,k2,k3,k4⟩,v1,v2,v3,v4⟩:=OM l gss0 h0 hl (by show Jc (0,0)+_<_;omega) (by show Jc (0,0)+_<_;omega) (by show Jc (0,0)+_<_;omega) (by show Jc (0,0)+_<_;omega)
 have v1:Jc (l.foldl JY gss0).u0=(upS (fun n=>(qN n).1) l:Nat):=by rw[v1];show Jc (0,0)+_=_;omega
 have v2:Jc (l.foldl JY gss0).u1=(upS (fun n=>(qN n).2) l:Nat):=by rw[v2];show Jc (0,0)+_=_;omega
 have v3:Jc (l.foldl JY gss0).d0=(dnS (fun n=>(qN n).1) l:Nat):=by rw[v3];show Jc (0,0)+_=_;omega
 have v4:Jc (l.foldl JY gss0).d1=(dnS (fun n=>(qN n).2) l:Nat):=by rw[v4];show Jc (0,0)+_=_;omega
 unfold G1
 simp only
 rw[Ybt k1 k4,Ybt k3 k2,v1,v2,v3,v4]
 simp only[Int.ofNat_lt,decide_eq_true_eq]
theorem Yds{p:Nat}(hp:p<=2048):∀(l:List (Int×Int))(s:Bnd)(e:Nat),(∀x,x∈l->okU x)->e<=32*512->
 s.ul+upS (fun n=>(lN n p).1) l<2^e->s.uh+upS (fun n=>(lN n p).2) l<2^e->s.dl+dnS (fun n=>(lN n p).1) l<2^e->s.dh+dnS (fun n=>(lN n p).2) l<2^e->
 l.foldl (XC p) s=⟨s.ul+upS (fun n=>(lN n p).1) l,s.uh+upS (fun n=>(lN n p).2) l,s.dl+dnS (fun n=>(lN n p).1) l,s.dh+dnS (fun n=>(lN n p).2) l⟩
 | [],s,e,_,_,_,_,_,_=>by simp [upS,dnS]
 |x::l,s,e,hl,he,h1,h2,h3,h4=>by
  have hx:=hl x (KF ..)
  obtain⟨n1,n2,n3⟩:=WL hx
  have hq:JL x.1 p=lN x.1.toNat p:=by
   conv=>lhs;rw[n3]
   exact Ymr n1 n2 hp
  have ih:=Yds hp l (XC p s x) e (fun y hy=>hl y (KH _ hy)) he
  rw[upS]at h1 h2
  rw[dnS]at h3 h4
  rw[List.foldl_cons,upS,upS,dnS,dnS]
  by_cases c:x.2<0
  ·rw[if_pos c]at h1 h2 h3 h4
   simp only[if_pos c]
   have e:XC p s x= { s with dl:=s.dl+(lN x.1.toNat p).1*(-x.2).toNat,dh:=s.dh+(lN x.1.toNat p).2*(-x.2).toNat}:=by
    rw[XC,if_pos c,hq]
    rw[H4 (e:=e) (by omega) he,H4 (e:=e) (by omega) he,GN (e:=e) (by omega) he,GN (e:=e) (by omega) he]
   rw[e]at ih⊢
   simp only at ih
   rw[ih (by omega) (by omega) (by omega) (by omega)]
   simp only[Bnd.mk.injEq]
   omega
  ·rw[if_neg c]at h1 h2 h3 h4
   simp only[if_neg c]
   have e:XC p s x= { s with ul:=s.ul+(lN x.1.toNat p).1*x.2.toNat,uh:=s.uh+(lN x.1.toNat p).2*x.2.toNat}:=by
    rw[XC,if_neg c,hq]
    rw[H4 (e:=e) (by omega) he,H4 (e:=e) (by omega) he,GN (e:=e) (by omega) he,GN (e:=e) (by omega) he]
   rw[e]at ih⊢
   simp only at ih
   rw[ih (by omega) (by omega) (by omega) (by omega)]
   simp only[Bnd.mk.injEq]
   omega
theorem Ydr{l:List (Int×Int)}{p:Nat}(hp:p<=2048)(hl:∀x,x∈l->okU x)(hn:l.length<=100):QK l p=⟨upS (fun n=>(lN n p).1) l,upS (fun n=>(lN n p).2) l,dnS (fun n=>(lN n p).1) l,dnS (fun n=>(lN n p).2) l⟩:=by
 obtain⟨a1,a2⟩:=N2 (g:=fun n=>(lN n p).2) (B:=64*2^p) (fun n h1 h2=>(Yaj h1 h2).2) l hl
 obtain⟨b1,b2⟩:=GF (g:=fun n=>(lN n p).1) (h:=fun n=>(lN n p).2) (fun n h1 h2=>(Yaj h1 h2).1) l hl
 have hb:l.length*(64*2^p*3000000000000000)<=100*(64*2^p*3000000000000000):=Yu _ hn
 have hp2:100*(64*2^p*3000000000000000)<2^(p+65):=by
  have:(2:Nat)^(p+65)=36893488147419103232*2^p:=by rw[Yo,Yk]
  have:=Nat.one_le_two_pow (n:=p)
  omega
 unfold QK
 rw[Yds hp l ⟨0,0,0,0⟩ (p+65) hl (by omega) (by simp only;omega) (by simp only;omega) (by simp only;omega) (by simp only;omega)]
 simp only[KL]
inductive Spn (L:List Nat):Nat->Prop
 |one:Spn L 1
 |mul {x y:Nat}:x∈L->Spn L y->Spn L (x*y)
theorem Spn.mem{L:List Nat}{x:Nat}(h:x∈L):Spn L x:=by
 have:=Spn.mul h Spn.one
 rwa [Kb]at this
theorem Spn.mul2{L:List Nat}{x y:Nat}(hx:Spn L x)(hy:Spn L y):Spn L (x*y):=by
 induction hx with
 |one=>rwa [Kc]
 |mul h _ ih=>rw[Yx];exact .mul h ih
theorem Spn.sub{L L':List Nat}(h:∀x,x∈L->Spn L' x){y:Nat}(hy:Spn L y):Spn L' y:=by
 induction hy with
 |one=>exact .one
 |mul hx _ ih=>exact(h _ hx).mul2 ih
def Cop(r:List Nat):Prop:=r.Pairwise fun a b=>YG a b=1
theorem DM{B:Nat}:∀{f:Nat}{wait out:List Nat},DrOk B f wait out->Cop out->Cop (QT f wait out)/\∀y,Spn (out++wait) y->Spn (QT f wait out) y
 |0,wait,out,h,hc=>by
  have hw:wait=[]:=List.length_eq_zero_iff.1 (by have:=h.mu;omega)
  rw[QT,hw,Z9]
  exact⟨hc,fun _ h=>h⟩
 |f+1,wait,out,h,hc=>by
  rw[QT]
  by_cases hw:wait.length=0
  ·rw[if_pos hw]
   have hw:wait=[]:=List.length_eq_zero_iff.1 hw
   rw[hw,Z9]
   exact⟨hc,fun _ h=>h⟩
  ·rw[if_neg hw]
   have e:=A2 hw
   by_cases h1:wait.getD (wait.length-1) 0=1
   ·rw[if_pos h1]
    obtain⟨g,hg,hd⟩:=h.pop hw h1
    obtain rfl:f=g:=by omega
    obtain⟨k1,k2⟩:=DM hd hc
    refine⟨k1,fun y hy=>k2 y (hy.sub fun x hx=>?_)⟩
    rw[e,KE,KE,JD]at hx
    rcases hx with hx|hx|hx
    ·exact .mem (List.mem_append_left _ hx)
    ·exact .mem (List.mem_append_right _ hx)
    ·rw[hx,h1];exact .one
   ·rw[if_neg h1]
    have hsp:=BU (f:=fun i=>decide (1<YG (out.getD i 0) (wait.getD (wait.length-1) 0))) out.length 0
    have hn:1<=wait.getD (wait.length-1) 0:=(h.wp _ (KK (l:=wait) (i:=wait.length-1) (by omega))).1
    by_cases h2:X9 out (wait.getD (wait.length-1) 0)<out.length
    ·rw[if_pos h2]
     have hs:=hsp.2.2.2 (by simpa [X9]using h2)
     obtain⟨g,hg,hd⟩:=h.hit hw h2 (of_decide_eq_true hs)
     obtain rfl:f=g:=by omega
     have e':=Ydi h2
     generalize X9 out (wait.getD (wait.length-1) 0)=i at*
     have hsub:List.Sublist (out.take i++out.drop (i+1)) out:=by
      conv=>rhs;rw[e']
      exact(List.sublist_cons_self _ _).append_left _
     obtain⟨k1,k2⟩:=DM hd (List.Pairwise.sublist hsub hc)
     refine⟨k1,fun y hy=>k2 y (hy.sub fun x hx=>?_)⟩
     generalize hL:out.take i++out.drop (i+1)++(wait.take (wait.length-1)++[YG (out.getD i 0) (wait.getD (wait.length-1) 0),out.getD i 0/YG (out.getD i 0) (wait.getD (wait.length-1) 0),wait.getD (wait.length-1) 0/YG (out.getD i 0) (wait.getD (wait.length-1) 0)])=L
     have mL:∀z,z∈out.take i\/z∈out.drop (i+1)\/z∈wait.take (wait.length-1)\/z=YG (out.getD i 0) (wait.getD (wait.length-1) 0)\/z=out.getD i 0/YG (out.getD i 0) (wait.getD (wait.length-1) 0)\/z=wait.getD (wait.length-1) 0/YG (out.getD i 0) (wait.getD (wait.length-1) 0)->Spn L z:=fun z hz=>by
      refine .mem ?_
      rw[<-hL]
      simp only[KE,K4,List.not_mem_nil,or_false]
      rcases hz with hz|hz|hz|hz|hz|hz
      ·exact .inl (.inl hz)
      ·exact .inl (.inr hz)
      ·exact .inr (.inl hz)
      ·exact .inr (.inr (.inl hz))
      ·exact .inr (.inr (.inr (.inl hz)))
      ·exact .inr (.inr (.inr (.inr hz)))
     rcases KE.1 hx with hx|hx
     ·rw[e']at hx
      rcases KE.1 hx with hx|hx
      ·exact mL _ (.inl hx)
      ·rcases K4.1 hx with hx|hx
       ·rw[hx]
        have:=(mL _ (.inr (.inr (.inr (.inl rfl))))).mul2 (mL _ (.inr (.inr (.inr (.inr (.inl rfl))))))
        rwa [Nat.mul_div_cancel' (Wv _ _)]at this
       ·exact mL _ (.inr (.inl hx))
     ·rw[e]at hx
      rcases KE.1 hx with hx|hx
      ·exact mL _ (.inr (.inr (.inl hx)))
      ·rw[JD]at hx
       rw[hx]
       have:=(mL _ (.inr (.inr (.inr (.inl rfl))))).mul2 (mL _ (.inr (.inr (.inr (.inr (.inr rfl))))))
       rwa [Nat.mul_div_cancel' (Nat.gcd_dvd_right _ _)]at this
    ·rw[if_neg h2]
     obtain⟨g,hg,hd⟩:=h.push hw h1
     obtain rfl:f=g:=by omega
     have hcop:Cop (out++[wait.getD (wait.length-1) 0]):=by
      refine List.pairwise_append.2 ⟨hc,List.pairwise_singleton _ _,fun a ha b hb=>?_⟩
      rw[JD]at hb
      rw[hb]
      obtain⟨j,hj,hja⟩:=YaJ ha
      have:=hsp.2.2.1 j (by omega) (by show j<X9 out _;omega)
      have:=of_decide_eq_false this
      rw[show out.getD j 0=a from hja]at this
      have:=Nat.gcd_pos_of_pos_right a hn
      omega
     obtain⟨k1,k2⟩:=DM hd hcop
     refine⟨k1,fun y hy=>k2 y (hy.sub fun x hx=>?_)⟩
     rw[e,KE,KE,JD]at hx
     refine .mem ?_
     rw[KE,KE,JD]
     rcases hx with hx|hx|hx
     ·exact .inl (.inl hx)
     ·exact .inr hx
     ·exact .inl (.inr hx)
theorem TF{l:List (Int×Int)}(hl:∀x,x∈l->okT x)(hn:l.length<=20):Cop (Ud l)/\∀x,x∈l->Spn (Ud l) x.1.toNat:=by
 have key:∀i,i<=l.length->((∀x,x∈(l.take i).foldl XK []->2<=x/\x<=1099511627776)/\Yw (YI ((l.take i).foldl XK []))<=40*i+1)/\Cop ((l.take i).foldl XK [])/\∀x,x∈l.take i->Spn ((l.take i).foldl XK []) x.1.toNat:=fun i=>by
  induction i with
  |zero=>exact fun _=>⟨⟨fun x hx=>absurd hx (by simp),by simp [YI];decide⟩,List.Pairwise.nil,fun x hx=>absurd hx (by simp)⟩
  |succ i ih=>
   intro hi
   obtain⟨⟨h1,h2⟩,h3,h4⟩:=ih (by omega)
   have hx:=hl _ (KK (by omega:i<l.length))
   rw[W5 (by omega),Hk (by omega)]
   obtain⟨q0,q1,q2,q3⟩:=hx
   have hd:=DrOk.start (N:=(l.getD i default).1.toNat) (by omega) (by omega) h1 h2 (by omega)
   obtain⟨d1,d2⟩:=DM hd h3
   refine⟨Mo hd,d1,fun y hy=>?_⟩
   rcases KE.1 hy with hy|hy
   ·exact d2 _ ((h4 y hy).sub fun z hz=> .mem (List.mem_append_left _ hz))
   ·rw[JD]at hy
    rw[hy]
    exact d2 _ (.mem (List.mem_append_right _ (JD.2 rfl)))
 have:=(key l.length (Yr _)).2
 rwa [QB]at this
def vl:Nat->Nat->Nat->Nat
 |0,_,_=>0
 |f+1,b,x=>if x%b=0 then vl f b (x/b)+1 else 0
theorem RG{b:Nat}(hb:2<=b):∀(f x:Nat),1<=x->x<2^f->∀e,b^e∣x↔e<=vl f b x
 |0,x,h1,h2,_=>by simp at h2;omega
 |f+1,x,h1,h2,e=>by
  rw[vl]
  by_cases c:x%b=0
  ·rw[if_pos c]
   obtain⟨y,rfl⟩:=Nat.dvd_of_mod_eq_zero c
   have hy:1<=y:=Nat.pos_of_ne_zero fun h=>by rw[h,Wf]at h1;omega
   rw[Nat.mul_div_cancel_left _ (by omega)]
   have hy2:y<2^f:=by
    have:2*y<=b*y:=Yu _ hb
    rw[YF]at h2;omega
   cases e with
   |zero=>simp
   |succ e=>
    rw[YF,Yk,Nat.mul_dvd_mul_iff_left (by omega),RG hb f y hy hy2]
    omega
  ·rw[if_neg c]
   cases e with
   |zero=>simp
   |succ e=>
    refine⟨fun h=>absurd (Nat.mod_eq_zero_of_dvd (JM ⟨b^e,by rw[YF,Yk]⟩ h)) c,fun h=>by omega⟩
theorem YtT{r:List Nat}(hc:Cop r)(h2:∀x,x∈r->2<=x){b c y:Nat}(hb:b∈r)(hcm:c∈r)(hy:1<=y)(hyl:c*y<2^64):vl 64 b (c*y)=vl 64 b y+if b=c then 1 else 0:=by
 have hb2:=h2 _ hb
 have hc2:=h2 _ hcm
 have hcy:1<=c*y:=Y3 (by omega) hy
 have hy2:y<2^64:=Jn (V6 _ (by omega)) hyl
 have s1:=RG hb2 64 (c*y) hcy hyl
 have s2:=RG hb2 64 y hy hy2
 have ext:∀A B:Nat,(∀e,e<=A↔e<=B)->A=B:=fun A B h=>Nat.le_antisymm ((h A).1 (Yr _)) ((h B).2 (Yr _))
 refine ext _ _ fun e=>?_
 rw[<-s1 e]
 by_cases ebc:b=c
 ·rw[if_pos ebc,<-ebc]
  cases e with
  |zero=>simp
  |succ e=>
   rw[YF,Yk,Nat.mul_dvd_mul_iff_left (by omega),s2 e]
   omega
 ·rw[if_neg ebc,Kw,<-s2 e]
  have hg:YG b c=1:=by
   obtain⟨i,hi,rfl⟩:=List.mem_iff_getElem.1 hb
   obtain⟨j,hj,rfl⟩:=List.mem_iff_getElem.1 hcm
   rcases We i j with h|h|h
   ·exact List.pairwise_iff_getElem.1 hc i j hi hj h
   ·subst h;exact absurd rfl ebc
   ·rw[Nat.gcd_comm];exact List.pairwise_iff_getElem.1 hc j i hj hi h
  exact⟨fun h=>Nat.Coprime.dvd_of_dvd_mul_left (Nat.Coprime.pow_left e hg) h,fun h=>JM h (Nat.dvd_mul_left _ _)⟩
def PV(e:Nat->Nat):List Nat->Nat
 | []=>1
 |b::r=>b^e b*PV e r
theorem Vs{e e':Nat->Nat}:∀{r:List Nat},(∀b,b∈r->e b=e' b)->PV e r=PV e' r
 | [],_=>rfl
 |b::r,h=>by rw[PV,PV,h b (KF ..),Vs fun x hx=>h x (KH _ hx)]
theorem FO:∀(r:List Nat),PV (fun _=>0) r=1
 | []=>rfl
 |b::r=>by rw[PV,FO r];rfl
theorem NW(e e':Nat->Nat):∀(r:List Nat),PV (fun b=>e b+e' b) r=PV e r*PV e' r
 | []=>rfl
 |b::r=>by rw[PV,PV,PV,NW e e' r,Yo,Nat.mul_mul_mul_comm]
theorem Cy(e:Nat->Nat)(k:Nat):∀(r:List Nat),PV (fun b=>e b*k) r=PV e r^k
 | []=>by simp [PV]
 |b::r=>by rw[PV,PV,Cy e k r,Yl,Yt]
theorem RW{c:Nat}:∀{r:List Nat},Cop r->(∀x,x∈r->2<=x)->c∈r->PV (fun b=>if b=c then 1 else 0) r=c
 |b::r,hc,h2,hm=>by
  obtain⟨g1,g2⟩:=List.pairwise_cons.1 hc
  have hb2:=h2 b (KF ..)
  rw[PV]
  by_cases e:b=c
  ·subst e
   rw[if_pos rfl,Wg]
   have:PV (fun x=>if x=b then 1 else 0) r=PV (fun _=>0) r:=Vs fun x hx=>by
    refine if_neg fun hh=>?_
    have:=g1 x hx
    rw[hh,Nat.gcd_self]at this
    omega
   rw[this,FO,Kb]
  ·rw[if_neg e,JO,Kc]
   refine RW g2 (fun x hx=>h2 x (KH _ hx)) ?_
   rcases K4.1 hm with h|h
   ·exact absurd h.symm e
   ·exact h
theorem Yff{r:List Nat}(hc:Cop r)(h2:∀x,x∈r->2<=x){y:Nat}(hy:Spn r y):1<=y/\(y<2^64->PV (fun b=>vl 64 b y) r=y):=by
 induction hy with
 |one=>
  refine⟨Yr _,fun _=>?_⟩
  rw[Vs (e':=fun _=>0) fun b hb=>?_,FO]
  have hb2:=h2 b hb
  rw[vl,if_neg (by rw[Qg (by omega)];decide)]
 | @mul x y hx _ ih=>
   obtain⟨i1,i2⟩:=ih
   have hx2:=h2 x hx
   refine⟨Y3 (by omega) i1,fun hlt=>?_⟩
   rw[Vs fun b hb=>YtT hc h2 hb hx i1 hlt,NW,RW hc h2 hx,i2 (Jn (V6 _ (by omega)) hlt),Yk]
theorem Yjk{b:Nat}(hb:2<=b)(hbl:b<=1099511627776){num:Int}(hn: -3000000000000000<=num/\num<=3000000000000000):∀(f x:Nat)(s:Int),x<4611686018427387904->f<=64-> -4500000000000000000+f*3000000000000000<=s->s<=4500000000000000000-f*3000000000000000->
 QS f (b:Int) (x:Int) num s=s+num*(vl f b x:Nat):=
 by
 intro f
 induction f with
 |zero=>intro x s _ _ _ _;simp [QS,vl]
 |succ f ih=>
  intro x s hx hf h1 h2
  rw[QS,vl]
  have e1:(x:Int).tmod (b:Int)=((x%b:Nat):Int):=rfl
  have e2:(x:Int).tdiv (b:Int)=((x/b:Nat):Int):=rfl
  rw[e1,e2]
  by_cases c:x%b=0
  ·have hq:x/b<=x:=QP _ _
   rw[if_pos (by omega),if_pos c]
   generalize x/b=q at*
   rw[Yg _ (by omega),Yg (s+num) (by omega),ih q (s+num) (by omega) (by omega) (by omega) (by omega),WT,Int.mul_add]
   simp only[Int.natCast_one,Int.mul_one]
   omega
  ·rw[if_neg (by omega),if_neg c];simp
theorem Rg{b:Nat}(hb:2<=b)(hbl:b<=1099511627776):∀(l:List (Int×Int))(s:Int),(∀x,x∈l->okU x)->l.length<=100-> -4500000000000000000+(l.length+1)*192000000000000000<=s->s<=4500000000000000000-(l.length+1)*192000000000000000->
 l.foldl (fun s x=>QS 64 b x.1 x.2 s) s=s+(upS (vl 64 b) l:Nat)-(dnS (vl 64 b) l:Nat):=
 by
 intro l
 induction l with
 |nil=>intro s _ _ _ _;simp [upS,dnS]
 |cons x l ihl=>
  intro s hl hn h1 h2
  have hx:=hl x (KF ..)
  obtain⟨n1,n2,n3⟩:=WL hx
  obtain⟨_,_,x3,x4⟩:=hx
  rw[Xr]at hn h1 h2
  have hv:vl 64 b x.1.toNat<=64:=by
   have key:∀f y,vl f b y<=f:=fun f=>by
    induction f with
    |zero=>intro y;exact Yr _
    |succ f ih=>
     intro y
     rw[vl]
     split
     ·have:=ih (y/b);omega
     ·omega
   exact key 64 _
  have hd:QS 64 (b:Int) x.1 x.2 s=s+x.2*(vl 64 b x.1.toNat:Nat):=by
   conv=>lhs;rw[n3]
   exact Yjk hb hbl ⟨x3,x4⟩ 64 _ s n2 (by decide) (by omega) (by omega)
  have hb1:x.2*(vl 64 b x.1.toNat:Nat)<=3000000000000000*64:=by
   refine Int.le_trans (Xq x4 (by omega)) ?_
   exact Int.mul_le_mul_of_nonneg_left (by omega) (by decide)
  have hb2: -3000000000000000*64<=x.2*(vl 64 b x.1.toNat:Nat):=by
   refine Int.le_trans ?_ (Xq x3 (by omega))
   omega
  rw[List.foldl_cons,hd,ihl _ (fun y hy=>hl y (KH _ hy)) (by omega) (by omega) (by omega),upS,dnS]
  by_cases c:x.2<0
  ·rw[if_pos c,if_pos c]
   have:x.2*(vl 64 b x.1.toNat:Nat)= -((vl 64 b x.1.toNat*(-x.2).toNat:Nat):Int):=by
    rw[JV,show(((-x.2).toNat:Nat):Int)= -x.2 by omega,KC,JW,KA]
   rw[this];omega
  ·rw[if_neg c,if_neg c]
   have:x.2*(vl 64 b x.1.toNat:Nat)=((vl 64 b x.1.toNat*x.2.toNat:Nat):Int):=by
    rw[JV,show((x.2.toNat:Nat):Int)=x.2 by omega,KA]
   rw[this];omega
theorem NX{r:List Nat}(hc:Cop r)(h2:∀x,x∈r->2<=x):∀(l:List (Int×Int)),(∀x,x∈l->okU x/\Spn r x.1.toNat)->
 upP l=PV (fun b=>upS (vl 64 b) l) r/\dnP l=PV (fun b=>dnS (vl 64 b) l) r
 | [],_=>by
   constructor
   ·exact(FO r).symm
   ·exact(FO r).symm
 |x::l,hl=>by
  obtain⟨i1,i2⟩:=NX hc h2 l fun y hy=>hl y (KH _ hy)
  obtain⟨hx,hs⟩:=hl x (KF ..)
  obtain⟨n1,n2,n3⟩:=WL hx
  have e:=(Yff hc h2 hs).2 (by omega)
  rw[upP,dnP,i1,i2]
  by_cases c:x.2<0
  ·rw[if_pos c,if_pos c]
   constructor
   ·rw[Kc]
    exact Vs fun b _=>by rw[upS,if_pos c,KL]
   ·have:∀b,dnS (vl 64 b) (x::l)=vl 64 b x.1.toNat*(-x.2).toNat+dnS (vl 64 b) l:=fun b=>by rw[dnS,if_pos c]
    rw[Vs fun b _=>this b,NW,Cy,e]
  ·rw[if_neg c,if_neg c]
   constructor
   ·have:∀b,upS (vl 64 b) (x::l)=vl 64 b x.1.toNat*x.2.toNat+upS (vl 64 b) l:=fun b=>by rw[upS,if_neg c]
    rw[Vs fun b _=>this b,NW,Cy,e]
   ·rw[Kc]
    exact Vs fun b _=>by rw[dnS,if_neg c,KL]
theorem Pp{l:List (Int×Int)}(hl:∀x,x∈l->okU x)(hn:l.length<=20)(h:Wq l=true):upP l=dnP l:=by
 have hT:∀x,x∈l->okT x:=fun x hx=>Ybj (hl x hx)
 obtain⟨hc,hs⟩:=TF hT hn
 have hr:=Ev hT hn
 obtain⟨e1,e2⟩:=NX hc (fun x hx=>(hr x hx).1) l fun x hx=>⟨hl x hx,hs x hx⟩
 rw[e1,e2]
 refine Vs fun b hb=>?_
 have hb2:=hr b hb
 have h0:=of_decide_eq_true (Vn.1 h b hb)
 unfold XT at h0
 rw[Rg hb2.1 hb2.2 l 0 hl (by omega) (by omega) (by omega)]at h0
 omega
def Und(l:List (Int×Int))(p:Nat):Prop:=upS (fun n=>(lN n p).1) l<=dnS (fun n=>(lN n p).2) l/\dnS (fun n=>(lN n p).1) l<=upS (fun n=>(lN n p).2) l
theorem YmB{a b K:Nat}(h:a^K<b^K):a<b:=by
 refine Nat.lt_of_not_le fun hh=>?_
 have:=YM hh K
 omega
theorem W8{a b x y K:Nat}(ha:a^K<=2^x)(hb:2^y<=b^K)(h:x<y):a<b:=by
 refine YmB (K:=K) ?_
 have:(2:Nat)^x<2^y:=(Nat.pow_lt_pow_iff_right (by decide)).2 h
 omega
theorem YqO{l:List (Int×Int)}(hl:∀x,x∈l->okU x)(hn:l.length<=20):∀(f p:Nat),1<=f->1<=p->p*2^f=4096->
 (QI f l p=1->dnP l<upP l)/\(QI f l p= -1->upP l<dnP l)/\(QI f l p=0->Und l 2048)/\(QI f l p=1\/QI f l p= -1\/QI f l p=0):=by
 intro f
 induction f with
 |zero=>intro p h;omega
 |succ f ih=>
  intro p _ hp1 hp
  have h1:=Ja f
  rw[YF]at hp
  have hp2:p<=2048:=by
   have:p*2<=p*(2^f*2):=Yz _ (by omega)
   omega
  have hs:=Ydr (p:=p) hp2 hl (by omega)
  obtain⟨⟨a1,a2⟩,b1,b2⟩:=Vj (K:=2^p) (g:=fun n=>(lN n p).1) (h:=fun n=>(lN n p).2) (fun n k1 k2=>MS k1 k2) l hl
  rw[QI,hs]
  dsimp only
  by_cases c1:dnS (fun n=>(lN n p).2) l<upS (fun n=>(lN n p).1) l
  ·rw[if_pos c1]
   exact⟨fun _=>W8 b2 a1 c1,fun h=>absurd h (by decide),fun h=>absurd h (by decide),Jo rfl⟩
  ·rw[if_neg c1]
   by_cases c2:upS (fun n=>(lN n p).2) l<dnS (fun n=>(lN n p).1) l
   ·rw[if_pos c2]
    exact⟨fun h=>absurd h (by decide),fun _=>W8 a2 b1 c2,fun h=>absurd h (by decide),KV (Jo rfl)⟩
   ·rw[if_neg c2]
    rcases KU f with h0|h0
    ·subst h0
     have e:p=2048:=by rw[JO]at hp;omega
     subst e
     exact⟨fun h=>absurd h (by rw[QI];decide),fun h=>absurd h (by rw[QI];decide),fun _=>⟨by omega,by omega⟩,KV (KV rfl)⟩
    ·exact ih (2*p) h0 (by omega) (by rw[<-hp,Yk 2 p,Yx,Yk 2])
theorem Yc9{l:List (Int×Int)}(hl:∀x,x∈l->okU x)(hn:l.length<=20):
 (Xd l=1->dnP l<upP l)/\(Xd l= -1->upP l<dnP l)/\(Xd l=0->Wq l=true\/Und l 2048)/\(Xd l=1\/Xd l= -1\/Xd l=0):=by
 have hg:=ON hl (by omega)
 obtain⟨⟨a1,a2⟩,b1,b2⟩:=Vj (K:=2^28) (g:=fun n=>(qN n).1) (h:=fun n=>(qN n).2) (fun n k1 k2=>Yb5 k1 k2) l hl
 unfold Xd
 by_cases c1:dnS (fun n=>(qN n).2) l<upS (fun n=>(qN n).1) l
 ·rw[if_pos c1]at hg
  rw[hg,if_pos rfl]
  exact⟨fun _=>W8 b2 a1 c1,fun h=>absurd h (by decide),fun h=>absurd h (by decide),Jo rfl⟩
 ·rw[if_neg c1]at hg
  by_cases c2:upS (fun n=>(qN n).2) l<dnS (fun n=>(qN n).1) l
  ·rw[if_pos c2]at hg
   rw[hg,if_pos rfl]
   exact⟨fun h=>absurd h (by decide),fun _=>W8 a2 b1 c2,fun h=>absurd h (by decide),KV (Jo rfl)⟩
  ·rw[if_neg c2]at hg
   rw[hg,if_neg (by decide)]
   by_cases c3:Wq l=true
   ·rw[if_pos c3]
    exact⟨fun h=>absurd h (by decide),fun h=>absurd h (by decide),fun _=>Jo c3,KV (KV rfl)⟩
   ·rw[if_neg c3]
    obtain⟨k1,k2,k3,k4⟩:=YqO hl hn 6 64 (by decide) (by decide) (by decide)
    exact⟨k1,k2,fun h=>KV (k3 h),k4⟩
theorem CI{g h w:Nat->Nat}{c:Nat}:∀(l:List (Int×Int)),(∀x,x∈l->h x.1.toNat<=g x.1.toNat+w x.1.toNat*c)->upS h l<=upS g l+upS w l*c/\dnS h l<=dnS g l+dnS w l*c
 | [],_=>by simp [upS,dnS]
 |x::l,H=>by
  obtain⟨i1,i2⟩:=CI l fun y hy=>H y (KH _ hy)
  have hx:=H x (KF ..)
  have key:∀e:Nat,h x.1.toNat*e<=g x.1.toNat*e+w x.1.toNat*e*c:=fun e=>by
   have h1:=Yu e hx
   rw[YN]at h1
   rw[Yx (w x.1.toNat),Yk e c,<-Yx]
   exact h1
  rw[upS,upS,upS,dnS,dnS,dnS,YN,YN]
  constructor
  ·split
   ·rw[JX];omega
   ·have:=key x.2.toNat;omega
  ·split
   ·have:=key (-x.2).toNat;omega
   ·rw[JX];omega
theorem Rx{l:List (Int×Int)}{J:Nat}{w:Nat->Nat}(hJ:J<=2048)(hl:∀x,x∈l->okU x)(hw:∀x,x∈l->(lN x.1.toNat 2048).2<=(lN x.1.toNat 2048).1+w x.1.toNat*2^(2048-J))(h:Und l 2048):
 dnP l^(2^J)<=upP l^(2^J)*2^(upS w l+dnS w l):=by
 obtain⟨⟨a1,a2⟩,b1,b2⟩:=Vj (K:=2^2048) (g:=fun n=>(lN n 2048).1) (h:=fun n=>(lN n 2048).2) (fun n k1 k2=>MS k1 k2) l hl
 obtain⟨s1,s2⟩:=CI (g:=fun n=>(lN n 2048).1) (h:=fun n=>(lN n 2048).2) (w:=w) (c:=2^(2048-J)) l hw
 obtain⟨_,h2⟩:=h
 obtain⟨c,hc⟩:∃c,c=2^(2048-J):=⟨_,rfl⟩
 obtain⟨K,hK⟩:∃K,K=(2:Nat)^2048:=⟨_,rfl⟩
 have hc0:c≠0:=by rw[hc];have:=Ja (2048-J);omega
 have hKc:K=2^J*c:=by rw[hK,hc,<-Yo];congr 1;omega
 rw[<-hc]at s1 s2
 rw[<-hK]at a1 a2 b1 b2
 rw[<-XY hc0,Yt,<-Yl,<-Yl,<-hKc,<-Yl,YN]
 refine Yj b2 ?_
 refine Yj (Kl (by decide) (show _<=upS (fun n=>(lN n 2048).1) l+(upS w l*c+dnS w l*c)by omega)) ?_
 rw[Yo]
 exact Yu _ a1
theorem TH(Q:Nat):∀n,Q^n*(Q+n)<=Q*(Q+1)^n
 |0=>by simp
 |n+1=>by
  have ih:=TH Q n
  have h1:Q^(n+1)*(Q+(n+1))=Q*(Q^n*(Q+n))+Q*Q^n:=by
   rw[YF,<-XV,Y9,Kb,Yk (Q^n) Q,Yx]
  have h2:Q*(Q+1)^(n+1)=Q*(Q*(Q+1)^n)+Q*(Q+1)^n:=by
   rw[YF,Y9,Kb,Y9,Yk ((Q+1)^n) Q]
  have h3:=Yz Q (YM (show Q<=Q+1 by omega) n)
  have h4:=Yz Q ih
  omega
theorem Ru(Q:Nat)(hQ:0<Q):2*Q^Q<=(Q+1)^Q:=by
 have:=TH Q Q
 refine WV (c:=Q) ?_ hQ
 have e:Q*(2*Q^Q)=Q^Q*(Q+Q):=by rw[Y9,Nat.two_mul,Y9,Yk Q]
 omega
def Near(M W J N m:Nat):Prop:=2^m*M<=N^(2^J)*M+2^m*W/\N^(2^J)*M<=2^m*(M+W)
theorem Near.mono{M W W' J N m:Nat}(h:Near M W J N m)(hw:W<=W'):Near M W' J N m:=by
 obtain⟨h1,h2⟩:=h
 have k1:=Yz (2^m) hw
 have k2:=Yz (2^m) (show M+W<=M+W' by omega)
 exact⟨by omega,by omega⟩
theorem Near.sq{M W J N m:Nat}(hM:0<M)(hW:W<=M)(h:Near M W J N m):Near M (3*W) (J+1) N (2*m):=by
 obtain⟨h1,h2⟩:=h
 unfold Near
 have e0:N^2^(J+1)=N^2^J*N^2^J:=by rw[YF,Yl,Nat.pow_two]
 rw[e0,Gq]
 generalize N^2^J=X at*
 generalize 2^m=P at*
 constructor
 ·refine Kr (c:=M) ?_ hM
  have k1:P*(M-W)<=X*M:=by rw[Nat.mul_sub];omega
  have k2:=YP k1 k1
  obtain⟨V,hV⟩:∃V,V=M-W:=⟨_,rfl⟩
  have hM2:M=V+W:=by omega
  rw[<-hV]at k2
  have e1:P*V*(P*V)=P*P*(V*V):=by simp only[Yx,Jd]
  have e2:(X*M)*(X*M)=X*X*M*M:=by simp only[Yx,Jd]
  have e3:P*P*M*M=P*P*(M*M):=by simp only[Yx]
  have e4:(X*X*M+P*P*(3*W))*M=X*X*M*M+P*P*(3*W*M):=by rw[YN,Yx (P*P)]
  have e5:M*M<=V*V+3*W*M:=by
   rw[hM2,YN,Y9,Y9,Y9]
   have:W*V=V*W:=Yk ..
   have h3:3*W*V=3*(W*V):=Yx ..
   have h4:3*W*W=3*(W*W):=Yx ..
   omega
  have e6:=Yz (P*P) e5
  rw[Y9]at e6
  omega
 ·refine Kr (c:=M) ?_ hM
  have k2:=YP h2 h2
  have e1:P*(M+W)*(P*(M+W))=P*P*((M+W)*(M+W)):=by simp only[Yx,Jd]
  have e2:(X*M)*(X*M)=X*X*M*M:=by simp only[Yx,Jd]
  have e3:P*P*(M+3*W)*M=P*P*((M+3*W)*M):=by simp only[Yx]
  have e5:(M+W)*(M+W)<=(M+3*W)*M:=by
   rw[YN,Y9,Y9,YN]
   have h3:3*W*M=3*(W*M):=Yx ..
   have h4:M*W=W*M:=Yk ..
   have h5:=Yz W hW
   omega
  have e6:=Yz (P*P) e5
  omega
theorem Yks(M:Nat)(hM:0<M):∀(J f A B S N w:Nat),J<=f->2^S*A<=N*M->N*M<=2^S*B->M<=A->A<=B->B<=2*M->B<=A+w->
 (gl M false f A B S).2<=(gl M false f A B S).1+2^(f-J)\/∃j m,j<=J/\Near M (4^j*(w+2)) j N m:=by
 intro J
 induction J with
 |zero=>
  intro f A B S N w _ _ _ _ _ _ _
  obtain⟨h1,h2⟩:=U5 M false f A B S
  rw[YN,Kc]at h2
  left
  rw[Nat.sub_zero]
  omega
 |succ J ih=>
  intro f A B S N w hf h1 h2 ha hab hb hw
  obtain⟨f,rfl⟩:∃g,f=g+1:=⟨f-1,by omega⟩
  have hA:A*A/M*M<=A*A:=XW _ _
  have hA':A*A<(A*A/M+1)*M:=by
   have:=KO (A*A) M
   have h3:=Kj (A*A) hM
   rw[YN,Kc,Yk (A*A/M)];omega
  have hB:B*B<=YT (B*B) M*M:=Ue _ _ hM
  have k1:=Ydl hM h1 hA
  have k2:=Ydj hM h2 hB
  have hA1:M<=A*A/M:=(Wc hM).2 (YP ha ha)
  have hAB:A*A/M<=YT (B*B) M:=HK (YP hab hab)
  have hB1:YT (B*B) M<=4*M:=X3 (by
   have:=YP hb hb
   have e:4*M*M=2*M*(2*M):=by rw[Nat.mul_mul_mul_comm,Yx]
   omega)
  have hW:YT (B*B) M<=A*A/M+(4*w+2):=X3 (by
   obtain⟨v,rfl⟩:∃v,B=A+v:=⟨B-A,by omega⟩
   have e:(A+v)*(A+v)=A*A+v*(A+(A+v)):=by
    rw[Y9,YN A v A,Y9 v A,Yk (A+v) v]
    omega
   have e2:v*(A+(A+v))<=w*(4*M):=YP (by omega) (by omega)
   have e3:(A*A/M+(4*w+2))*M=(A*A/M+1)*M+w*(4*M)+M:=by
    rw[YN,YN,YN]
    have:4*w*M=w*(4*M):=by rw[Yk 4 w,Yx]
    omega
   omega)
  have lift:∀{j w':Nat},w'+2<=4*(w+2)->∀{m},j<=J->Near M (4^j*(w'+2)) j (N*N) m->∃j m,j<=J+1/\Near M (4^j*(w+2)) j N m:=fun {j w'} hw' {m} hj hn=>by
   refine⟨j+1,m,by omega,?_⟩
   have hm:4^j*(w'+2)<=4^(j+1)*(w+2):=by
    rw[YF,Yx]
    exact Yz _ hw'
   have:=hn.mono hm
   unfold Near at this⊢
   rw[PA]
   exact this
  rw[gl,Nat.add_sub_add_right]
  split
  ·split
   ·have:=ih f (A*A/M) (YT (B*B) M) (2*S) (N*N) (4*w+2) (by omega) (by rw[Gq];exact k1) (by rw[Gq];exact k2) hA1 hAB (by omega) hW
    rcases this with h| ⟨j,m,hj,hn⟩
    ·exact Jo h
    ·exact KV (lift (by omega) hj hn)
   ·right
    refine⟨1,2*S+1,by omega,?_⟩
    unfold Near
    rw[Wg,Nat.pow_two,Wg,YF,Gq]
    have g1:2^S*2^S*(2*M)<=2^S*2^S*(A*A/M+(4*w+2)):=Yz _ (by omega)
    have g2:2^S*2^S*YT (B*B) M<=2^S*2^S*(2*M+(4*w+2)):=Yz _ (by omega)
    generalize 2^S*2^S=P at*
    rw[Y9]at g1 g2
    have e1:P*2*M=P*(2*M):=Yx ..
    have e2:P*2*(4*(w+2))=P*(4*w+2)+P*(4*w+14):=by rw[Yx,<-Y9];congr 1;omega
    have e3:P*2*(M+4*(w+2))=P*(2*M)+(P*(4*w+2)+P*(4*w+14)):=by rw[Y9,e1,e2]
    exact⟨by omega,by omega⟩
  ·rw[if_neg (by simp)]
   have c1:A*A/M/2*2<=A*A/M:=XW _ _
   have c2:YT (B*B) M<=YT (YT (B*B) M) 2*2:=Ue _ _ (by decide)
   have e3:∀x,2^(2*S+1)*x=2^S*2^S*(x*2):=fun x=>by rw[YF,Gq,Yx,Yk 2 x]
   have:=ih f (A*A/M/2) (YT (YT (B*B) M) 2) (2*S+1) (N*N) (2*w+2) (by omega) (by rw[e3];exact Yj (Yz _ c1) k1) (by rw[e3];exact Yj k2 (Yz _ c2)) (by omega) (HK hAB) (X3 (by omega)) (X3 (by omega))
   rcases this with h| ⟨j,m,hj,hn⟩
   ·exact Jo h
   ·exact KV (lift (by omega) hj hn)
theorem Near.up{M N:Nat}(hM:0<M):∀(d j W m:Nat),4^d*W<=M->Near M W j N m->∃m',Near M (4^d*W) (j+d) N m'
 |0,j,W,m,_,h=>⟨m,by rw[JO,Kc];exact h⟩
 |d+1,j,W,m,hW,h=>by
  have e:4^(d+1)*W=4*(4^d*W):=by rw[YF,Yk (4^d) 4,Yx]
  rw[e]at hW
  obtain⟨m',h'⟩:=Near.up hM d j W m (by omega) h
  exact⟨2*m',by rw[e];exact(Near.sq hM (by omega) h').mono (by omega)⟩
def Qm(J n:Nat):Prop:=(lN n 2048).2<=(lN n 2048).1+2^(2048-J)
theorem Yna{n J:Nat}(h1:1<=n)(h2:n<4611686018427387904)(hJ:J<=500):Qm J n\/(JZ (n:Int)=false/\∃m,Near (2^4160) (2^2160) J n m):=by
 unfold Qm lN
 by_cases c:JZ (n:Int)=true
 ·rw[if_pos c]
  left;exact Nat.le_add_right _ _
 ·rw[if_neg c]
  have hk:lgK n<62:=WE (by decide) h2
  obtain⟨m1,m2,m3⟩:=Gg (D:=2*2048+64) h1 (by omega)
  rw[show 2*2048+64=4160 from rfl]at*
  have hM:=Ja 4160
  have:=Yks (2^4160) hM J 2048 _ _ (lgK n) n 0 (by omega) (YB m3) (YB m3.symm) m1 (Yr _) (JN m2) (by omega)
  rcases this with h| ⟨j,m,hj,hn⟩
  ·exact Jo h
  ·right
   have e4:∀a,(4:Nat)^a=2^(2*a):=fun a=>by rw[show 4=2^2 from rfl,<-Yl]
   have hle:∀e,1001<=e->4^(J-j)*(4^j*(0+2))<=2^e:=fun e he=>by
    rw[<-Yx,<-Yo,show J-j+j=J by omega,e4,show 0+2=2^1 from rfl,<-Yo]
    exact Kl (by decide) (by omega)
   obtain⟨m',h'⟩:=Near.up hM (J-j) j _ m (hle 4160 (by decide)) hn
   rw[show j+(J-j)=J by omega]at h'
   exact⟨by simpa using c,m',h'.mono (hle 2160 (by decide))⟩
def RtJ(R J x y m:Nat):Prop:=x^(2^J)<=2^m*R^(2^J)/\2^m*R^(2^J)<=y^(2^J)
theorem RtJ.next{R J x y m c d:Nat}(hR:0<R)(h:RtJ R J x y m)(hc:RtJ R J c d 1):RtJ R J (x*c/R) (y*d/R+1) (m+1):=by
 obtain⟨h1,h2⟩:=h
 obtain⟨c1,c2⟩:=hc
 rw[Wg]at c1 c2
 unfold RtJ
 generalize 2^J=Q at*
 have hRQ:0<R^Q:=YD hR
 rw[YF]
 generalize 2^m=P at*
 constructor
 ·refine Kr (c:=R^Q) ?_ hRQ
  have k1:(x*c/R*R)^Q<=(x*c)^Q:=YM (XW _ _) _
  rw[Yt,Yt]at k1
  have k2:=YP h1 c1
  have e:P*R^Q*(2*R^Q)=P*2*R^Q*R^Q:=by simp only[Yx,Jd]
  omega
 ·refine Kr (c:=R^Q) ?_ hRQ
  have k0:y*d<=(y*d/R+1)*R:=by
   have:=KO (y*d) R
   have h3:=Kj (y*d) hR
   rw[YN,Kc,Yk (y*d/R)];omega
  have k1:(y*d)^Q<=((y*d/R+1)*R)^Q:=YM k0 _
  rw[Yt,Yt]at k1
  have k2:=YP h2 c2
  have e:P*R^Q*(2*R^Q)=P*2*R^Q*R^Q:=by simp only[Yx,Jd]
  omega
theorem Yai{n p q:Nat}(h1:1<=n)(h2:n<4611686018427387904)(hp:p<=q):(lN n p).1*2^(q-p)<=(lN n q).1/\(lN n q).2<=(lN n p).2*2^(q-p):=by
 unfold lN
 by_cases c:JZ (n:Int)=true
 ·rw[if_pos c,if_pos c]
  have e:lgK n*2^p*2^(q-p)=lgK n*2^q:=by
   rw[Yx,<-Yo];congr 2;omega
  simp only
  rw[e];exact⟨Yr _,Yr _⟩
 ·rw[if_neg c,if_neg c]
  have hk:lgK n<62:=WE (by decide) h2
  have eM:(2:Nat)^(2*q+64)=2^(2*p+64)*2^(2*(q-p)):=by
   rw[<-Yo];congr 1;omega
  have eA:n*2^(2*q+64-lgK n)=2^(2*(q-p))*(n*2^(2*p+64-lgK n)):=by
   rw[show 2*q+64-lgK n=2*(q-p)+(2*p+64-lgK n)by omega,Yo,Jd]
  have:=Ls (2^(2*p+64)) (2^(2*(q-p))) false (Ja _) (Ja _) (q-p) p (n*2^(2*p+64-lgK n)) (n*2^(2*p+64-lgK n)) (lgK n) _ _ (YB eA.symm) (Yr _) (YB eA)
  rw[<-eM,show p+(q-p)=q by omega]at this
  exact this
theorem GG(g:Nat->Nat)(c:Nat):∀l:List (Int×Int),upS (fun n=>g n*c) l=upS g l*c/\dnS (fun n=>g n*c) l=dnS g l*c
 | []=>by simp [upS,dnS]
 |x::l=>by
  obtain⟨a,b⟩:=GG g c l
  rw[upS,dnS,upS,dnS,a,b]
  constructor
  ·split
   ·simp
   ·rw[YN,WW]
  ·split
   ·rw[YN,WW]
   ·simp
def hiN(n:Nat):Nat:=(lN n 2048).2
def loN(n:Nat):Nat:=(lN n 2048).1
def KB:Nat:=2^2048
def DD:Nat:=2^(2048-100)
def C48:Nat:=2^(2048-48)
theorem G7{n:Nat}(h1:1<=n)(h2:n<4611686018427387904):2^loN n<=n^KB/\n^KB<=2^hiN n:=by
 have h:=MS (p:=2048) h1 h2
 unfold loN hiN KB
 exact h
theorem Yb3{a b c:Nat}(h:a=b+c):(2:Nat)^a=2^b*2^c:=by rw[h,Yo]
theorem KB_is:KB=2^100*DD/\C48=2^52*DD:=by
 have e1:2048=100+(2048-100):=rfl
 have e2:2048-48=52+(2048-100):=rfl
 have h1:=Yb3 e1
 have h2:=Yb3 e2
 unfold KB C48 DD
 exact⟨h1,h2⟩
theorem M0{n:Nat}(h:Qm 100 n):hiN n<=loN n+DD:=by
 unfold hiN loN DD
 exact h
theorem YaT{n:Nat}(h:Qm 48 n):hiN n<=loN n+C48:=by
 unfold hiN loN C48
 exact h
attribute [irreducible] KB DD C48
theorem Ix{l:List (Int×Int)}(hl:∀x,x∈l->okU x){p:Nat}{lo hi:Nat->Nat}(hlo:∀n,1<=n->n<4611686018427387904->lo n*2^p<=loN n)(hhi:∀n,1<=n->n<4611686018427387904->hiN n<=hi n*2^p)
 (h:upS hi l<dnS lo l):upS hiN l<dnS loN l:=by
 have a:=(GF (g:=hiN) (h:=fun n=>hi n*2^p) hhi l hl).1
 have b:=(GF (g:=fun n=>lo n*2^p) (h:=loN) hlo l hl).2
 rw[(GG hi _ l).1]at a
 rw[(GG lo _ l).2]at b
 have:=ZL h (Ja p)
 omega
theorem YqN{l:List (Int×Int)}(hl:∀x,x∈l->okU x)(hn:l.length<=20):∀(f p:Nat),1<=f->1<=p->p*2^f=4096->QI f l p= -1->upS hiN l<dnS loN l:=by
 intro f
 induction f with
 |zero=>intro p h;omega
 |succ f ih=>
  intro p _ hp1 hp
  have h1:=Ja f
  rw[YF]at hp
  have hp2:p<=2048:=by
   have:p*2<=p*(2^f*2):=Yz _ (by omega)
   omega
  have hs:=Ydr (p:=p) hp2 hl (by omega)
  rw[QI,hs]
  dsimp only
  by_cases c1:dnS (fun n=>(lN n p).2) l<upS (fun n=>(lN n p).1) l
  ·rw[if_pos c1]
   exact fun h=>absurd h (by decide)
  ·rw[if_neg c1]
   by_cases c2:upS (fun n=>(lN n p).2) l<dnS (fun n=>(lN n p).1) l
   ·intro _
    exact Ix hl (p:=2048-p) (fun n a b=>(Yai a b hp2).1) (fun n a b=>(Yai a b hp2).2) c2
   ·rw[if_neg c2]
    rcases KU f with h0|h0
    ·subst h0
     exact fun h=>absurd h (by rw[QI];decide)
    ·exact ih (2*p) h0 (by omega) (by rw[<-hp,Yk 2 p,Yx,Yk 2])
theorem YqP{l:List (Int×Int)}(hl:∀x,x∈l->okU x)(hn:l.length<=20)(h:Xd l= -1):upS hiN l<dnS loN l:=by
 have hg:=ON hl (by omega)
 unfold Xd at h
 by_cases c1:dnS (fun n=>(qN n).2) l<upS (fun n=>(qN n).1) l
 ·rw[if_pos c1]at hg
  rw[hg,if_pos rfl]at h
  exact absurd h (by decide)
 ·rw[if_neg c1]at hg
  by_cases c2:upS (fun n=>(qN n).2) l<dnS (fun n=>(qN n).1) l
  ·exact Ix hl (p:=2048-28) (fun n a b=>(Yal a b (by decide)).1) (fun n a b=>(Yal a b (by decide)).2) c2
  ·rw[if_neg c2]at hg
   rw[hg,if_neg (by decide)]at h
   by_cases c3:Wq l=true
   ·rw[if_pos c3]at h
    exact absurd h (by decide)
   ·rw[if_neg c3]at h
    exact YqN hl hn 6 64 (by decide) (by decide) (by decide) h
theorem P8{l:List (Int×Int)}(hl:∀x,x∈l->okU x)(hn:l.length<=20):0<=Xd l↔dnS loN l<=upS hiN l:=by
 obtain⟨g1,g2,g3,g4⟩:=Yc9 hl hn
 constructor
 ·intro h
  refine ZK fun hlt=>?_
  obtain⟨⟨a1,a2⟩,b1,b2⟩:=Vj (K:=KB) (g:=loN) (h:=hiN) (fun n k1 k2=>G7 k1 k2) l hl
  have hP:=W8 a2 b1 hlt
  rcases g4 with e|e|e
  ·have:=g1 e;omega
  ·omega
  ·rcases g3 e with o|o
   ·have:=Pp hl hn o;omega
   ·have:dnS loN l<=upS hiN l:=o.2
    omega
 ·intro h
  rcases g4 with e|e|e
  ·omega
  ·have:=YqP hl hn e;omega
  ·omega
theorem Cw{b:Nat}(e:Nat->Nat):∀{r:List Nat},(∀x,x∈r->YG b x=1)->YG b (PV e r)=1
 | [],_=>by simp [PV]
 |c::r,h=>by
  have h1:Nat.Coprime b c:=h c (KF ..)
  have h2:Nat.Coprime b (PV e r):=Cw e fun x hx=>h x (KH _ hx)
  exact Nat.Coprime.mul_right (Nat.Coprime.pow_right _ h1) h2
theorem Ng{b x y P P':Nat}(hb:2<=b)(h1:YG b P=1)(hP:0<P)(h:b^x*P=b^y*P'):y<=x:=by
 refine ZK fun hlt=>?_
 obtain⟨d,rfl⟩:∃d,y=x+(d+1):=⟨y-x-1,by omega⟩
 rw[Yo,Yx]at h
 have h2:=Nat.eq_of_mul_eq_mul_left (YD (by omega)) h
 have h3:b∣P:=by rw[h2,YF,WW];exact Nat.dvd_mul_left ..
 have h4:b∣YG b P:=Nat.dvd_gcd (Nat.dvd_refl b) h3
 rw[h1]at h4
 have:=Nat.le_of_dvd (by decide) h4
 omega
theorem FN{e:Nat->Nat}:∀{r:List Nat},(∀x,x∈r->2<=x)->0<PV e r
 | [],_=>by simp [PV]
 |b::r,h=>Y3 (YD (by have:=h b (KF ..);omega)) (FN fun x hx=>h x (KH _ hx))
theorem FM{e e':Nat->Nat}:∀{r:List Nat},Cop r->(∀x,x∈r->2<=x)->PV e r=PV e' r->∀b,b∈r->e b=e' b
 | [],_,_,_,b,hb=>by cases hb
 |c::r,hc,h2,h,b,hb=>by
  obtain⟨g1,g2⟩:=List.pairwise_cons.1 hc
  have h2':∀x,x∈r->2<=x:=fun x hx=>h2 x (KH _ hx)
  have hc2:=h2 c (KF ..)
  rw[PV,PV]at h
  have l1:=Ng hc2 (Cw e g1) (FN h2') h
  have l2:=Ng hc2 (Cw e' g1) (FN h2') h.symm
  have he:e c=e' c:=Nat.le_antisymm l2 l1
  rw[he]at h
  have h3:=Nat.eq_of_mul_eq_mul_left (YD (by omega)) h
  rcases K4.1 hb with rfl|hb
  ·exact he
  ·exact FM g2 h2' h3 b hb
theorem YnD{l:List (Int×Int)}(hl:∀x,x∈l->okU x)(hn:l.length<=20):Wq l=true↔upP l=dnP l:=by
 refine⟨Pp hl hn,fun h=>?_⟩
 have hT:∀x,x∈l->okT x:=fun x hx=>Ybj (hl x hx)
 obtain⟨hc,hs⟩:=TF hT hn
 have hr:=Ev hT hn
 obtain⟨e1,e2⟩:=NX hc (fun x hx=>(hr x hx).1) l fun x hx=>⟨hl x hx,hs x hx⟩
 rw[e1,e2]at h
 refine Vn.2 fun b hb=>decide_eq_true ?_
 have hb2:=hr b hb
 unfold XT
 rw[Rg hb2.1 hb2.2 l 0 hl (by omega) (by omega) (by omega),FM hc (fun x hx=>(hr x hx).1) h b hb]
 omega
end Go.Proofs.YtlhmikjnholpnaaGreatDoor
set_option maxRecDepth 100000
namespace Go.Proofs.YtlhmikjnholpnaaGreatDoor.LS
theorem TI(Q:Nat):∀n,Q^n*(Q+n)<=Q*(Q+1)^n
 |0=>by simp
 |n+1=>by
  have ih:=TI Q n
  have h1:Q^(n+1)*(Q+(n+1))=Q*(Q^n*(Q+n))+Q*Q^n:=by
   rw[YF,<-XV,Y9,Kb,Yk (Q^n) Q,Yx]
  have h2:Q*(Q+1)^(n+1)=Q*(Q*(Q+1)^n)+Q*(Q+1)^n:=by
   rw[YF,Y9,Kb,Y9,Yk ((Q+1)^n) Q]
  have h3:=Yz Q (YM (show Q<=Q+1 by omega) n)
  have h4:=Yz Q ih
  omega
theorem Ew(Q:Nat):∀n,(Q+1)^n*(Q+1-n)<=Q^n*(Q+1)
 |0=>by simp
 |n+1=>by
  have ih:=Ew Q n
  rcases YV Q n with h|h
  ·have:Q+1-(n+1)=0:=by omega
   rw[this,Wf];exact JP _
  ·obtain⟨r,rfl⟩:∃r,Q=n+r:=⟨Q-n,by omega⟩
   have e1:n+r+1-(n+1)=r:=by omega
   have e2:n+r+1-n=r+1:=by omega
   rw[e2]at ih
   rw[e1,YF,YF]
   have h1:=Yu (n+r) ih
   have h2:(n+r+1)*r<=(r+1)*(n+r):=by grind
   have h3:=Yz ((n+r+1)^n) h2
   grind
theorem Bv{a b c d e f:Nat}(hd:0<d)(h1:a*d<=c*b)(h2:c*f<=e*d):a*f<=e*b:=by
 refine Kr (c:=d) ?_ hd
 have k1:=Yu f h1
 have k2:=Yu b h2
 have e1:a*f*d=a*d*f:=by ac_rfl
 have e2:c*b*f=c*f*b:=by ac_rfl
 have e3:e*b*d=e*d*b:=by ac_rfl
 omega
theorem YjE(K:Nat)(hK:0<K):(K+1)^K*(K+1)^(K+1)<=(K+2)^(K+1)*K^K:=by
 have h:=Ew (K*(K+2)) K
 have e0:K*(K+2)+1=(K+1)*(K+1):=by grind
 rw[e0,Yt,Yt]at h
 have e1:(K+1)*(K+1)-K=K*K+K+1:=by
  have:(K+1)*(K+1)=K*K+K+1+K:=by grind
  omega
 rw[e1]at h
 have h2:=Yu (K+2) h
 have h3:(K+1)*(K+1)*(K+1)<=(K*K+K+1)*(K+2):=by grind
 have h4:=Yz ((K+1)^K*(K+1)^K) h3
 rw[YF (K+1),YF (K+2)]
 refine Kr (c:=(K+1)*(K+1)) ?_ (Y3 (by omega) (by omega))
 generalize(K+1)^K=x at*
 generalize(K+2)^K=y at*
 generalize K^K=z at*
 generalize K+1=p at*
 generalize K*K+K+1=r at*
 generalize K+2=q at*
 have e2:x*(x*p)*(p*p)=x*x*(p*p*p):=by ac_rfl
 have e3:y*q*z*(p*p)=z*y*(p*p)*q:=by ac_rfl
 have e4:x*x*r*q=x*x*(r*q):=by ac_rfl
 omega
theorem YjD(n:Nat):(n+2)^(n+2)*n^(n+1)<=(n+1)^(n+1)*(n+1)^(n+2):=by
 rcases KU n with rfl|hn
 ·decide
 have h:=TI (n*(n+2)) (n+1)
 have e0:n*(n+2)+1=(n+1)*(n+1):=by grind
 rw[e0,Yt,Yt]at h
 have h2:=Yu (n+2) h
 have h3:n*(n+2)*(n+2)<=(n+1)*(n*(n+2)+(n+1)):=by grind
 have h4:=Yz ((n+1)^(n+1)*(n+1)^(n+1)) h3
 rw[YF (n+2) (n+1),YF (n+1) (n+1)]
 refine Kr (c:=n*(n+2)+(n+1)) ?_ (by omega)
 generalize(n+1)^(n+1)=x at*
 generalize(n+2)^(n+1)=y at*
 generalize n^(n+1)=z at*
 generalize n*(n+2)+(n+1)=r at*
 generalize n+1=p at*
 generalize n+2=q at*
 have e2:y*q*z*r=z*y*r*q:=by ac_rfl
 have e3:x*(x*p)*r=x*x*(p*r):=by ac_rfl
 have e4:n*q*(x*x)*q=x*x*(n*q*q):=by ac_rfl
 omega
theorem Tf(K:Nat)(hK:0<K):∀j,(K+1)^K*(K+j)^(K+j)<=(K+j+1)^(K+j)*K^K
 |0=>Yr _
 |j+1=>Bv (YD (show 0<K+j by omega)) (Tf K hK j) (YjE (K+j) (by omega))
theorem TB(n:Nat)(hn:0<n):∀j,(n+j+1)^(n+j+1)*n^(n+1)<=(n+1)^(n+1)*(n+j)^(n+j+1)
 |0=>YB rfl
 |j+1=>by
  refine Bv (YD (n:=n+j+1) (show 0<n+j by omega)) ?_ (TB n hn j)
  have h:=YjD (n+j)
  have e1:n+(j+1)+1=n+j+2:=by omega
  have e2:n+(j+1)=n+j+1:=by omega
  rw[e1,e2]
  exact h
theorem ab(m:Nat):(m+1)^m*m^(m+1)<=(m+1)^(m+1)*m^m:=by
 rw[YF,YF]
 have h:=Yz ((m+1)^m*m^m) (show m<=m+1 by omega)
 generalize(m+1)^m=x at*
 generalize m^m=y at*
 have e1:x*(y*m)=x*y*m:=by ac_rfl
 have e2:x*(m+1)*y=x*y*(m+1):=by ac_rfl
 omega
theorem IU(K n:Nat):(K+1)^K*n^(n+1)<=(n+1)^(n+1)*K^K:=by
 rcases KU K with rfl|hK
 ·have:=YM (show n<=n+1 by omega) (n+1)
  simpa using this
 rcases KU n with rfl|hn
 ·simp
 rcases Nat.le_total K n with h|h
 ·obtain⟨j,rfl⟩:∃j,n=K+j:=⟨n-K,by omega⟩
  exact Bv (YD (n:=K+j) (show 0<K+j by omega)) (Tf K hK j) (ab (K+j))
 ·obtain⟨j,rfl⟩:∃j,K=n+j:=⟨K-n,by omega⟩
  refine Bv (YD (n:=n+j+1) (show 0<n+j by omega)) (ab (n+j)) (TB n hn j)
def A(L N:Nat):Nat->Nat->Nat
 |0,_=>0
 |d+1,s=>A L N d s*N+L/(d+1)*s^(d+1)
def Mul(L d:Nat):Prop:=∀i,i<d->L/(i+1)*(i+1)=L
theorem Mul.pred{L d:Nat}(h:Mul L (d+1)):Mul L d:=fun i hi=>h i (by omega)
theorem A_0(L N:Nat):∀d,A L N d 0=0
 |0=>rfl
 |d+1=>by rw[A,A_0 L N d,YF];simp
theorem YbF(s:Nat):∀d,(s+1)^(d+1)<=s^(d+1)+(d+1)*(s+1)^d
 |0=>by simp
 |d+1=>by
  have ih:=Yu (s+1) (YbF s d)
  have h:=YM (show s<=s+1 by omega) (d+1)
  rw[YF (s+1) (d+1),YF s (d+1)]
  have e:(s^(d+1)+(d+1)*(s+1)^d)*(s+1)=s^(d+1)*s+s^(d+1)+(d+1)*((s+1)^d*(s+1)):=by grind
  rw[YF (s+1) d]at*
  have e2:(d+1+1)*((s+1)^d*(s+1))=(d+1)*((s+1)^d*(s+1))+(s+1)^d*(s+1):=by grind
  omega
theorem YbC(s:Nat):∀d,s^(d+1)+(d+1)*s^d<=(s+1)^(d+1)
 |0=>by simp
 |d+1=>by
  have ih:=Yu (s+1) (YbC s d)
  rw[YF (s+1) (d+1),YF s (d+1)]
  have e:(s^(d+1)+(d+1)*s^d)*(s+1)=s^(d+1)*s+s^(d+1)+(d+1)*(s^d*s)+(d+1)*s^d:=by grind
  rw[YF s d]at*
  have e2:(d+1+1)*(s^d*s)=(d+1)*(s^d*s)+s^d*s:=by grind
  omega
theorem RQ(L v s:Nat):∀d,Mul L d->v*A L (v+s+1) d (s+1)+L*(s+1)^d<=v*A L (v+s+1) d s+L*(v+s+1)^d
 |0,_=>by simp [A]
 |d+1,hL=>by
  have ih:=Yu (v+s+1) (RQ L v s d hL.pred)
  have ht:=hL d (by omega)
  have hp:=Yz (v*(L/(d+1))) (YbF s d)
  rw[A,A,YF (v+s+1)]
  generalize A L (v+s+1) d (s+1)=x at*
  generalize A L (v+s+1) d s=y at*
  generalize L/(d+1)=t at*
  rw[YF (s+1)]at*
  generalize(s+1)^d=p at*
  generalize s^(d+1)=q at*
  generalize(v+s+1)^d=r at*
  have e1:v*t*(q+(d+1)*p)=v*t*q+v*p*(t*(d+1)):=by grind
  rw[e1,ht]at hp
  grind
theorem RO(L w s:Nat):∀d,Mul L d->w*A L (w+s) d s+L*(w+s)^d<=w*A L (w+s) d (s+1)+L*s^d
 |0,_=>by simp [A]
 |d+1,hL=>by
  have ih:=Yu (w+s) (RO L w s d hL.pred)
  have ht:=hL d (by omega)
  have hp:=Yz (w*(L/(d+1))) (YbC s d)
  rw[A,A,YF (w+s)]
  generalize A L (w+s) d (s+1)=x at*
  generalize A L (w+s) d s=y at*
  generalize L/(d+1)=t at*
  rw[YF s]at*
  generalize(s+1)^(d+1)=p at*
  generalize s^d=q at*
  generalize(w+s)^d=r at*
  have e1:w*t*(q*s+(d+1)*q)=w*t*(q*s)+w*q*(t*(d+1)):=by grind
  rw[e1,ht]at hp
  grind
theorem Cr(L N:Nat){s t:Nat}(h:s<=t):∀d,A L N d s<=A L N d t
 |0=>Yr _
 |d+1=>Nat.add_le_add (Yu _ (Cr L N h d)) (Yz _ (YM h _))
theorem YnF{K n a W:Nat}(h:(n+1)*a<=W):(K+1)^(K*a)*n^W<=(n+1)^W*K^(K*a):=by
 have h1:=YM (IU K n) a
 rw[Yt,Yt,<-Yl,<-Yl,<-Yl,<-Yl]at h1
 obtain⟨r,rfl⟩:∃r,W=(n+1)*a+r:=⟨W-(n+1)*a,by omega⟩
 rw[Yo,Yo]
 have h2:=YP h1 (YM (show n<=n+1 by omega) r)
 refine Yj (YB ?_) (Yj h2 (YB ?_)) <;> ac_rfl
theorem YnC{K n a W:Nat}(hn:0<n)(h:W<=n*a):(n+1)^W*K^((K+1)*a)<=(K+1)^((K+1)*a)*n^W:=by
 have h1:=YM (IU n K) a
 rw[Yt,Yt,<-Yl,<-Yl,<-Yl,<-Yl]at h1
 obtain⟨r,hr⟩:∃r,n*a=W+r:=⟨n*a-W,by omega⟩
 rw[hr,Yo,Yo]at h1
 have h2:=YM (show n<=n+1 by omega) r
 refine Kr (c:=n^r) ?_ (YD hn)
 have h3:=Yz ((n+1)^W*K^((K+1)*a)) h2
 refine Yj h3 (Yj (YB ?_) (Yj h1 (YB ?_))) <;> ac_rfl
theorem YcS(L K N d:Nat)(hL:Mul L d):∀s,s+1<=N->(K+1)^(K*A L N d s)*(N-1-s)^(L*N^d)<=(N-1)^(L*N^d)*K^(K*A L N d s)
 |0,_=>by rw[A_0];simp
 |s+1,hs=>by
  have ih:=YcS L K N d hL s (by omega)
  obtain⟨n,rfl⟩:∃n,N=n+s+2:=⟨N-s-2,by omega⟩
  have hu:=RQ L (n+1) s d hL
  rw[show n+1+s+1=n+s+2 by omega]at hu
  have hm:=Cr L (n+s+2) (show s<=s+1 by omega) d
  rw[show n+s+2-1-s=n+1 by omega]at ih
  rw[show n+s+2-1-(s+1)=n by omega]
  obtain⟨a,ha⟩:∃a,A L (n+s+2) d (s+1)=A L (n+s+2) d s+a:=⟨_,(Nat.add_sub_cancel' hm).symm⟩
  rw[ha,Y9]at hu
  have h1:=YnF (K:=K) (n:=n) (a:=a) (W:=L*(n+s+2)^d) (by omega)
  rw[ha,Y9,Yo,Yo]
  refine Kr (c:=(n+1)^(L*(n+s+2)^d)) ?_ (YD (by omega))
  have h2:=YP ih h1
  refine Yj (YB ?_) (Yj h2 (YB ?_)) <;> ac_rfl
theorem YcR(L K N d T S:Nat)(hL:Mul L d)(hS:S<N)(hT:L*S^d<=T*(N-S)):∀s,s<=S->(N+1)^(L*N^d)*K^((K+1)*(A L N d s+T*s))<=(K+1)^((K+1)*(A L N d s+T*s))*(N+1-s)^(L*N^d)
 |0,_=>by rw[A_0];simp
 |s+1,hs=>by
  have ih:=YcR L K N d T S hL hS hT s (by omega)
  obtain⟨n,rfl⟩:∃n,N=n+s:=⟨N-s,by omega⟩
  have hd:=RO L n s d hL
  have hm:=Cr L (n+s) (show s<=s+1 by omega) d
  obtain⟨a,ha⟩:∃a,A L (n+s) d (s+1)=A L (n+s) d s+a:=⟨_,(Nat.add_sub_cancel' hm).symm⟩
  rw[ha,Y9]at hd
  have hp:L*s^d<=T*n:=Yj (Yz _ (YM (by omega) _)) (Yj hT (Yz _ (by omega)))
  rw[show n+s+1-s=n+1 by omega]at ih
  rw[show n+s+1-(s+1)=n by omega]
  have h1:=YnC (K:=K) (n:=n) (a:=a+T) (W:=L*(n+s)^d) (by omega) (by rw[Y9,Yk n T];omega)
  have e:A L (n+s) d (s+1)+T*(s+1)=A L (n+s) d s+T*s+(a+T):=by rw[ha,Y9];omega
  rw[e,Y9 (K+1),Yo,Yo]
  refine Kr (c:=(n+1)^(L*(n+s)^d)) ?_ (YD (by omega))
  have h2:=YP ih h1
  refine Yj (YB ?_) (Yj h2 (YB ?_)) <;> ac_rfl
theorem Cq(L N M u:Nat):∀d,A L (N*M) d (u*M)=M^d*A L N d u
 |0=>by simp [A]
 |d+1=>by
  rw[A,A,Cq L N M u d,Yt]
  generalize A L N d u=x
  generalize L/(d+1)=t
  rw[YF M,Y9]
  congr 1 <;> ac_rfl
theorem lim{X Y W:Nat}(h:∀M,0<M->Y*M^W<=X*(M+1)^W):Y<=X:=by
 refine ZK fun hlt=>?_
 have h1:=h (Y*W+W+1) (by omega)
 obtain⟨M,hM⟩:∃M,M=Y*W+W+1:=⟨_,rfl⟩
 rw[<-hM]at h1
 have h2:=Ew M W
 have hp:0<M^W:=YD (by omega)
 have k1:=Yu (M+1-W) h1
 have k2:=Yz X h2
 have k3:Y*(M+1-W)<=X*(M+1):=by
  refine WV (c:=M^W) ?_ hp
  refine Yj (YB ?_) (Yj k1 (Yj (YB ?_) (Yj k2 (YB ?_)))) <;> ac_rfl
 have k4:=Yu (M+1) (show X+1<=Y from hlt)
 rw[Nat.mul_sub]at k3
 rw[YN]at k4
 have:Y*W<M+1:=by omega
 omega
theorem Gv{a b n:Nat}(hn:0<n)(h:a^n<=b^n):a<=b:=(XY (by omega)).1 h
theorem YaE{L K N d u:Nat}(hL:Mul L d)(hu:u<N):(K+1)^(K*A L N d u)*(N-u)^(L*N^d)<=N^(L*N^d)*K^(K*A L N d u):=by
 have h1:∀M,0<M->(K+1)^(K*A L N d u)*(N*M-1-u*M)^(L*N^d)<=(N*M-1)^(L*N^d)*K^(K*A L N d u):=fun M hM=>by
  have h:=YcS L K (N*M) d hL (u*M) (by have:=ZL hu hM;omega)
  rw[Cq]at h
  have e1:K*(M^d*A L N d u)=K*A L N d u*M^d:=by ac_rfl
  have e2:L*(N*M)^d=L*N^d*M^d:=by rw[Yt];ac_rfl
  rw[e1,e2,Yl _ _ (M^d),Yl _ _ (M^d),Yl _ _ (M^d),Yl _ _ (M^d),<-Yt,<-Yt]at h
  exact Gv (YD hM) h
 refine lim (W:=L*N^d) fun M hM=>?_
 have h:=h1 (M+1) (by omega)
 obtain⟨v,rfl⟩:∃v,N=v+u+1:=⟨N-u-1,by omega⟩
 have e1:v+u+1-u=v+1:=by omega
 have e2:(v+u+1)*(M+1)-1-u*(M+1)=(v+1)*M+v:=by
  have:(v+u+1)*(M+1)=(v+1)*M+v+1+u*(M+1):=by grind
  omega
 rw[e2]at h
 rw[e1]
 have k1:((v+1)*M)^(L*(v+u+1)^d)<=((v+1)*M+v)^(L*(v+u+1)^d):=YM (by omega) _
 have k2:((v+u+1)*(M+1)-1)^(L*(v+u+1)^d)<=((v+u+1)*(M+1))^(L*(v+u+1)^d):=YM (by omega) _
 rw[Yt]at k1 k2
 generalize L*(v+u+1)^d=W at*
 have k3:=Yz ((K+1)^(K*A L (v+u+1) d u)) k1
 have k4:=Yu (K^(K*A L (v+u+1) d u)) k2
 refine Yj (YB ?_) (Yj k3 (Yj h (Yj k4 (YB ?_)))) <;> ac_rfl
theorem YaD{L K N d u t:Nat}(hL:Mul L (d+1))(hu:u<N)(ht:L*u^(d+1)<=t*(N-u)):N^(L*N^(d+1))*K^((K+1)*(A L N (d+1) u+t*u))<=(K+1)^((K+1)*(A L N (d+1) u+t*u))*(N-u)^(L*N^(d+1)):=by
 have h1:∀M,0<M->(N*M+1)^(L*N^(d+1))*K^((K+1)*(A L N (d+1) u+t*u))<=(K+1)^((K+1)*(A L N (d+1) u+t*u))*(N*M+1-u*M)^(L*N^(d+1)):=fun M hM=>by
  have h:=YcR L K (N*M) (d+1) (t*M^d) (u*M) hL (ZL hu hM) (by
   rw[<-Nat.sub_mul,Yt]
   have:=Yu (M^(d+1)) ht
   refine Yj (YB ?_) (Yj this (YB ?_))
   ·ac_rfl
   ·rw[YF];ac_rfl) (u*M) (Yr _)
  rw[Cq]at h
  have e1:(K+1)*(M^(d+1)*A L N (d+1) u+t*M^d*(u*M))=(K+1)*(A L N (d+1) u+t*u)*M^(d+1):=by
   have:t*M^d*(u*M)=M^(d+1)*(t*u):=by rw[YF];ac_rfl
   rw[this,<-Y9];ac_rfl
  have e2:L*(N*M)^(d+1)=L*N^(d+1)*M^(d+1):=by rw[Yt];ac_rfl
  rw[e1,e2,Yl _ _ (M^(d+1)),Yl _ _ (M^(d+1)),Yl _ _ (M^(d+1)),Yl _ _ (M^(d+1)),<-Yt,<-Yt]at h
  exact Gv (YD hM) h
 refine lim (W:=L*N^(d+1)) fun M hM=>?_
 have h:=h1 M hM
 obtain⟨v,rfl⟩:∃v,N=v+u+1:=⟨N-u-1,by omega⟩
 have e1:v+u+1-u=v+1:=by omega
 have e2:(v+u+1)*M+1-u*M=(v+1)*M+1:=by
  have:(v+u+1)*M=(v+1)*M+u*M:=by grind
  omega
 rw[e2]at h
 rw[e1]
 generalize(K+1)*(A L (v+u+1) (d+1) u+t*u)=e at*
 have k1:((v+u+1)*M)^(L*(v+u+1)^(d+1))<=((v+u+1)*M+1)^(L*(v+u+1)^(d+1)):=YM (by omega) _
 have k2:((v+1)*M+1)^(L*(v+u+1)^(d+1))<=((v+1)*(M+1))^(L*(v+u+1)^(d+1)):=YM (by rw[Y9];omega) _
 rw[Yt]at k1 k2
 generalize L*(v+u+1)^(d+1)=W at*
 have k3:=Yu (K^e) k1
 have k4:=Yz ((K+1)^e) k2
 refine Yj (YB ?_) (Yj k3 (Yj h (Yj k4 (YB ?_)))) <;> ac_rfl
end Go.Proofs.YtlhmikjnholpnaaGreatDoor.LS
set_option maxRecDepth 100000
namespace Go.Proofs.YtlhmikjnholpnaaGreatDoor.LS
def Lo(B x y l:Nat):Prop:=(B*B+1)^(B*l)*y<=x*(B*B)^(B*l)
def Hi(B x y h:Nat):Prop:=x*(B*B)^(B*h)<=(B*B+1)^(B*h)*y
theorem Lo.mul{B x y l x' y' l':Nat}(h:Lo B x y l)(h':Lo B x' y' l'):Lo B (x*x') (y*y') (l+l'):=by
 unfold Lo at*
 rw[Y9,Yo,Yo]
 refine Yj (YB ?_) (Yj (YP h h') (YB ?_)) <;> ac_rfl
theorem Hi.mul{B x y l x' y' l':Nat}(h:Hi B x y l)(h':Hi B x' y' l'):Hi B (x*x') (y*y') (l+l'):=by
 unfold Hi at*
 rw[Y9,Yo,Yo]
 refine Yj (YB ?_) (Yj (YP h h') (YB ?_)) <;> ac_rfl
theorem Lo.cancel{B x y l z:Nat}(hz:0<z)(h:Lo B (x*z) (y*z) l):Lo B x y l:=by
 unfold Lo at*
 refine Kr (c:=z) ?_ hz
 refine Yj (YB ?_) (Yj h (YB ?_)) <;> ac_rfl
theorem Hi.cancel{B x y l z:Nat}(hz:0<z)(h:Hi B (x*z) (y*z) l):Hi B x y l:=by
 unfold Hi at*
 refine Kr (c:=z) ?_ hz
 refine Yj (YB ?_) (Yj h (YB ?_)) <;> ac_rfl
theorem Lo.mono{B x y l l':Nat}(hB:0<B)(h:Lo B x y l)(hl:l'<=l):Lo B x y l':=by
 unfold Lo at*
 obtain⟨r,rfl⟩:∃r,l=l'+r:=⟨l-l',by omega⟩
 rw[Y9,Yo,Yo]at h
 have h2:=YM (show B*B<=B*B+1 by omega) (B*r)
 have hp:0<(B*B)^(B*r):=YD (Y3 hB hB)
 refine Kr (c:=(B*B)^(B*r)) ?_ hp
 have h3:=Yz ((B*B+1)^(B*l')*y) h2
 refine Yj h3 (Yj (YB ?_) (Yj h (YB ?_))) <;> ac_rfl
theorem Hi.mono{B x y l l':Nat}(hB:0<B)(h:Hi B x y l)(hl:l<=l'):Hi B x y l':=by
 unfold Hi at*
 obtain⟨r,rfl⟩:∃r,l'=l+r:=⟨l'-l,by omega⟩
 rw[Y9,Yo,Yo]
 have h2:=YM (show B*B<=B*B+1 by omega) (B*r)
 have h3:=YP h h2
 refine Yj (YB ?_) (Yj h3 (YB ?_)) <;> ac_rfl
theorem Lo.half{B x y l m:Nat}(hB:0<B)(h:Lo B (x*x) (y*y) l)(hm:2*m<=l):Lo B x y m:=by
 have h:=Lo.mono hB h hm
 unfold Lo at*
 generalize B*B=K at*
 refine Gv (n:=2) (by decide) ?_
 rw[show B*(2*m)=B*m*2 by ac_rfl,Yl _ _ 2,Yl _ _ 2]at h
 rw[Yt,Yt,Nat.pow_two x,Nat.pow_two y]
 exact h
theorem Hi.half{B x y l m:Nat}(hB:0<B)(h:Hi B (x*x) (y*y) l)(hm:l<=2*m):Hi B x y m:=by
 have h:=Hi.mono hB h hm
 unfold Hi at*
 generalize B*B=K at*
 refine Gv (n:=2) (by decide) ?_
 rw[show B*(2*m)=B*m*2 by ac_rfl,Yl _ _ 2,Yl _ _ 2]at h
 rw[Yt,Yt,Nat.pow_two x,Nat.pow_two y]
 exact h
theorem Lo.one(B:Nat):Lo B 1 1 0:=by unfold Lo;simp
theorem Hi.one(B:Nat):Hi B 1 1 0:=by unfold Hi;simp
theorem Br:∀d,∃L,0<L/\Mul L d
 |0=>⟨1,by decide,fun i hi=>absurd hi (QC _)⟩
 |d+1=>by
  obtain⟨L,h0,h⟩:=Br d
  refine⟨L*(d+1),Y3 h0 (by omega),fun i hi=>?_⟩
  have hd:(i+1)∣L*(d+1):=by
   rcases YV i d with h1|h1
   ·exact JM ⟨L/(i+1),by rw[Yk];exact(h i h1).symm⟩ (Nat.dvd_mul_right _ _)
   ·obtain rfl:i=d:=by omega
    exact Nat.dvd_mul_left _ _
  exact Nat.div_mul_cancel hd
theorem Ymo{B L N d u l:Nat}(hB:0<B)(h0:0<L)(hL:Mul L d)(hu:u<N)(h:l*(L*N^d)<=B*A L N d u):Lo B N (N-u) l:=by
 have h1:=YaE (K:=B*B) hL hu
 have hW:0<L*N^d:=Y3 h0 (YD (by omega))
 obtain⟨r,hr⟩:∃r,B*B*A L N d u=B*l*(L*N^d)+r:=by
  have:=Yz B h
  refine⟨B*B*A L N d u-B*l*(L*N^d),?_⟩
  rw[Yx,Yx]at*
  omega
 rw[hr,Yo,Yo]at h1
 generalize L*N^d=W at*
 unfold Lo
 refine Gv hW ?_
 have hK:0<B*B:=Y3 hB hB
 generalize B*B=K at*
 rw[Yt,Yt,<-Yl,<-Yl]
 have h2:=YM (show K<=K+1 by omega) r
 have hp:0<K^r:=YD hK
 refine Kr (c:=K^r) ?_ hp
 have h3:=Yz ((K+1)^(B*l*W)*(N-u)^W) h2
 refine Yj h3 (Yj (YB ?_) (Yj h1 (YB ?_))) <;> ac_rfl
theorem YkD{B L N d u t l:Nat}(hB:0<B)(h0:0<L)(hL:Mul L (d+1))(hu:u<N)(ht:L*u^(d+1)<=t*(N-u))(h:B*(A L N (d+1) u+t*u)<=l*(L*N^(d+1)))(hl:l<=B):Hi B N (N-u) (l+1):=by
 have h1:=YaD (K:=B*B) hL hu ht
 have hW:0<L*N^(d+1):=Y3 h0 (YD (by omega))
 generalize A L N (d+1) u+t*u=a at*
 generalize L*N^(d+1)=W at*
 have ha:a<=B*W:=by
  have k1:1*a<=B*a:=Yu a hB
  have k2:=Yu W hl
  omega
 obtain⟨r,hr⟩:∃r,B*(l+1)*W=(B*B+1)*a+r:=by
  have k1:=Yz B h
  have e1:B*(l+1)*W=B*(l*W)+B*W:=by rw[Y9,Kb,YN,Yx]
  have e2:(B*B+1)*a=B*(B*a)+a:=by rw[YN,Kc,Yx]
  exact⟨B*(l+1)*W-(B*B+1)*a,by omega⟩
 unfold Hi
 refine Gv hW ?_
 generalize B*B=K at*
 rw[Yt,Yt,<-Yl,<-Yl,hr,Yo,Yo]
 have h2:=YM (show K<=K+1 by omega) r
 have h3:=YP h1 h2
 refine Yj (YB ?_) (Yj h3 (YB ?_)) <;> ac_rfl
def S(B N:Nat):Nat->Nat
 |0=>0
 |d+1=>S B N d+B/N^(d+1)/(d+1)
end Go.Proofs.YtlhmikjnholpnaaGreatDoor.LS
set_option maxRecDepth 100000
namespace Go.Proofs.YtlhmikjnholpnaaGreatDoor.LS
def G(B N:Nat):Nat->Nat->Nat
 |0,y=>y
 |k+1,y=>G B N k ((B/(k+1)+y)/N)
theorem RT(B L N:Nat):∀k y,Mul L k->G B N k y*(L*N^k)<=B*A L N k 1+L*y
 |0,y,_=>by simp [G,A,Yk]
 |k+1,y,hL=>by
  have ih:=Yu N (RT B L N k ((B/(k+1)+y)/N) hL.pred)
  have ht:=hL k (by omega)
  have h1:=Yz L (XW (B/(k+1)+y) N)
  have h2:=Yz (L/(k+1)) (XW B (k+1))
  rw[G,A,Nat.one_pow,Kb]
  generalize(B/(k+1)+y)/N=z at*
  generalize B/(k+1)=q at*
  generalize A L N k 1=a at*
  generalize L/(k+1)=t at*
  have e1:G B N k z*(L*N^(k+1))=G B N k z*(L*N^k)*N:=by rw[YF];ac_rfl
  have e2:t*(q*(k+1))=t*(k+1)*q:=by ac_rfl
  rw[e2,ht]at h2
  rw[e1]
  grind
theorem RS(B L N:Nat)(hN:2<=N):∀k y,Mul L k->B*A L N k 1+L*(y+2)<=(G B N k y+2)*(L*N^k)
 |0,y,_=>by simp [G,A,Yk]
 |k+1,y,hL=>by
  have ih:=Yu N (RS B L N hN k ((B/(k+1)+y)/N) hL.pred)
  have ht:=hL k (by omega)
  have h1:B/(k+1)+y+1<=(B/(k+1)+y)/N*N+N:=by
   have:=KO (B/(k+1)+y) N
   have:=Kj (B/(k+1)+y) (show 0<N by omega)
   rw[Yk ((B/(k+1)+y)/N)];omega
  have h2:B<=(B/(k+1)+1)*(k+1):=by
   have:=KO B (k+1)
   have:=Kj B (show 0<k+1 by omega)
   rw[YN,Kc,Yk (B/(k+1))];omega
  rw[G,A,Nat.one_pow,Kb]
  generalize(B/(k+1)+y)/N=z at*
  generalize B/(k+1)=q at*
  generalize A L N k 1=a at*
  have k2:=Yz (L/(k+1)) h2
  generalize L/(k+1)=t at*
  have e1:(G B N k z+2)*(L*N^(k+1))=(G B N k z+2)*(L*N^k)*N:=by rw[YF];ac_rfl
  have e2:t*((q+1)*(k+1))=t*(k+1)*(q+1):=by ac_rfl
  rw[e2,ht]at k2
  rw[e1]
  have k1:=Yz L (show q+1+y+2<=(z+2)*N by grind)
  generalize(G B N k z+2)*(L*N^k)=g at*
  grind
theorem G_is{B N d:Nat}(hB:0<B)(hN:2<=N)(hz:B<=N^(d+1))(hs:G B N (d+1) 0+3<=B):Lo B N (N-1) (G B N (d+1) 0)/\Hi B N (N-1) (G B N (d+1) 0+4):=by
 obtain⟨L,h0,hL⟩:=Br (d+1)
 have h1:=RT B L N (d+1) 0 hL
 have h2:=RS B L N hN (d+1) 0 hL
 rw[Wf,Kw]at h1
 refine⟨Ymo hB h0 hL (by omega) h1,YkD (t:=L) (l:=G B N (d+1) 0+3) hB h0 hL (by omega) ?_ ?_ hs⟩
 ·rw[Nat.one_pow];exact Yz _ (by omega)
 ·have h3:B*L<=L*N^(d+1):=by rw[Yk];exact Yz _ hz
  rw[Kb,Y9,show G B N (d+1) 0+3=G B N (d+1) 0+2+1 by omega,YN (G B N (d+1) 0+2),Kc]
  omega
def hor(B N:Nat)(n:Nat):Nat->Nat:=
 Nat.rec (fun y=>y) (fun k ih y=>(fun b=>ih
  (Jm (Kf (Jm B (Kf b 1)) (Jm (Kf (Jm B (Kf b 2)) (Jm (Kf (Jm B (Kf b 3)) (Jm (Kf (Jm B (Kf b 4))
  (Jm (Kf (Jm B (Kf b 5)) (Jm (Kf (Jm B (Kf b 6)) (Jm (Kf (Jm B (Kf b 7)) (Jm (Kf (Jm B (Kf b 8)) y) N)) N)) N)) N)) N)) N)) N)) N)) (K5 8 k)) n
theorem OU(B N:Nat):∀n y,hor B N n y=G B N (8*n) y
 |0,_=>rfl
 |n+1,y=>by
  have h:hor B N (n+1) y=hor B N n ((B/(8*n+1)+(B/(8*n+2)+(B/(8*n+3)+(B/(8*n+4)+(B/(8*n+5)+(B/(8*n+6)+(B/(8*n+7)+(B/(8*n+8)+y)/N)/N)/N)/N)/N)/N)/N)/N):=rfl
  rw[h,OU B N n]
  rfl
def ser(B d N:Nat)(κ:Nat->Bool):Bool:=(fun y=>Bool.casesOn (Y8 B (Kx N (K5 8 d))) false (Bool.casesOn (Y8 (Kf y 4) B) false (κ y))) (hor B N d 0)
theorem YcT{B d N:Nat}{κ:Nat->Bool}(hB:2<=B)(hN:2<=N)(h:ser B d N κ=true):∃y,Lo B N (N-1) y/\Hi B N (N-1) (y+4)/\κ y=true:=by
 have h:Bool.casesOn (motive:=fun _=>Bool) (Y8 B (N^(8*d))) false (Bool.casesOn (Y8 (hor B N d 0+4) B) false (κ (hor B N d 0)))=true:=h
 cases h1:Y8 B (N^(8*d))with
 |false=>rw[h1]at h;cases h
 |true=>
  rw[h1]at h
  have h:Bool.casesOn (motive:=fun _=>Bool) (Y8 (hor B N d 0+4) B) false (κ (hor B N d 0))=true:=h
  cases h2:Y8 (hor B N d 0+4) B with
  |false=>rw[h2]at h;cases h
  |true=>
   rw[h2]at h
   have h1:=KI h1
   have h2:=KI h2
   rw[OU]at h2 h
   obtain⟨e,he⟩:∃e,8*d=e+1:=by
    cases d with
    |zero=>rw[Wf,JO]at h1;omega
    |succ d=>exact⟨8*d+7,by omega⟩
   rw[he]at h1 h2 h
   obtain⟨a,b⟩:=G_is (by omega) hN h1 (by omega)
   exact⟨_,a,b,h⟩
def St(B a la lb e:Nat):Prop:=(Lo B a 1 la/\Hi B a 1 (la+e))/\Lo B (a+1) 1 lb/\Hi B (a+1) 1 (lb+e)
def Two(B l2:Nat):Prop:=Lo B 2 1 l2/\Hi B 2 1 (l2+4)
theorem Ygi{B a la lb e l2 y:Nat}(hB:0<B)(ha:1<=a)(h:St B a la lb e)(h2:Two B l2)(hy:Lo B ((2*a+1)*(2*a+1)) ((2*a+1)*(2*a+1)-1) y/\Hi B ((2*a+1)*(2*a+1)) ((2*a+1)*(2*a+1)-1) (y+4)):
 Lo B (2*a+1) 1 ((la+lb+(l2+l2)+y)/2)/\Hi B (2*a+1) 1 ((la+lb+(l2+l2)+y)/2+(e+7)):=by
 have e1:(2*a+1)*(2*a+1)-1=2*2*a*(a+1):=by
  have:(2*a+1)*(2*a+1)=2*2*a*(a+1)+1:=by grind
  omega
 rw[e1]at hy
 have hz:0<2*2*a*(a+1):=Y3 (Y3 (by decide) ha) (by omega)
 constructor
 ·have k:=Lo.mul (Lo.mul (Lo.mul h.1.1 h.2.1) (Lo.mul h2.1 h2.1)) hy.1
  have k2:Lo B ((2*a+1)*(2*a+1)*(2*2*a*(a+1))) (1*(2*2*a*(a+1))) (la+lb+(l2+l2)+y):=by
   unfold Lo at*
   refine Yj (YB ?_) (Yj k (YB ?_))
   ·simp only[Kc,Kb]
   ·ac_rfl
  exact Lo.half hB (Lo.cancel hz k2) (by omega)
 ·have k:=Hi.mul (Hi.mul (Hi.mul h.1.2 h.2.2) (Hi.mul h2.2 h2.2)) hy.2
  have k2:Hi B ((2*a+1)*(2*a+1)*(2*2*a*(a+1))) (1*(2*2*a*(a+1))) (la+e+(lb+e)+(l2+4+(l2+4))+(y+4)):=by
   unfold Hi at*
   refine Yj (YB ?_) (Yj k (YB ?_))
   ·ac_rfl
   ·simp only[Kc,Kb]
  exact Hi.half hB (Hi.cancel hz k2) (by omega)
theorem Iu{B a l e l2:Nat}(hB:0<B)(h:Lo B a 1 l/\Hi B a 1 (l+e))(h2:Two B l2):Lo B (2*a) 1 (l+l2)/\Hi B (2*a) 1 (l+l2+(e+7)):=by
 have k1:=Lo.mul h.1 h2.1
 have k2:=Hi.mul h.2 h2.2
 rw[Yk a 2]at k1 k2
 exact⟨k1,Hi.mono hB k2 (by omega)⟩
theorem St_l{B a la lb e l2 lm:Nat}(hB:0<B)(h:St B a la lb e)(h2:Two B l2)(hm:Lo B (2*a+1) 1 lm/\Hi B (2*a+1) 1 (lm+(e+7))):St B (2*a) (la+l2) lm (e+7):=⟨Iu hB h.1 h2,hm⟩
theorem St_r{B a la lb e l2 lm:Nat}(hB:0<B)(h:St B a la lb e)(h2:Two B l2)(hm:Lo B (2*a+1) 1 lm/\Hi B (2*a+1) 1 (lm+(e+7))):St B (2*a+1) lm (lb+l2) (e+7):=by
 have:=Iu hB h.2 h2
 exact⟨hm,this⟩
def ET(B c l2:Nat)(f:Nat):Nat->Nat->(Nat->Nat->Nat->Bool)->Bool:=
 Nat.rec (fun _ _ _=>false) (fun _ ih s a κ=>Bool.casesOn (Y8 a 1)
  (ih (Nat.pred s) (Jm a 2) (fun la lb e=>(fun m=>ser B (Nat.succ (Jm c s)) (K5 m m) (fun y=>(fun lm=>(fun e=>Bool.casesOn (YL (KZ a 2) 0) (κ lm (Kf lb l2) e) (κ (Kf la l2) lm e)) (Kf e 7)) (Jm (Kf (Kf (Kf la lb) (Kf l2 l2)) y) 2))) (Nat.succ (K5 2 (Jm a 2)))))
  (κ 0 l2 4)) f
theorem Iy{B c l2:Nat}(hB:2<=B)(h2:Two B l2):∀(f s a:Nat)(κ:Nat->Nat->Nat->Bool),1<=a->ET B c l2 f s a κ=true->∃la lb e,St B a la lb e/\κ la lb e=true
 |0,_,_,_,_,h=>by cases h
 |f+1,s,a,κ,ha,h=>by
  have h:Bool.casesOn (motive:=fun _=>Bool) (Y8 a 1) (ET B c l2 f (s-1) (a/2) (fun la lb e=>ser B (c/s+1) ((2*(a/2)+1)*(2*(a/2)+1)) (fun y=>Bool.casesOn (motive:=fun _=>Bool) (YL (a%2) 0) (κ ((la+lb+(l2+l2)+y)/2) (lb+l2) (e+7)) (κ (la+l2) ((la+lb+(l2+l2)+y)/2) (e+7))))) (κ 0 l2 4)=true:=h
  cases hb:Y8 a 1 with
  |true=>
   rw[hb]at h
   have:=KI hb
   obtain rfl:a=1:=by omega
   refine⟨0,l2,4,⟨⟨Lo.one B,?_⟩,h2.1,h2.2⟩,h⟩
   exact Hi.mono (by omega) (Hi.one B) (by omega)
  |false=>
   rw[hb]at h
   have ha2:2<=a:=Nat.lt_of_not_le fun hh=>by rw[Nat.ble_eq_true_of_le hh]at hb;cases hb
   obtain⟨la,lb,e,hs,h⟩:=Iy hB h2 f _ _ _ (by omega) h
   have hN:2<=(2*(a/2)+1)*(2*(a/2)+1):=Yj (show 2<=3*1 by decide) (YP (by omega) (by omega))
   obtain⟨y,y1,y2,h⟩:=YcT hB hN h
   have hmid:=Ygi (by omega) (show 1<=a/2 by omega) hs h2 ⟨y1,y2⟩
   generalize(la+lb+(l2+l2)+y)/2=lm at*
   cases hc:YL (a%2) 0 with
   |true=>
    simp only[hc]at h
    have h0:=JE hc
    have:=St_l (by omega) hs h2 hmid
    rw[show 2*(a/2)=a by omega]at this
    exact⟨_,_,_,this,h⟩
   |false=>
    simp only[hc]at h
    have h0:a%2≠0:=fun e=>by rw[e]at hc;cases hc
    have:=St_r (by omega) hs h2 hmid
    rw[show 2*(a/2)+1=a by omega]at this
    exact⟨_,_,_,this,h⟩
end Go.Proofs.YtlhmikjnholpnaaGreatDoor.LS
set_option maxRecDepth 100000
namespace Go.Proofs.YtlhmikjnholpnaaGreatDoor.LS
theorem Lo.pow{B x l:Nat}(h:Lo B x 1 l)(q:Nat):Lo B (x^q) 1 (l*q):=by
 unfold Lo at*
 have h2:=YM h q
 generalize B*B=K at*
 rw[Yt,Yt,Nat.one_pow,<-Yl,<-Yl,Yx]at h2
 exact h2
theorem Hi.pow{B x l:Nat}(h:Hi B x 1 l)(q:Nat):Hi B (x^q) 1 (l*q):=by
 unfold Hi at*
 have h2:=YM h q
 generalize B*B=K at*
 rw[Yt,Yt,Nat.one_pow,<-Yl,<-Yl,Yx]at h2
 exact h2
theorem cmp{B x y h l:Nat}(hB:0<B)(h1:Hi B x 1 h)(h2:Lo B y 1 l)(hl:h<=l):x<=y:=by
 have h2:=Lo.mono hB h2 hl
 unfold Lo Hi at*
 rw[Kb]at h1 h2
 exact Kr (Yj h1 h2) (YD (Y3 hB hB))
end Go.Proofs.YtlhmikjnholpnaaGreatDoor.LS
set_option maxRecDepth 100000
namespace Go.Proofs.YtlhmikjnholpnaaGreatDoor.LT
open Go.Proofs.YtlhmikjnholpnaaGreatDoor.LS
def pk(w:Nat)(f:Nat->Nat):Nat->Nat
 |0=>0
 |n+1=>pk w f n+f n*2^(w*n)
theorem Ad(w:Nat)(f g:Nat->Nat):∀n,pk w f n+pk w g n=pk w (fun i=>f i+g i) n
 |0=>rfl
 |n+1=>by
  have:=Ad w f g n
  simp only[pk]
  rw[YN,<-this]
  omega
theorem Ae(w c:Nat)(f:Nat->Nat):∀n,c*pk w f n=pk w (fun i=>c*f i) n
 |0=>by simp [pk]
 |n+1=>by
  have:=Ae w c f n
  simp only[pk]
  rw[Y9,this,Yx]
theorem Nd{w:Nat}{f g:Nat->Nat}:∀{n},(∀i,i<n->f i=g i)->pk w f n=pk w g n
 |0,_=>rfl
 |n+1,h=>by simp only[pk];rw[Nd fun i hi=>h i (by omega),h n (by omega)]
theorem YnU{w:Nat}{f g:Nat->Nat}{n:Nat}(h:∀i,i<n->g i<=f i):pk w f n-pk w g n=pk w (fun i=>f i-g i) n:=by
 have h1:=Ad w (fun i=>f i-g i) g n
 have h2:pk w (fun i=>f i-g i+g i) n=pk w f n:=Nd fun i hi=>by have:=h i hi;omega
 omega
theorem Fa{w:Nat}{f:Nat->Nat}:∀{n},(∀i,i<n->f i<2^w)->pk w f n<2^(w*n)
 |0,_=>by simp [pk]
 |n+1,h=>by
  have h1:=Fa (f:=f) (n:=n) fun i hi=>h i (by omega)
  have h2:=Yu (2^(w*n)) (show f n+1<=2^w from h n (by omega))
  rw[show w*(n+1)=w+w*n by rw[Y9];omega,Yo]
  simp only[pk]
  rw[YN]at h2
  omega
theorem Ybz(w:Nat)(f:Nat->Nat)(m:Nat):∀n,pk w f (m+n)=pk w f m+pk w (fun i=>f (m+i)) n*2^(w*m)
 |0=>by simp [pk]
 |n+1=>by
  rw[<-XV,pk,pk,Ybz w f m n,YN,Y9 w,Yo,Yk (2^(w*m)),Yx]
  omega
theorem Yq0{A a B b M:Nat}(hA:A<M)(hB:B<M)(h:A+a*M=B+b*M):A=B/\a=b:=by
 have h0:0<M:=by omega
 have h1:(A+a*M)/M=a:=by rw[Nat.add_mul_div_right _ _ h0,Qu hA];omega
 have h2:(B+b*M)/M=b:=by rw[Nat.add_mul_div_right _ _ h0,Qu hB];omega
 have h3:a=b:=by rw[<-h1,h,h2]
 subst h3
 exact⟨by omega,rfl⟩
theorem YbA{w:Nat}{f g:Nat->Nat}:∀{n},(∀i,i<n->f i<2^w)->(∀i,i<n->g i<2^w)->pk w f n=pk w g n->∀i,i<n->f i=g i
 |0,_,_,_,i,hi=>by omega
 |n+1,hf,hg,h,i,hi=>by
  simp only[pk]at h
  have:=Yq0 (Fa fun i hi=>hf i (by omega)) (Fa fun i hi=>hg i (by omega)) h
  by_cases c:i=n
  ·rw[c];exact this.2
  ·exact YbA (fun i hi=>hf i (by omega)) (fun i hi=>hg i (by omega)) this.1 i (by omega)
theorem Yh3{A a B b m:Nat}(hA:A<2^m)(hB:B<2^m):(A+a*2^m)&&&(B+b*2^m)=(A&&&B)+(a&&&b)*2^m:=by
 have h0:0<2^m:=Qv m
 have m1:∀{X x:Nat},X<2^m->(X+x*2^m)%2^m=X:=fun h=>by rw[Nat.add_mul_mod_self_right,Qg h]
 have d1:∀{X x:Nat},X<2^m->(X+x*2^m)/2^m=x:=fun {X x} h=>by rw[Nat.add_mul_div_right _ _ h0,Qu h];omega
 have hm:((A+a*2^m)&&&(B+b*2^m))%2^m=A&&&B:=by rw[Nat.and_mod_two_pow,m1 hA,m1 hB]
 have hd:((A+a*2^m)&&&(B+b*2^m))/2^m=a&&&b:=by rw[Nat.and_div_two_pow,d1 hA,d1 hB]
 have:=KO ((A+a*2^m)&&&(B+b*2^m)) (2^m)
 rw[hm,hd,Yk]at this
 omega
theorem Py{w:Nat}{f g:Nat->Nat}:∀{n},(∀i,i<n->f i<2^w)->(∀i,i<n->g i<2^w)->pk w f n&&&pk w g n=pk w (fun i=>f i&&&g i) n
 |0,_,_=>by simp [pk]
 |n+1,hf,hg=>by
  simp only[pk]
  rw[Yh3 (Fa fun i hi=>hf i (by omega)) (Fa fun i hi=>hg i (by omega)),Py (fun i hi=>hf i (by omega)) (fun i hi=>hg i (by omega))]
theorem YlA{x p q:Nat}(h:((x&&&2^p*(2^q-1))+2^p*(2^q-1))&&&2^(p+q)=2^(p+q)):1<=x/2^p%2^q:=by
 have e1:(x&&&2^p*(2^q-1))=2^p*(x/2^p%2^q):=by
  have hm:(x&&&2^p*(2^q-1))%2^p=0:=by rw[Nat.and_mod_two_pow,Nat.mul_mod_right,Nat.and_zero]
  have hd:(x&&&2^p*(2^q-1))/2^p=x/2^p%2^q:=by
   rw[Nat.and_div_two_pow,Nat.mul_div_cancel_left _ (Qv p),Nat.and_two_pow_sub_one_eq_mod]
  have:=KO (x&&&2^p*(2^q-1)) (2^p)
  rw[hm,hd]at this
  omega
 rcases KU (x/2^p%2^q)with h0|h0
 ·exfalso
  rw[e1,h0,Wf,KL]at h
  have lt:2^p*(2^q-1)<2^(p+q):=by
   rw[Yo]
   exact Nat.mul_lt_mul_of_pos_left (by have:=Qv q;omega) (Qv p)
  have z:(2^p*(2^q-1))&&&2^(p+q)=0:=by
   have hd:((2^p*(2^q-1))&&&2^(p+q))/2^(p+q)=0:=by rw[Nat.and_div_two_pow,Qu lt,Nat.zero_and]
   have hm:((2^p*(2^q-1))&&&2^(p+q))%2^(p+q)=0:=by rw[Nat.and_mod_two_pow,Nat.mod_self,Nat.and_zero]
   have:=KO ((2^p*(2^q-1))&&&2^(p+q)) (2^(p+q))
   rw[hd,hm]at this
   omega
  have:=Qv (p+q)
  omega
 ·exact h0
def cf(Z N i:Nat):Nat:=Z/N^i/i
def fv(Z N:Nat):Nat->Nat->Nat
 |0,_=>0
 |d+1,u=>fv Z N d u+cf Z N (d+1)*u^(d+1)
theorem OA{Z L N u:Nat}:∀d,Mul L d->fv Z N d u*(L*N^d)<=Z*A L N d u
 |0,_=>by simp [fv]
 |d+1,hL=>by
  have ih:=Yu N (OA (Z:=Z) (N:=N) (u:=u) d hL.pred)
  have ht:=hL d (by omega)
  have h1:=XW Z (N^(d+1))
  have h2:=XW (Z/N^(d+1)) (d+1)
  rw[fv,A,cf]
  generalize L/(d+1)=t at*
  generalize Z/N^(d+1)/(d+1)=q at*
  generalize Z/N^(d+1)=x at*
  have k1:=Yu (N^(d+1)) h2
  have k2:=Yz (t*u^(d+1)) (Yj k1 h1)
  rw[<-ht]
  rw[<-ht]at ih
  have e1:(fv Z N d u+q*u^(d+1))*(t*(d+1)*N^(d+1))=fv Z N d u*(t*(d+1)*N^d)*N+t*u^(d+1)*(q*(d+1)*N^(d+1)):=by
   rw[YN];congr 1
   ·rw[YF];ac_rfl
   ·ac_rfl
  have e2:Z*(A (t*(d+1)) N d u*N+t*u^(d+1))=Z*A (t*(d+1)) N d u*N+t*u^(d+1)*Z:=by rw[Y9,Yx];congr 1;ac_rfl
  omega
def pw(u:Nat):Nat->Nat
 |0=>0
 |d+1=>pw u d+u^(d+1)
theorem Oz{Z L N u:Nat}(hN:0<N):∀d,Mul L d->Z*A L N d u<=(fv Z N d u+pw u d)*(L*N^d)
 |0,_=>by simp [A]
 |d+1,hL=>by
  have ih:=Yu N (Oz (Z:=Z) (N:=N) (u:=u) hN d hL.pred)
  have ht:=hL d (by omega)
  have hp:0<N^(d+1):=YD hN
  have h1:Z<=(Z/N^(d+1)+1)*N^(d+1):=by
   have:=KO Z (N^(d+1))
   have:=Kj Z hp
   rw[YN,Kc,Yk (Z/N^(d+1))];omega
  have h2:Z/N^(d+1)+1<=(Z/N^(d+1)/(d+1)+1)*(d+1):=by
   have:=KO (Z/N^(d+1)) (d+1)
   have:=Kj (Z/N^(d+1)) (show 0<d+1 by omega)
   rw[YN,Kc,Yk (Z/N^(d+1)/(d+1))];omega
  rw[fv,A,cf,pw]
  generalize L/(d+1)=t at*
  generalize Z/N^(d+1)/(d+1)=q at*
  generalize Z/N^(d+1)=x at*
  have k1:=Yu (N^(d+1)) h2
  have k2:=Yz (t*u^(d+1)) (Yj h1 k1)
  rw[<-ht]
  rw[<-ht]at ih
  have e1:(fv Z N d u+q*u^(d+1)+(pw u d+u^(d+1)))*(t*(d+1)*N^(d+1))=(fv Z N d u+pw u d)*(t*(d+1)*N^d)*N+t*u^(d+1)*((q+1)*(d+1)*N^(d+1)):=by
   have e0:fv Z N d u+q*u^(d+1)+(pw u d+u^(d+1))=fv Z N d u+pw u d+(q+1)*u^(d+1):=by rw[YN,Kc];omega
   rw[e0,YN];congr 1
   ·rw[YF];ac_rfl
   ·ac_rfl
  have e2:Z*(A (t*(d+1)) N d u*N+t*u^(d+1))=Z*A (t*(d+1)) N d u*N+t*u^(d+1)*Z:=by rw[Y9,Yx];congr 1;ac_rfl
  omega
theorem Yb2{u v:Nat}(h:u<=v):∀d,pw u d<=pw v d
 |0=>Yr _
 |d+1=>Nat.add_le_add (Yb2 h d) (YM h _)
theorem OB{Z N u:Nat}(hN:0<N)(h:2*u<=N):∀d,fv Z N d u*2^d+Z<=Z*2^d
 |0=>by simp [fv]
 |d+1=>by
  have ih:=OB (Z:=Z) hN h d
  have h1:=YM h (d+1)
  rw[Yt]at h1
  have h2:=XW Z (N^(d+1))
  have h3:=QP (Z/N^(d+1)) (d+1)
  have h4:cf Z N (d+1)*u^(d+1)*2^(d+1)<=Z:=by
   unfold cf
   have a:=Yz (Z/N^(d+1)/(d+1)) h1
   have b:=Yu (N^(d+1)) h3
   have e:Z/N^(d+1)/(d+1)*u^(d+1)*2^(d+1)=Z/N^(d+1)/(d+1)*(2^(d+1)*u^(d+1)):=by ac_rfl
   omega
  rw[fv,YN]
  have e1:fv Z N d u*2^(d+1)=2*(fv Z N d u*2^d):=by rw[YF];ac_rfl
  have e2:Z*2^(d+1)=2*(Z*2^d):=by rw[YF];ac_rfl
  omega
theorem Yki{Z N u:Nat}(hN:0<N)(h:2*u<=N)(d:Nat):fv Z N d u<=Z:=by
 have:=OB (Z:=Z) hN h d
 refine Kr (c:=2^d) ?_ (Qv d)
 omega
theorem RP{L N u:Nat}(hN:0<N)(h:2*u<=N):∀d,Mul L d->A L N d u*2^d+L*N^d<=L*N^d*2^d
 |0,_=>by simp [A]
 |d+1,hL=>by
  have ih:=Yu N (RP (L:=L) hN h d hL.pred)
  have h1:=YM h (d+1)
  rw[Yt]at h1
  have h3:=YP (QP L (d+1)) h1
  rw[A]
  have e1:(A L N d u*N+L/(d+1)*u^(d+1))*2^(d+1)=2*(A L N d u*2^d*N)+L/(d+1)*(2^(d+1)*u^(d+1)):=by rw[YN];congr 1 <;> (rw[YF];ac_rfl)
  have e2:L*N^(d+1)*2^(d+1)=2*(L*N^d*2^d*N):=by rw[YF,YF 2];ac_rfl
  have e3:(A L N d u*2^d+L*N^d)*N=A L N d u*2^d*N+L*N^(d+1):=by rw[YN,YF];congr 1;ac_rfl
  omega
theorem A_le{L N u:Nat}(hN:0<N)(h:2*u<=N){d:Nat}(hL:Mul L d):A L N d u<=L*N^d:=by
 have:=RP (L:=L) hN h d hL
 refine Kr (c:=2^d) ?_ (Qv d)
 omega
def PL(Q n a:Nat):Prop:=2^a<=n^Q
def PH(Q n b:Nat):Prop:=n^Q<=2^b
theorem Yjo{B Q l2 L N d u f:Nat}(hB:0<B)(h0:0<L)(hL:Mul L d)(hu:u<N)(h2:Hi B 2 1 l2)(hf:f*l2*(L*N^d)<=Q*B*A L N d u):2^f*(N-u)^Q<=N^Q:=by
 have h1:=YaE (K:=B*B) hL hu
 have hW:0<L*N^d:=Y3 h0 (YD (by omega))
 have hK:0<B*B:=Y3 hB hB
 unfold Hi at h2
 rw[Kb]at h2
 refine Gv hW ?_
 have k1:=YM h1 Q
 have k2:=YM h2 (f*(L*N^d))
 obtain⟨r,hr⟩:∃r,B*B*A L N d u*Q=B*l2*(f*(L*N^d))+r:=by
  have:=Yz B hf
  refine⟨B*B*A L N d u*Q-B*l2*(f*(L*N^d)),?_⟩
  have e1:B*(f*l2*(L*N^d))=B*l2*(f*(L*N^d)):=by ac_rfl
  have e2:B*(Q*B*A L N d u)=B*B*A L N d u*Q:=by ac_rfl
  omega
 generalize L*N^d=W at*
 generalize A L N d u=a at*
 generalize B*B=K at*
 rw[Yt,Yt,<-Yl,<-Yl,<-Yl,<-Yl,hr,Yo,Yo]at k1
 rw[Yt,<-Yl,<-Yl]at k2
 rw[Yt,<-Yl,<-Yl,<-Yl,Yk Q W]
 have hp:0<K^(B*l2*(f*W))*K^r:=Y3 (YD hK) (YD hK)
 refine Kr (c:=K^(B*l2*(f*W))*K^r) ?_ hp
 have k3:=YP k2 (YM (show K<=K+1 by omega) r)
 have k4:=Yu ((N-u)^(W*Q)) k3
 refine Yj (YB ?_) (Yj k4 (Yj (YB ?_) (Yj k1 (YB ?_)))) <;> ac_rfl
theorem Yjp{B Q l2 L N d u t g:Nat}(hB:0<B)(h0:0<L)(hL:Mul L (d+1))(hu:u<N)(ht:L*u^(d+1)<=t*(N-u))(h2:Lo B 2 1 l2)(hg:Q*((B*B+1)*(A L N (d+1) u+t*u))<=B*l2*(g*(L*N^(d+1)))):N^Q<=2^g*(N-u)^Q:=by
 have h1:=YaD (K:=B*B) hL hu ht
 have hW:0<L*N^(d+1):=Y3 h0 (YD (by omega))
 have hK:0<B*B:=Y3 hB hB
 unfold Lo at h2
 rw[Kb]at h2
 refine Gv hW ?_
 have k1:=YM h1 Q
 have k2:=YM h2 (g*(L*N^(d+1)))
 generalize A L N (d+1) u+t*u=a at*
 generalize L*N^(d+1)=W at*
 generalize B*B=K at*
 obtain⟨r,hr⟩:∃r,B*l2*(g*W)=(K+1)*a*Q+r:=⟨B*l2*(g*W)-(K+1)*a*Q,by rw[Yk Q]at hg;omega⟩
 rw[Yt,Yt,<-Yl,<-Yl,<-Yl,<-Yl]at k1
 rw[Yt,<-Yl,<-Yl,hr,Yo,Yo]at k2
 rw[Yt,<-Yl,<-Yl,<-Yl,Yk Q W]
 have hp:0<(K+1)^((K+1)*a*Q)*K^r:=Y3 (YD (by omega)) (YD hK)
 have k3:=Yz ((K+1)^((K+1)*a*Q)) (YM (show K<=K+1 by omega) r)
 have k4:=YP (Yj k3 k2) k1
 have hp2:0<(K+1)^((K+1)*a*Q)*K^r*(K^((K+1)*a*Q)):=Y3 hp (YD hK)
 refine Kr (c:=(K+1)^((K+1)*a*Q)*K^r*(K^((K+1)*a*Q))) ?_ hp2
 refine Yj (YB ?_) (Yj k4 (YB ?_)) <;> ac_rfl
end Go.Proofs.YtlhmikjnholpnaaGreatDoor.LT
set_option maxRecDepth 100000
namespace Go.Proofs.YtlhmikjnholpnaaGreatDoor.LT
open Go.Proofs.YtlhmikjnholpnaaGreatDoor.LS
theorem YmY{L d:Nat}(h:Mul L d)(c:Nat):Mul (L*c) d:=fun i hi=>by
 have h1:=h i hi
 have:(i+1)∣L*c:=JM ⟨L/(i+1),by rw[Yk];exact h1.symm⟩ (Nat.dvd_mul_right _ _)
 exact Nat.div_mul_cancel this
structure Par (B Q l2 Z Zu e U d N1:Nat):Prop where
 hB:2<=B
 two:Two B l2
 hZ:Z*(l2+4)<=Q*B
 hu:Q*(B*B+1)<=B*l2*Zu
 hN:2*U<=N1/\0<N1
 he:∃δ et,Zu=Z+δ/\pw U (d+1)+δ+et<=e/\Zu*U^(d+2)<=et*((N1-U)*N1^(d+1))
theorem Par.ph{B Q l2 Z Zu e U d N1 N u b:Nat}(P:Par B Q l2 Z Zu e U d N1)(hN:N1<=N)(hu:u<=U)(h:PH Q N b)(hb:fv Z N (d+1) u<=b):PH Q (N-u) (b-fv Z N (d+1) u):=by
 obtain⟨L,h0,hL⟩:=Br (d+1)
 have hNp:=P.hN
 have h1:=OA (Z:=Z) (N:=N) (u:=u) (d+1) hL
 have h2:fv Z N (d+1) u*(l2+4)*(L*N^(d+1))<=Q*B*A L N (d+1) u:=by
  have a:=Yz (l2+4) h1
  have b:=Yu (A L N (d+1) u) P.hZ
  refine Yj (YB ?_) (Yj a (Yj (YB ?_) b)) <;> ac_rfl
 have h3:=Yjo (by have:=P.hB;omega) h0 hL (show u<N by have:=P.hN;omega) P.two.2 h2
 unfold PH at*
 refine WV (c:=2^fv Z N (d+1) u) ?_ (Qv _)
 rw[<-Yo,Nat.add_sub_cancel' hb]
 exact Yj h3 h
theorem Par.pl{B Q l2 Z Zu e U d N1 N u a:Nat}(P:Par B Q l2 Z Zu e U d N1)(hN:N1<=N)(hu:u<=U)(h:PL Q N a):PL Q (N-u) (a-(fv Z N (d+1) u+e)):=by
 obtain⟨L,h0,hL⟩:=Br (d+1)
 obtain⟨n1,n2⟩:=P.hN
 obtain⟨δ,et,hδ,he,htail⟩:=P.he
 have huN:u<N:=by omega
 have hL':=YmY hL (N-u)
 have h0':0<L*(N-u):=Y3 h0 (by omega)
 have h1:=Oz (Z:=Z) (N:=N) (u:=u) (by omega) (d+1) hL'
 have h2:=A_le (N:=N) (u:=u) (by omega) (by omega) hL'
 have hpw:=Yb2 hu (d+1)
 have hg:Q*((B*B+1)*(A (L*(N-u)) N (d+1) u+L*u^(d+1)*u))<=B*l2*((fv Z N (d+1) u+e)*(L*(N-u)*N^(d+1))):=by
  have ht:Zu*(L*u^(d+1)*u)<=et*(L*(N-u)*N^(d+1)):=by
   have a1:=YM hu (d+2)
   have a2:=Yz Zu a1
   have a3:=YP (show N1-U<=N-u by omega) (YM hN (d+1))
   have a4:=Yz L (Yj a2 (Yj htail (Yz et a3)))
   refine Yj (YB ?_) (Yj a4 (YB ?_))
   ·rw[YF u (d+1)];ac_rfl
   ·ac_rfl
  have hA:Zu*A (L*(N-u)) N (d+1) u<=(fv Z N (d+1) u+pw U (d+1)+δ)*(L*(N-u)*N^(d+1)):=by
   rw[hδ,YN,YN _ δ]
   have a1:=Yz δ h2
   have a2:=Yu (L*(N-u)*N^(d+1)) (show fv Z N (d+1) u+pw u (d+1)<=fv Z N (d+1) u+pw U (d+1)by omega)
   omega
  have hs:Zu*(A (L*(N-u)) N (d+1) u+L*u^(d+1)*u)<=(fv Z N (d+1) u+e)*(L*(N-u)*N^(d+1)):=by
   rw[Y9]
   have a3:=Yu (L*(N-u)*N^(d+1)) (show fv Z N (d+1) u+pw U (d+1)+δ+et<=fv Z N (d+1) u+e by omega)
   rw[YN _ et]at a3
   omega
  have k1:=Yu (A (L*(N-u)) N (d+1) u+L*u^(d+1)*u) P.hu
  have k2:=Yz (B*l2) hs
  refine Yj (YB ?_) (Yj k1 (Yj (YB ?_) k2)) <;> ac_rfl
 have h3:=Yjp (by have:=P.hB;omega) h0' hL' huN (t:=L*u^(d+1)) (YB (by ac_rfl)) P.two.1 hg
 unfold PL at*
 rcases YV a (fv Z N (d+1) u+e)with c|c
 ·rw[show a-(fv Z N (d+1) u+e)=0 by omega,JO]
  exact YD (by omega)
 ·refine WV (c:=2^(fv Z N (d+1) u+e)) ?_ (Qv _)
  rw[<-Yo,Nat.add_sub_cancel' c]
  exact Yj h h3
def Hq(w i k:Nat):Nat->Nat:=Nat.rec (fun lo=>Kx lo i) (fun k ih lo=>Kf (ih lo) (Nat.shiftLeft (ih (Kf lo (Kx 2 k))) (K5 w (Kx 2 k)))) k
theorem RD(w i:Nat):∀k lo,Hq w i k lo=pk w (fun u=>(lo+u)^i) (2^k)
 |0,lo=>by
  have:Hq w i 0 lo=lo^i:=rfl
  rw[this];simp [pk]
 |k+1,lo=>by
  have:Hq w i (k+1) lo=Hq w i k lo+Hq w i k (lo+2^k) <<< (w*2^k):=rfl
  rw[this,RD w i k,RD w i k,Nat.shiftLeft_eq,YF,Nat.mul_two,Ybz]
  congr 3
  funext u
  rw[XV]
def V(w i k:Nat):Nat:=Kf (Hq w i k 0) (Nat.shiftLeft (Kx (Kx 2 k) i) (K5 w (Kx 2 k)))
theorem C4(w i k:Nat):V w i k=pk w (fun u=>u^i) (2^k+1):=by
 have:V w i k=Hq w i k 0+(2^k)^i <<< (w*2^k):=rfl
 rw[this,RD,Nat.shiftLeft_eq,pk]
 congr 2
 funext u
 rw[KL]
def fs(w k N:Nat)(d:Nat):Nat->Nat->Nat->Nat:=
 Nat.rec (fun _ _ s=>s) (fun _ ih i x s=>ih (Nat.succ i) (Jm x N) (Kf s (K5 (Jm x i) (V w i k)))) d
def sv(N u:Nat):Nat->Nat->Nat->Nat
 |0,_,_=>0
 |d+1,i,x=>x/i*u^i+sv N u d (i+1) (x/N)
theorem Oy(w k N:Nat):∀d i x s,fs w k N d i x s=s+pk w (fun u=>sv N u d i x) (2^k+1)
 |0,i,x,s=>by
  have h:∀n,pk w (fun u=>sv N u 0 i x) n=0:=fun n=>by
   induction n with
   |zero=>rfl
   |succ n ih=>rw[pk,ih,sv,JX]
  rw[h];rfl
 |d+1,i,x,s=>by
  have h:fs w k N (d+1) i x s=fs w k N d (i+1) (x/N) (s+x/i*V w i k):=rfl
  rw[h,Oy w k N d,C4,Ae,XV,Ad]
  rfl
theorem Ydt(Z N u:Nat):∀d j,sv N u d (j+1) (Z/N^(j+1))+fv Z N j u=fv Z N (j+d) u
 |0,j=>by rw[sv,KL,Kw]
 |d+1,j=>by
  have ih:=Ydt Z N u d (j+1)
  have e:Z/N^(j+1)/N=Z/N^(j+1+1):=by rw[KY,<-YF]
  rw[sv,e,show j+(d+1)=j+1+d by omega,<-ih,fv,cf]
  omega
theorem Ykh(w k Z N d:Nat):fs w k N d 1 (Z/N) 0=pk w (fun u=>fv Z N d u) (2^k+1):=by
 rw[Oy,KL]
 refine Nd fun u _=>?_
 have h:=Ydt Z N u d 0
 rw[fv,Kw,KL,KL,Wg]at h
 exact h
def blk(w k d Z ONE MASK SP:Nat)(n:Nat):Nat->Nat->Bool:=
 Nat.rec (fun _ _=>true) (fun _ ih N A=>Bool.casesOn (Y8 (Kf Z 2) A) false ((fun X=>Bool.casesOn (YL (Nat.land (Kf (Nat.land X MASK) MASK) SP) SP) false (ih (Nat.sub N (Kx 2 k)) (Nat.shiftRight X (K5 w (Kx 2 k))))) (Nat.sub (K5 A ONE) (fs w k N d 1 (Jm Z N) 0)))) n
def Tgt(Q R m:Nat):Prop:=∃a b r,PL Q m a/\PH Q m b/\r*2^R+2<=a/\b+2<=(r+1)*2^R
theorem YlB{Q p q m z l:Nat}(hl:l+2<=2^p)(h1:PL Q m (z-l))(h2:PH Q m (z-2))(hz:2<=z)(h:1<=z/2^p%2^q):Tgt Q (p+q) m:=by
 refine⟨z-l,z-2,z/2^(p+q),h1,h2,?_,?_⟩
 ·have e1:=KO z (2^p)
  have e2:=KO (z/2^p) (2^q)
  rw[KY,<-Yo]at e2
  have e3:z/2^(p+q)*2^(p+q)=2^p*(2^q*(z/2^(p+q))):=by rw[Yo];ac_rfl
  have e4:=Yz (2^p) (show 2^q*(z/2^(p+q))+1<=z/2^p by omega)
  rw[Y9]at e4
  omega
 ·have e1:=KO z (2^(p+q))
  have e2:=Kj z (Qv (p+q))
  rw[YN,Kc,Yk (z/2^(p+q))]
  omega
theorem TQ{B Q l2 Z Zu e d N1 w k p q:Nat}(P:Par B Q l2 Z Zu e (2^k) d N1)(hpq:p+q<w):∀(n N A l:Nat),blk w k (d+1) Z (V w 0 k) (V w 0 k*(2^p*(2^q-1))) (V w 0 k*2^(p+q)) n N A=true->
 N1+n*2^k<=N+2^k->A<2^w->PL Q N (A-l)->PH Q N (A-2)->l+n*e+2<=2^p->∀m,N<=m+n*2^k->m<=N->m<N\/0<n->Tgt Q (p+q) m
 |0,N,A,l,_,_,_,_,_,_,m,hm,hm2,h3=>by omega
 |n+1,N,A,l,h,hN,hA,hl,hh,hle,m,hm,hm2,_=>by
  have h:Bool.casesOn (motive:=fun _=>Bool) (Y8 (Z+2) A) false (Bool.casesOn (YL ((((A*V w 0 k-fs w k N (d+1) 1 (Z/N) 0)&&&(V w 0 k*(2^p*(2^q-1))))+V w 0 k*(2^p*(2^q-1)))&&&(V w 0 k*2^(p+q))) (V w 0 k*2^(p+q))) false
   (blk w k (d+1) Z (V w 0 k) (V w 0 k*(2^p*(2^q-1))) (V w 0 k*2^(p+q)) n (N-2^k) ((A*V w 0 k-fs w k N (d+1) 1 (Z/N) 0) >>> (w*2^k))))=true:=h
  cases hb:Y8 (Z+2) A with
  |false=>rw[hb]at h;cases h
  |true=>
   rw[hb]at h
   have hZA:=KI hb
   obtain⟨n1,n2⟩:=P.hN
   have hk0:=Qv k
   rw[YN,Kc]at hN hm hle
   have hN1:N1<=N:=by omega
   have hfv:∀u,u<=2^k->fv Z N (d+1) u<=Z:=fun u hu=>Yki (by omega) (by omega) _
   have hX:A*V w 0 k-fs w k N (d+1) 1 (Z/N) 0=pk w (fun u=>A-fv Z N (d+1) u) (2^k+1):=by
    rw[Ykh,C4,Ae,YnU fun i hi=>?_]
    ·exact Nd fun i hi=>by rw[JO,Kb]
    ·rw[JO,Kb]
     have:=hfv i (by omega)
     omega
   rw[hX]at h
   have hone:∀c,V w 0 k*c=pk w (fun _=>c) (2^k+1):=fun c=>by
    rw[C4,Yk,Ae]
    exact Nd fun i hi=>by rw[JO,Kb]
   have hq1:2^p*(2^q-1)<2^(p+q):=by
    rw[Yo]
    exact Nat.mul_lt_mul_of_pos_left (by have:=Qv q;omega) (Qv p)
   have hw:2*2^(p+q)<=2^w:=by
    rw[<-Nat.pow_succ']
    exact Kl (by decide) hpq
   have lt1:∀u,A-fv Z N (d+1) u<2^w:=fun u=>by omega
   have land1:∀x,x&&&2^p*(2^q-1)<=2^p*(2^q-1):=fun x=>Nat.and_le_right
   have ht:(pk w (fun u=>A-fv Z N (d+1) u) (2^k+1)&&&V w 0 k*(2^p*(2^q-1)))+V w 0 k*(2^p*(2^q-1))&&&V w 0 k*2^(p+q)=
    pk w (fun u=>((A-fv Z N (d+1) u&&&2^p*(2^q-1))+2^p*(2^q-1))&&&2^(p+q)) (2^k+1):=by
    rw[hone,hone,Py (fun i hi=>lt1 i) (fun i hi=>by omega),Ad,Py (fun i hi=>by have:=land1 (A-fv Z N (d+1) i);omega) (fun i hi=>by omega)]
   rw[ht]at h
   cases hc:YL (pk w (fun u=>((A-fv Z N (d+1) u&&&2^p*(2^q-1))+2^p*(2^q-1))&&&2^(p+q)) (2^k+1)) (V w 0 k*2^(p+q))with
   |false=>rw[hc]at h;cases h
   |true=>
    rw[hc]at h
    have heq:=JE hc
    rw[hone]at heq
    have hlane:=YbA (fun i hi=>Jn Nat.and_le_right (by omega)) (fun i hi=>by omega) heq
    have hst:∀u,u<=2^k->PL Q (N-u) (A-fv Z N (d+1) u-(l+e))/\PH Q (N-u) (A-fv Z N (d+1) u-2):=fun u hu=>by
     have g1:=P.pl hN1 hu hl
     have g2:=P.ph hN1 hu hh (by have:=hfv u hu;omega)
     rw[show A-l-(fv Z N (d+1) u+e)=A-fv Z N (d+1) u-(l+e)by omega]at g1
     rw[show A-2-fv Z N (d+1) u=A-fv Z N (d+1) u-2 by omega]at g2
     exact⟨g1,g2⟩
    rcases YV m (N-2^k)with c|c
    ·have hA':(pk w (fun u=>A-fv Z N (d+1) u) (2^k+1)) >>> (w*2^k)=A-fv Z N (d+1) (2^k):=by
      rw[Nat.shiftRight_eq_div_pow,pk,Nat.add_mul_div_right _ _ (Qv _),Qu (Fa fun i hi=>lt1 i),KL]
     have h:blk w k (d+1) Z (V w 0 k) (V w 0 k*(2^p*(2^q-1))) (V w 0 k*2^(p+q)) n (N-2^k) ((pk w (fun u=>A-fv Z N (d+1) u) (2^k+1)) >>> (w*2^k))=true:=h
     rw[hA']at h
     obtain⟨g1,g2⟩:=hst (2^k) (Yr _)
     have hn:0<n:=by
      rcases KU n with rfl|hn
      ·omega
      ·exact hn
     exact TQ P hpq n _ _ (l+e) h (by omega) (lt1 _) g1 g2 (by omega) m (by omega) (by omega) (KV hn)
    ·obtain⟨u,rfl⟩:∃u,m=N-u:=⟨N-m,by omega⟩
     have hu:N-(N-u)<=2^k:=by omega
     obtain⟨v,hv⟩:∃v,v=N-(N-u):=⟨_,rfl⟩
     rw[show N-u=N-v by omega]
     rw[<-hv]at hu
     obtain⟨g1,g2⟩:=hst v hu
     have hvZ:=hfv v hu
     exact YlB (by omega) g1 g2 (by omega) (YlA (hlane v (by omega)))
end Go.Proofs.YtlhmikjnholpnaaGreatDoor.LT
set_option maxRecDepth 100000
namespace Go.Proofs.YtlhmikjnholpnaaGreatDoor.LT
open Go.Proofs.YtlhmikjnholpnaaGreatDoor.LS
theorem LN{y:Nat}(x:Nat)(hy:0<y):x<=y*(x/y+1):=by
 have h1:=KO x y
 have h2:=Kj x hy
 generalize x/y=z at*
 rw[Y9,Kb];omega
def pwK(U:Nat)(d:Nat):Nat:=Nat.rec 0 (fun d ih=>Kf ih (Kx U (Nat.succ d))) d
theorem Yb1(U:Nat):∀d,pwK U d=pw U d
 |0=>rfl
 |d+1=>by
  have:pwK U (d+1)=pwK U d+U^(d+1):=rfl
  rw[this,Yb1 U d,pw]
def run(B c J p q w k d n s N:Nat):Bool:=
 ser B 300 2 (fun l2=>ET B c l2 100 s N (fun la _ e0=>
  (fun Q=>(fun Z=>(fun Zu=>(fun N1=>(fun et=>(fun e=>(fun a=>(fun A=>
    QN (QN (QN (QN (Y8 1 l2) (Y8 1 n)) (QN (Y8 (K5 2 (Kx 2 k)) N1) (Y8 (Kf (K5 n (Kx 2 k)) 1) N))) (QN (QN (Y8 Z Zu) (Nat.blt A (Kx 2 w))) (QN (Y8 a A) (Y8 (Kf (Kf (Nat.sub A a) (K5 n e)) 2) (Kx 2 p)))))
     (blk w k (Nat.succ d) Z (V w 0 k) (K5 (V w 0 k) (K5 (Kx 2 p) (Nat.sub (Kx 2 q) 1))) (K5 (V w 0 k) (Kx 2 (Kf p q))) n N A))
    (Kf (Nat.succ (Jm (K5 (Kf la e0) Q) l2)) 2)) (Jm (K5 la Q) (Kf l2 4))) (Kf (Kf (pwK (Kx 2 k) (Nat.succ d)) (Nat.sub Zu Z)) et))
    (Nat.succ (Jm (K5 Zu (Kx (Kx 2 k) (Kf d 2))) (K5 (Nat.sub N1 (Kx 2 k)) (Kx N1 (Nat.succ d)))))) (Nat.sub (Kf N (Kx 2 k)) (K5 n (Kx 2 k)))) (Nat.succ (Jm (K5 Q (Nat.succ (K5 B B))) (K5 B l2)))) (Jm (K5 Q B) (Kf l2 4))) (Kx 2 (Kf J (Kf p q)))))
theorem Yqu{B c J p q w k d n s N:Nat}(hB:2<=B)(hpq:p+q<w)(hN0:1<=N)(h:run B c J p q w k d n s N=true):∀m,N<=m+n*2^k->m<=N->Tgt (2^(J+(p+q))) (p+q) m:=by
 obtain⟨l2,h1,h2,h⟩:=YcT hB (by decide) h
 obtain⟨la,lb,e0,hs,h⟩:=Iy hB ⟨h1,h2⟩ _ _ _ _ hN0 h
 have htwo:Two B l2:=⟨h1,h2⟩
 obtain⟨Q,hQ⟩:∃Q,Q=2^(J+(p+q)):=⟨_,rfl⟩
 obtain⟨Z,hZ⟩:∃Z,Z=Q*B/(l2+4):=⟨_,rfl⟩
 obtain⟨Zu,hZu⟩:∃Zu,Zu=Q*(B*B+1)/(B*l2)+1:=⟨_,rfl⟩
 obtain⟨N1,hN1⟩:∃N1,N1=N+2^k-n*2^k:=⟨_,rfl⟩
 obtain⟨et,het⟩:∃et,et=Zu*(2^k)^(d+2)/((N1-2^k)*N1^(d+1))+1:=⟨_,rfl⟩
 obtain⟨e,he⟩:∃e,e=pwK (2^k) (d+1)+(Zu-Z)+et:=⟨_,rfl⟩
 obtain⟨a,ha⟩:∃a,a=la*Q/(l2+4):=⟨_,rfl⟩
 obtain⟨A,hA⟩:∃A,A=(la+e0)*Q/l2+1+2:=⟨_,rfl⟩
 have h:(((Y8 1 l2&&Y8 1 n)&&(Y8 (2*2^k) N1&&Y8 (n*2^k+1) N))&&((Y8 Z Zu&&Nat.blt A (2^w))&&(Y8 a A&&Y8 (A-a+n*e+2) (2^p)))&&
  blk w k (d+1) Z (V w 0 k) (V w 0 k*(2^p*(2^q-1))) (V w 0 k*2^(p+q)) n N A)=true:=by
  rw[hA,ha,he,het,hN1,hZu,hZ,hQ]
  exact h
 simp only[YS]at h
 obtain⟨⟨⟨⟨c1,c2⟩,c3,c4⟩,⟨c5,c6⟩,c7,c8⟩,hblk⟩:=h
 have c1:=KI c1
 have c2:=KI c2
 have c3:=KI c3
 have c4:=KI c4
 have c5:=KI c5
 have c6:A<2^w:=KI c6
 have c7:=KI c7
 have c8:=KI c8
 have hk0:=Qv k
 have P:Par B Q l2 Z Zu e (2^k) d N1:=by
  refine⟨hB,htwo,?_,?_,⟨c3,by omega⟩,Zu-Z,et,by omega,?_,?_⟩
  ·rw[hZ];exact XW _ _
  ·rw[hZu]
   exact LN _ (Y3 (by omega) c1)
  ·rw[he,Yb1];exact Yr _
  ·rw[het]
   have h0:0<(N1-2^k)*N1^(d+1):=Y3 (by omega) (YD (by omega))
   rw[Yk (_+1)]
   exact LN _ h0
 have hPL:PL Q N (A-(A-a)):=by
  rw[show A-(A-a)=a by omega]
  have:=cmp (by omega) (Hi.pow htwo.2 a) (Lo.pow hs.1.1 Q) (by
   rw[ha];exact Nat.mul_div_le _ _)
  exact this
 have hPH:PH Q N (A-2):=by
  have:=cmp (by omega) (Hi.pow hs.1.2 Q) (Lo.pow htwo.1 ((la+e0)*Q/l2+1)) (LN _ c1)
  rw[hA,Nat.add_sub_cancel]
  exact this
 rw[<-hQ]
 intro m hm1 hm2
 exact TQ P hpq n N A (A-a) hblk (by omega) c6 hPL hPH c8 m hm1 hm2 (KV c2)
end Go.Proofs.YtlhmikjnholpnaaGreatDoor.LT
set_option maxRecDepth 100000
namespace Go.Proofs.YtlhmikjnholpnaaGreatDoor.LT
def tP(n:Nat):Nat:=Kx 2 n
def tB:Nat:=tP 560
def r1(n N:Nat):Bool:=run tB 40 274 166 44 490 9 16 n 28 N
def rR(i:Nat):Bool:=r1 1000 (Nat.sub 536870911 (K5 512000 i))
def rP(a n:Nat):Prop:=∀i,i<n->rR (a+i)=true
theorem rN(a:Nat):rP a 0:=fun i h=>absurd h (QC i)
theorem rS{a n:Nat}(h:rP a n)(h1:rR (a+n)=true):rP a (n+1):=fun i hi=>by
 rcases YV i n with h2|h2
 ·exact h i h2
 ·rw[show i=n by omega];exact h1
def rQ(a n:Nat):Bool:=Nat.rec true (fun i ih=>QN (rR (Kf a i)) ih) n
theorem Ycf{a:Nat}:∀n,rQ a n=true->rP a n
 |0,_=>rN a
 |n+1,h=>by
  have h:QN (rR (a+n)) (rQ a n)=true:=h
  obtain⟨h1,h2⟩:=Bool.and_eq_true_iff.1 h
  exact rS (Ycf n h2) h1
theorem rT{a n:Nat}(k:Nat)(h:rP a n)(h1:rQ (a+n) k=true):rP a (n+k):=fun i hi=>by
 rcases YV i n with h2|h2
 ·exact h i h2
 ·have g:=Ycf k h1 (i-n) (by omega)
  rwa [show a+n+(i-n)=a+i by omega]at g
theorem tP_2(n:Nat):2<=tP (n+1):=by
 have:tP (n+1)=tP n*2:=rfl
 have:0<tP n:=Qv n
 omega
theorem tB_2:2<=tB:=tP_2 559
theorem r1_is{n N:Nat}(hN:1<=N)(h:r1 n N=true){m:Nat}(h1:N<=m+n*512)(h2:m<=N):Tgt (2^(274+(166+44))) (166+44) m:=
 Yqu tB_2 (by decide) hN h m h1 h2
end Go.Proofs.YtlhmikjnholpnaaGreatDoor.LT
