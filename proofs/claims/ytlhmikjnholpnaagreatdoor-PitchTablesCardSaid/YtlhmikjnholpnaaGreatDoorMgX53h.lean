/- Ratios in plain Lean. -/
import Derived.Test.YtlhmikjnholpnaaGreatDoorMgX53f
import Derived.Test.YtlhmikjnholpnaaGreatDoorProg
import Derived.Test.YtlhmikjnholpnaaGreatDoorMgX53d
import Derived.Test.YtlhmikjnholpnaaGreatDoorMgX53e
open And renaming intro->YC
open Bool renaming and_eq_true->YS,or_eq_false_iff->K5,or_eq_true->Qj
open Int renaming add_zero->Zb,mul_le_mul_of_nonneg_right->XC,mul_nonneg->ZZ,natCast_mul->Qr,tdiv_eq_ediv_of_nonneg->Wo,tmod_eq_emod_of_nonneg->UX,toNat->Xs,toNat_natCast->Yj,toNat_of_nonneg->K7
open Go.IntWalk renaming i64_in->Yg,up_tdiv->Wq,up_tmod->VI
open List renaming all_eq_true->VJ,append_nil->Wr,getD_eq_getElem?_getD->Kh,getElem?_append_left->QY,getElem?_append_right->Z0,getElem?_eq_getElem->VL,length_append->JO,length_map->VN,length_nil->Z1,mem_append->Ky,mem_cons->Kz,mem_cons_of_mem->KX,mem_cons_self->KR,mem_map->QM,mem_singleton->Jj,nil_append->VP
open Nat renaming add->Kg,add_assoc->Zk,add_mul->YM,add_zero->KO,beq->YJ,ble->Y7,div->Jb,div_add_mod->KP,div_le_self->XD,div_mul_le_self->XE,dvd_trans->JY,eq_of_beq_eq_true->Jy,eq_zero_or_pos->Jc,gcd->YI,gcd_dvd_left->WI,le_of_ble_eq_true->KC,le_of_eq->Yx,le_of_mul_le_mul_left->Vg,le_of_mul_le_mul_right->Ki,le_of_not_lt->XF,le_refl->Yt,le_trans->Yh,lt_irrefl->ZA,lt_of_not_le->WJ,lt_or_ge->YY,mod->KS,mod_lt->Kj,mul->K2,mul_add->Ka,mul_assoc->YA,mul_comm->Yl,mul_le_mul->YX,mul_le_mul_left->Yz,mul_le_mul_right->Yp,mul_left_comm->Jd,mul_lt_mul_of_pos_right->ZB,mul_one->Y0,mul_pos->Y1,mul_pow->Yq,mul_right_comm->Vh,mul_zero->ZD,not_lt_zero->J8,one_mul->Y2,pow->KI,pow_add->Yo,pow_le_pow_iff_left->ZF,pow_le_pow_left->YG,pow_mul->Ym,pow_pos->YB,pow_succ->YH,pow_zero->Jk,reduceAdd->Ya,reduceBEq->Yk,reduceEqDiff->Yc,reduceLeDiff->Ye,zero_le->JJ
open Go.Proofs.Tryz renaming prog->Yb
set_option linter.all false
namespace Go.Proofs.YtlhmikjnholpnaaGreatDoor
open Go Go.Vx
structure Rt where
 a:Int
 b:Int
 c:Int
 d:Int
 e:Int
 f:Int
 n:Int
 deriving Inhabited,DecidableEq
def Yr(r:Rt):List SV:=[.int .i64 r.a,.int .i64 r.b,.int .i64 r.c,.int .i64 r.d,.int .i64 r.e,.int .i64 r.f,.int .i64 r.n]
def K3(n:Int):Bool:=decide (n< -100000) || decide (100000<n)
def J3(r:Rt):Nat:=((((((r.n.toNat).gcd r.a.natAbs).gcd r.b.natAbs).gcd r.c.natAbs).gcd r.d.natAbs).gcd r.e.natAbs).gcd r.f.natAbs
def Y4(r:Rt):Int:=
 if r.n<1\/1000<r.n then 2 else if K3 r.a|| (K3 r.b|| (K3 r.c|| (K3 r.d|| (K3 r.e|| K3 r.f))))then 2 else if 1<J3 r then 6 else 0
def KW:Rt:=⟨0,0,0,0,0,0,0⟩
def QP(r:Rt)(g:Int):Rt:=⟨r.a.tdiv g,r.b.tdiv g,r.c.tdiv g,r.d.tdiv g,r.e.tdiv g,r.f.tdiv g,r.n.tdiv g⟩
def Jf(r:Rt):Rt×Int:=if Y4 (QP r (J3 r))=0 then(QP r (J3 r),0)else(KW,7)
def KQ(x y:Rt)(by':Int):Rt×Int:=
 if Y4 x≠0 then(KW,Y4 x)else if Y4 y≠0 then(KW,Y4 y)
 else Jf ⟨x.a*y.n+by'*y.a*x.n,x.b*y.n+by'*y.b*x.n,x.c*y.n+by'*y.c*x.n,x.d*y.n+by'*y.d*x.n,x.e*y.n+by'*y.e*x.n,x.f*y.n+by'*y.f*x.n,x.n*y.n⟩
def powR(x:Rt)(n d:Int):Rt×Int:=
 if Y4 x≠0 then(KW,Y4 x)else if n< -1000\/1000<n\/d< -1000\/1000<d\/d=0 then(KW,2)
 else if d<0 then Jf ⟨x.a* -n,x.b* -n,x.c* -n,x.d* -n,x.e* -n,x.f* -n,x.n* -d⟩
 else Jf ⟨x.a*n,x.b*n,x.c*n,x.d*n,x.e*n,x.f*n,x.n*d⟩
def tm1(p n:Int):List (Int×Int):=if n=0 then []else [(p,n)]
def Yu(r:Rt):List (Int×Int):=tm1 2 r.a++(tm1 3 r.b++(tm1 5 r.c++(tm1 7 r.d++(tm1 11 r.e++tm1 13 r.f))))
theorem Uj(r:Rt):(Yu r).length<=6:=by
 have h:∀p n:Int,(tm1 p n).length<=1:=fun p n=>by unfold tm1;split <;> simp
 have:=h 2 r.a;have:=h 3 r.b;have:=h 5 r.c;have:=h 7 r.d;have:=h 11 r.e;have:=h 13 r.f
 simp only[Yu,JO];omega
theorem VW{r:Rt}(h:Y4 r=0):(1<=r.n/\r.n<=1000)/\K3 r.a=false/\K3 r.b=false/\K3 r.c=false/\K3 r.d=false/\K3 r.e=false/\K3 r.f=false/\J3 r<=1:=by
 unfold Y4 at h
 split at h
 ·cases h
 ·split at h
  ·cases h
  ·split at h
   ·cases h
   ·rename_i h1 h2 h3
    simp only[Qj,not_or,Bool.not_eq_true]at h2
    exact⟨by omega,h2.1,h2.2.1,h2.2.2.1,h2.2.2.2.1,h2.2.2.2.2.1,h2.2.2.2.2.2,by omega⟩
theorem QZ{n:Int}(h:K3 n=false): -100000<=n/\n<=100000:=by
 simp only[K3,K5,decide_eq_false_iff_not]at h;omega
theorem Jv{x y X Y:Int}(hx: -X<=x/\x<=X)(hy: -Y<=y/\y<=Y): -(X*Y)<=x*y/\x*y<=X*Y:=by
 have h0:0<=X:=by omega
 have h1:0<=Y:=by omega
 have a1:=ZZ (show 0<=X-x by omega) (show 0<=Y+y by omega)
 have a2:=ZZ (show 0<=X+x by omega) (show 0<=Y-y by omega)
 have a3:=ZZ (show 0<=X-x by omega) (show 0<=Y-y by omega)
 have a4:=ZZ (show 0<=X+x by omega) (show 0<=Y+y by omega)
 rw[Int.sub_mul,Int.mul_add,Int.mul_add]at a1
 rw[Int.add_mul,Int.mul_sub,Int.mul_sub]at a2
 rw[Int.sub_mul,Int.mul_sub,Int.mul_sub]at a3
 rw[Int.add_mul,Int.mul_add,Int.mul_add]at a4
 omega
set_option maxRecDepth 100000
set_option maxHeartbeats 4000000
def Ydb:VF:={ ntmps:=7,res:=[.tmp 2],body:=
 (ZR [Zi 2 0]
 (ZR [Zm 3 0,
 Zm 4 0,
 u1 5 .neg [.tm 4],
 u1 6 .max [.tm 3,.tm 5],
 Zm 2 6]
 .ret))}
theorem Ypt:Yn Yb Tryz.f148=some Ydb:=by kernel_rfl
def YcP:VF:={ ntmps:=34,res:=[.tmp 2],body:=
 (ZR [u1 1 .box [.tm 0],
 Zi 2 0]
 (.seq (ZR [Za 6 6 1,
 Zf 7 1 6,
 Zq 8 .lss 7 1,
 Zm 9 8,
 Zj 10 9 false 6 1,
 Zh 11 9 false 1 10,
 u2 12 9 false (.cmp .gtr) [.tm 11,.cn (.int .i64 1000)],
 u1 13 .or [.tm 9,.tm 12]]
 (ZC 13 (ZR [Zi 2 2]
 .ret)
  .skip))
 (ZR [Za 14 6 1,
 Zf 15 1 14,
 Zm 3 15]
 (.seq (ZR [Za 16 0 1,
 Zt 17 6 16,
 Zi 18 0]
 (.block 0 (.loop (ZR [Zq 19 .lss 18 6]
 (.seq (ZC 19 .skip
  (.exit 0))
 (.seq (.block 1 (ZR [u1 20 (.index false 6 1) [.tm 17,.tm 18],
 Zm 5 20]
 (.seq (ZR [Zm 21 5,
 Zq 22 .lss 21 (-100000),
 Zm 23 22,
 Zg 24 23 false 5,
 u2 25 23 false (.cmp .gtr) [.tm 24,.cn (.int .i64 100000)],
 u1 26 .or [.tm 23,.tm 25]]
 (ZC 26 (ZR [Zi 2 2]
 .ret)
  .skip))
 (.region [Zm 27 3,
 Zm 28 5,
 Zc 29 148 28,
 Zd 30 130 27 29,
 Zm 3 30]))))
 (.region [Zp 31 18 1,
 Zm 18 31])))))))
 (.seq (ZR [Zm 32 3,
 Zq 33 .gtr 32 1]
 (ZC 33 (ZR [Zi 2 6]
 .ret)
  .skip))
 (ZR [Zi 2 0]
 .ret))))))}
theorem Yo5:Yn Yb Tryz.f121=some YcP:=by kernel_rfl
def Yda:VF:={ ntmps:=43,res:=[.cell 4 true 7,.tmp 5],body:=
 (ZR [u1 2 .box [.tm 0],
 u1 4 (.alloc Z7) [],
 Zi 5 0]
 (ZR [Zm 12 1,
 Zm 6 12]
 (.seq (ZR [Zt 13 6 2,
 Zi 14 0]
 (.block 0 (.loop (ZR [Zq 15 .lss 14 6]
 (.seq (ZC 15 .skip
  (.exit 0))
 (.seq (.block 1 (ZR [u1 16 (.index false 6 1) [.tm 13,.tm 14],
 Zm 8 16]
 (.region [Zm 17 6,
 Zm 18 8,
 Zc 19 148 18,
 Zd 20 130 17 19,
 Zm 6 20])))
 (.region [Zp 21 14 1,
 Zm 14 21])))))))
 (ZR [Zm 22 1,
 Zm 23 6,
 u1 24 .quo [.tm 22,.tm 23],
 u1 25 (.build Z7 [(6,1)]) [.tm 24],
 u1 9 (.alloc Z7) [],
 Zs 7 9 25]
 (.seq (ZR [Zt 26 6 2,
 Zi 27 0]
 (.block 2 (.loop (ZR [Zq 28 .lss 27 6]
 (.seq (ZC 28 .skip
  (.exit 2))
 (.seq (.block 3 (ZR [Zm 29 27,
 u1 30 (.index false 6 1) [.tm 26,.tm 27],
 Zm 10 29,
 Zm 11 30]
 (.region [Zm 31 10,
 Zm 32 11,
 Zm 33 6,
 u1 34 .quo [.tm 32,.tm 33],
 Za 35 0 9,
 u1 36 (.idxArr 6 1) [.tm 35,.tm 31],
 Zs 1 36 34])))
 (.region [Zp 37 27 1,
 Zm 27 37])))))))
 (.seq (ZR [Zt 38 7 9,
 Zc 39 121 38,
 Zq 40 .neq 39 0]
 (ZC 40 (ZR [u1 41 (.build Z7 []) [],
 Zs 7 4 41,
 Zi 5 7]
 .ret)
  .skip))
 (ZR [Zt 42 7 9,
 Zs 7 4 42,
 Zi 5 0]
 .ret)))))))}
theorem Yps:Yn Yb Tryz.f147=some Yda:=by kernel_rfl
def Yc9:VF:={ ntmps:=5,res:=[.tmp 2],body:=
 (ZR [Zi 2 0]
 (ZR [Zm 3 0,
 Zc 4 154 3,
 Zm 2 4]
 .ret))}
theorem Ypr:Yn Yb Tryz.f146=some Yc9:=by kernel_rfl
def Ydg:VF:={ ntmps:=18,res:=[.tmp 2],body:=
 (ZR [Zi 2 0]
 (ZR [Zi 3 0]
 (.seq (ZR [Zm 6 0,
 Zl 7 6,
 Zi 8 0]
 (.block 0 (.loop (ZR [Zr 9 .lss 8 7]
 (.seq (ZC 9 .skip
  (.exit 0))
 (.seq (.block 1 (ZR [Zx 10 1 6 8,
 Zf 11 1 10,
 Zm 5 11]
 (ZR [Zm 12 5,
 Zm 13 3,
 Zr 14 .neq 12 13]
 (ZC 14 (ZR [Zm 15 5,
 Zm 2 15]
 .ret)
  .skip))))
 (.region [Zp 16 8 1,
 Zm 8 16])))))))
 (ZR [Zm 17 3,
 Zm 2 17]
 .ret))))}
theorem Ypy:Yn Yb Tryz.f154=some Ydg:=by kernel_rfl
def YcO:VF:={ ntmps:=53,res:=[.cell 6 true 7,.tmp 7],body:=
 (ZR [u1 3 .box [.tm 0],
 u1 4 .box [.tm 1],
 u1 6 (.alloc Z7) [],
 Zi 7 0]
 (.seq (.seq (.draw [] [Zw 11 7 3,
 Zw 13 7 4,
 w1 12 (.call 121) [.tm 11],
 w1 14 (.call 121) [.tm 13],
 w1 15 (.buildSlice 1 2 [(.int .i64 0)] [(0,1),(1,1)]) [.tm 12,.tm 14],
 w1 16 (.call 146) [.tm 15],
 Zu 8 16])
 (ZR [Zm 17 8,
 Zq 18 .neq 17 0]
 (ZC 18 (ZR [u1 19 (.build Z7 []) [],
 Zm 20 8,
 Zs 7 6 19,
 Zm 7 20]
 .ret)
  .skip)))
 (ZR [u1 9 (.allocArr 6 1 [(.int .i64 0),(.int .i64 0),(.int .i64 0),(.int .i64 0),(.int .i64 0),(.int .i64 0)]) []]
 (.seq (ZR [Zi 21 0]
 (.block 0 (.loop (ZR [Zq 22 .lss 21 6]
 (.seq (ZC 22 .skip
  (.exit 0))
 (.seq (.block 1 (ZR [Zm 23 21,
 Zm 10 23]
 (.draw [] [Zu 24 10,
 Zu 25 10,
 Zy 26 0 3,
 w1 27 (.idxArr 6 1) [.tm 26,.tm 25],
 Zv 28 1 27,
 Zy 29 6 4,
 Zv 30 1 29,
 w1 31 (.ari .mul) [.tm 28,.tm 30],
 Zu 32 2,
 Zu 33 10,
 Zy 34 0 4,
 w1 35 (.idxArr 6 1) [.tm 34,.tm 33],
 Zv 36 1 35,
 w1 37 (.ari .mul) [.tm 32,.tm 36],
 Zy 38 6 3,
 Zv 39 1 38,
 w1 40 (.ari .mul) [.tm 37,.tm 39],
 w1 41 (.ari .add) [.tm 31,.tm 40],
 w1 42 (.idxArr 6 1) [.tm 9,.tm 24],
 ZS 1 42 41])))
 (.region [Zp 43 21 1,
 Zm 21 43])))))))
 (ZR [Zt 44 6 9,
 Za 45 6 3,
 Zf 46 1 45,
 Za 47 6 4,
 Zf 48 1 47,
 Zo 49 .mul 46 48,
 Zd 50 147 44 49,
 Ze 51 0 50,
 Ze 52 1 50,
 Zs 7 6 51,
 Zm 7 52]
 .ret)))))}
theorem Yo4:Yn Yb Tryz.f120=some YcO:=by kernel_rfl
def Yc8:VF:={ ntmps:=11,res:=[.cell 4 true 7,.tmp 5],body:=
 (ZR [u1 2 .box [.tm 0],
 u1 3 .box [.tm 1],
 u1 4 (.alloc Z7) [],
 Zi 5 0]
 (ZR [Zt 6 7 2,
 Zt 7 7 3,
 u1 8 (.call 120) [.tm 6,.tm 7,.cn (.int .i64 1)],
 Ze 9 0 8,
 Ze 10 1 8,
 Zs 7 4 9,
 Zm 5 10]
 .ret))}
theorem Ypq:Yn Yb Tryz.f145=some Yc8:=by kernel_rfl
def v81:VF:=⟨11,[.cell 4 true 7,.tmp 5],(ZR [u1 2 .box [.tm 0],u1 3 .box [.tm 1],u1 4 (.alloc Z7) [],Zi 5 0] (ZR [Zt 6 7 2,Zt 7 7 3,u1 8 (.call 120) [.tm 6,.tm 7,.cn (.int .i64 (-1))],Ze 9 0 8,Ze 10 1 8,Zs 7 4 9,Zm 5 10] .ret))⟩
theorem YqA:Yn Yb Tryz.f81=some v81:=by kernel_rfl
theorem Ylo{hp:List HO}{n size j:Nat}{k:IntKind}{i:Int}:Vk hp n size [.ptr j 3,.int k i]=BE (Ys hp j) n size j 3 i:=rfl
theorem Ylk{get:Nat->List SV}:WA 6 0 get=get 0++(get 1++(get 2++(get 3++(get 4++(get 5++[]))))):=rfl
theorem Ylp{hp:List HO}{n size:Nat}{t:Bool}{cs:List SV}{k:IntKind}{i:Int}:Vk hp n size [.xp t cs,.int k i]=Kc (0<=i/\i<n/\n*size<=YK cs) (.xp t (YF (i.toNat*size) cs)):=rfl
attribute [go_sem] Ylo Ylp Ylk
def Rt.num(r:Rt):Nat->Int
 |0=>r.a
 |1=>r.b
 |2=>r.c
 |3=>r.d
 |4=>r.e
 |_=>r.f
theorem six{i:Nat}(h:i<6):i=0\/i=1\/i=2\/i=3\/i=4\/i=5:=by omega
theorem Dt(r:Rt){i:Nat}(h:i<6):YP 1 (YF (i*1) [.int .i64 r.a,.int .i64 r.b,.int .i64 r.c,.int .i64 r.d,.int .i64 r.e,.int .i64 r.f])=[.int .i64 (r.num i)]:=by
 rcases six h with rfl|rfl|rfl|rfl|rfl|rfl <;> rfl
theorem UA(r:Rt){i:Nat}(h:i<6):YP 1 (YF (Kw (i:Int) 1) [.int .i64 r.a,.int .i64 r.b,.int .i64 r.c,.int .i64 r.d,.int .i64 r.e,.int .i64 r.f,.int .i64 r.n])=[.int .i64 (r.num i)]:=by
 rcases six h with rfl|rfl|rfl|rfl|rfl|rfl <;> rfl
theorem Uz(r:Rt){i:Nat}(h:i<6):1<=YK (YF (Kw (i:Int) 1) [.int .i64 r.a,.int .i64 r.b,.int .i64 r.c,.int .i64 r.d,.int .i64 r.e,.int .i64 r.f,.int .i64 r.n]):=by
 rcases six h with rfl|rfl|rfl|rfl|rfl|rfl <;> exact KC rfl
def gP(r:Rt):Nat->Nat
 |0=>r.n.toNat
 |i+1=>YI (gP r i) (r.num i).natAbs
theorem UF(r:Rt):gP r 6=J3 r:=rfl
theorem MC(r:Rt):∀i,gP r i<=r.n.toNat\/r.n.toNat=0
 |0=> .inl (Yt _)
 |i+1=>by
  rcases MC r i with h|h
  ·rcases Jc (gP r i)with h0|h0
   ·right
    have key:∀j,gP r j=0->r.n.toNat=0:=fun j=>by
     induction j with
     |zero=>exact id
     |succ j ih=>intro hj;exact ih (Nat.gcd_eq_zero_iff.1 hj).1
    exact key i h0
   ·left;exact Yh (Nat.gcd_le_left _ h0) h
  ·exact .inr h
theorem H7{r:Rt}(h:1<=r.n):∀i,1<=gP r i
 |0=>by show 1<=r.n.toNat;omega
 |i+1=>Nat.gcd_pos_of_pos_left _ (H7 h i)
def G7(r:Rt):Bool:=K3 r.a|| (K3 r.b|| (K3 r.c|| (K3 r.d|| (K3 r.e|| K3 r.f))))
theorem CT{r:Rt}{i:Nat}(h:i<6)(hb:K3 (r.num i)=true):G7 r=true:=by
 unfold G7
 rcases six h with rfl|rfl|rfl|rfl|rfl|rfl <;> (simp only[Rt.num]at hb;rw[hb];simp)
theorem CS{r:Rt}(h:∀i,i<6->K3 (r.num i)=false):G7 r=false:=by
 unfold G7
 have h0:=h 0 (by decide);have h1:=h 1 (by decide);have h2:=h 2 (by decide);have h3:=h 3 (by decide);have h4:=h 4 (by decide);have h5:=h 5 (by decide)
 simp only[Rt.num]at h0 h1 h2 h3 h4 h5
 rw[h0,h1,h2,h3,h4,h5];rfl
theorem C8(r:Rt):Y4 r=if r.n<1\/1000<r.n then 2 else if G7 r=true then 2 else if 1<J3 r then 6 else 0:=rfl
theorem M0(x:Int)(h: -9000000000000000000<=x/\x<=9000000000000000000):max x (IntKind.i64.wrap (0-x))=(x.natAbs:Int):=by
 rw[Yg (0-x) (by omega)]
 omega
def absC:Ctr:={ alias:=false,of:=fun l=>match l with
 | [.int .i64 x]=> .pre (-9000000000000000000<=x/\x<=9000000000000000000) (.fin (.int .i64 (x.natAbs:Nat)) [])
 |_=>noC}
def TB0:Env:=mkE [] []
theorem Yel:YD Yb TB0:=eo (by kernel_rfl) trivial trivial
theorem RR:absC.ok Yb 148:=by
 refine Yy Tryz.func148 Ypt Yel 100 absC fun args k h=>?_
 simp only[absC]at h
 split at h
 ·rename_i x
  obtain⟨hx,h⟩:=h
  refine⟨[.int .i64 x],by simp [leL,le],?_⟩
  dsimp only[Ydb,go_sem,reduceIte,Ya]
  simp only[Yd,Ya,Ye,reduceCtorEq,Yc]
  rw[M0 x hx]
  exact Kb h
 ·exact h.1.elim
def chkRC:Ctr:={ alias:=false,of:=fun l=>match l with
 | [.agg [.int .i64 a,.int .i64 b,.int .i64 c,.int .i64 d,.int .i64 e,.int .i64 f,.int .i64 n]]=> .fin (.int .i64 (Y4 ⟨a,b,c,d,e,f,n⟩)) []
 |_=>noC}
def TB1:Env:=mkE [(148,absC),(130,gcdC)] []
theorem Yem:YD Yb TB1:=eo (by kernel_rfl) ⟨⟨RR,_,Tryz.func148,rfl,rfl⟩,⟨gcd_c,_,Tryz.func130,rfl,rfl⟩,trivial⟩ trivial
theorem Dr:chkRC.ok Yb 121:=by
 refine Yy Tryz.func121 Yo5 Yem 300 chkRC fun args k h=>?_
 simp only[chkRC]at h
 split at h
 ·rename_i a b c d e f n
  refine⟨[.agg [.int .i64 a,.int .i64 b,.int .i64 c,.int .i64 d,.int .i64 e,.int .i64 f,.int .i64 n]],by simp [leL,le],?_⟩
  obtain⟨r,hr⟩:∃r:Rt,r=⟨a,b,c,d,e,f,n⟩:=⟨_,rfl⟩
  rw[<-hr]at h
  have h:k (.int .i64 (Y4 r)) []:=h
  rw[show a=r.a by rw[hr],show b=r.b by rw[hr],show c=r.c by rw[hr],show d=r.d by rw[hr],show e=r.e by rw[hr],show f=r.f by rw[hr],show n=r.n by rw[hr]]
  clear hr
  rw[C8]at h
  dsimp only[YcP,go_sem,reduceIte,Ya]
  simp only[Yd,Ya,Ye,reduceCtorEq,Yc]
  refine⟨fun hc=>?_,fun hc=>?_⟩
  ·rw[if_pos (by simpa using hc)]at h;exact Kb h
  have hn:1<=r.n/\r.n<=1000:=by simp only[K5,decide_eq_false_iff_not]at hc;omega
  rw[if_neg (by omega)]at h
  refine Loop.keep [2,14] Nat (fun i=>[(3,.int .i64 (gP r i:Nat)),(18,.int .i64 i)]) (fun _=>[]) [] (fun i=>i<=6/\∀j,j<i->K3 (r.num j)=false) (fun i=>6-i) ?_ ?_
  ·refine⟨0,⟨by omega,fun j hj=>by omega⟩,?_⟩
   dsimp only[go_sem,reduceIte,Ya]
   simp only[Yf]
   exact⟨(K7 (by omega)).symm,rfl⟩
  ·rintro i ⟨hi,hall⟩
   dsimp only[TB1,Yk,absC,gcdC,Yj,go_sem,reduceIte,Ya]
   simp only[Yd,Ya,Ye,reduceCtorEq,Yc]
   refine⟨fun hlt=>?_,fun hge=>?_⟩
   ·have hi6:i<6:=by omega
    rw[Dt r hi6]
    dsimp only[TB1,Yk,absC,gcdC,go_sem,reduceIte,Ya]
    simp only[Yd,Ya,Ye,reduceCtorEq,Yc]
    have hgl:gP r i<=1000:=by rcases MC r i with h1|h1 <;> omega
    refine⟨⟨by omega,by omega⟩,fun hb=>?_,fun hb=>⟨?_,gP r i,(r.num i).natAbs,⟨rfl,rfl,by omega,?_⟩,i+1,⟨by omega,fun j hj=>?_⟩,by omega,?_⟩⟩
    ·rw[if_pos (CT hi6 hb)]at h;exact Kb h
    ·have:=QZ hb;omega
    ·have:=QZ hb;omega
    ·rcases YY j i with h1|h1
     ·exact hall j h1
     ·obtain rfl:j=i:=by omega
      exact hb
    ·rw[Yg ((i:Int)+1) (by omega)]
     simp only[Yf]
     exact⟨rfl,by simp⟩
   ·obtain rfl:i=6:=by omega
    rw[if_neg (by rw[CS hall];decide),<-UF]at h
    refine⟨fun hc=>?_,fun hc=>?_⟩
    ·rw[if_pos (by omega)]at h;exact Kb h
    ·rw[if_neg (by omega)]at h;exact Kb h
 ·exact h.1.elim
def Z9(q:Nat->Int)(n:Int)(i:Nat):List SV:=
 [.int .i64 (if 0<i then q 0 else 0),.int .i64 (if 1<i then q 1 else 0),.int .i64 (if 2<i then q 2 else 0),.int .i64 (if 3<i then q 3 else 0),.int .i64 (if 4<i then q 4 else 0),.int .i64 (if 5<i then q 5 else 0),.int .i64 n]
theorem SD(q:Nat->Int)(n:Int):Z9 q n 6=[.int .i64 (q 0),.int .i64 (q 1),.int .i64 (q 2),.int .i64 (q 3),.int .i64 (q 4),.int .i64 (q 5),.int .i64 n]:=rfl
theorem SE(q:Nat->Int)(n:Int)(i:Nat):YK (Z9 q n i)=7:=rfl
theorem Xb(q:Nat->Int)(n:Int)(i m:Nat):Jl m (Z9 q n i):=by simp [Z9,Jl,bnd]
theorem SF(q:Nat->Int)(n:Int){i:Nat}(h:i<6):J6 (Z9 q n i) (Kw (i:Int) 1) [.int .i64 (q i)]=Z9 q n (i+1):=by
 rcases six h with rfl|rfl|rfl|rfl|rfl|rfl <;> rfl
theorem Gl(i:Nat):Kw (i:Int) 1=i:=by simp [Kw]
theorem A3(x:Int)(g:Nat)(h: -9000000000000000000<=x/\x<=9000000000000000000): -9000000000000000000<=x.tdiv g/\x.tdiv g<=9000000000000000000:=by
 have h1:(x.tdiv g).natAbs<=x.natAbs:=by
  rw[Int.natAbs_tdiv]
  exact XD _ _
 omega
def madeC:Ctr:={ alias:=false,of:=fun l=>match l with
 | [.agg [.int .i64 a,.int .i64 b,.int .i64 c,.int .i64 d,.int .i64 e,.int .i64 f],.int .i64 n]=>
   .pre (1<=n/\n<=9000000000000000000/\∀i,i<6-> -9000000000000000000<=(Rt.mk a b c d e f n).num i/\(Rt.mk a b c d e f n).num i<=9000000000000000000) (.fin (.tup [.agg (Yr (Jf ⟨a,b,c,d,e,f,n⟩).1),.int .i64 (Jf ⟨a,b,c,d,e,f,n⟩).2]) [])
 |_=>noC}
theorem JK{k:SV->List HO->Prop}{al:Bool}{hp:List HO}{r:Rt}{e:Int}(h:k (.tup [.agg (Yr r),.int .i64 e]) []):Jz al k (.tup [.agg (Yr r),.int .i64 e]) hp:=
 Kv (show k _ []from h) (JG (.tup [.agg (Yr r),.int .i64 e]) ⟨⟨trivial,trivial,trivial,trivial,trivial,trivial,trivial,trivial⟩,trivial,trivial⟩) (fun _=>by simp [Y3,Y5,Yr])
theorem VU{k:SV->List HO->Prop}{al:Bool}{hp:List HO}{r:Rt}(h:k (.agg (Yr r)) []):Jz al k (.agg (Yr r)) hp:=
 Kv (show k _ []from h) (JG (.agg (Yr r)) ⟨trivial,trivial,trivial,trivial,trivial,trivial,trivial,trivial⟩) (fun _=>by simp [Y3,Y5,Yr])
def TB2:Env:=mkE [(148,absC),(130,gcdC),(121,chkRC)] []
theorem Yen:YD Yb TB2:=eo (by kernel_rfl) ⟨⟨RR,_,Tryz.func148,rfl,rfl⟩,⟨gcd_c,_,Tryz.func130,rfl,rfl⟩,⟨Dr,_,Tryz.func121,rfl,rfl⟩,trivial⟩ trivial
theorem Lx:madeC.ok Yb 147:=by
 refine Yy Tryz.func147 Yps Yen 300 madeC fun args k h=>?_
 simp only[madeC]at h
 split at h
 ·rename_i a b c d e f n
  refine⟨[.agg [.int .i64 a,.int .i64 b,.int .i64 c,.int .i64 d,.int .i64 e,.int .i64 f],.int .i64 n],by simp [leL,le],?_⟩
  obtain⟨r,hr⟩:∃r:Rt,r=⟨a,b,c,d,e,f,n⟩:=⟨_,rfl⟩
  rw[<-hr]at h
  rw[show a=r.a by rw[hr],show b=r.b by rw[hr],show c=r.c by rw[hr],show d=r.d by rw[hr],show e=r.e by rw[hr],show f=r.f by rw[hr]]
  rw[show n=r.n by rw[hr]]at h⊢
  clear hr
  obtain⟨⟨hn,hn2,hb⟩,h⟩:=h
  have h:k (.tup [.agg (Yr (Jf r).1),.int .i64 (Jf r).2]) []:=h
  dsimp only[Yda,go_sem,reduceIte,Ya]
  simp only[Yd,Ya,Ye,reduceCtorEq,Yc]
  refine Loop.keep [1,0,1,0,7] Nat (fun i=>[(6,.int .i64 (gP r i:Nat)),(14,.int .i64 i)]) (fun _=>[]) [] (fun i=>i<=6) (fun i=>6-i) ?_ ?_
  ·refine⟨0,by omega,?_⟩
   dsimp only[go_sem,reduceIte,Ya]
   simp only[Yf]
   repeat' apply YC
   all_goals first|exact trivial|decide|rfl|omega|exact(K7 (by omega)).symm|exact YN _ (Xb _ _ _ _) |simp
  ·rintro i hi
   dsimp only[TB2,Yk,absC,gcdC,Yj,go_sem,reduceIte,Ya]
   simp only[Yd,Ya,Ye,reduceCtorEq,Yc]
   have hgl:gP r i<=9000000000000000000:=by rcases MC r i with h1|h1 <;> omega
   have hg0:=H7 hn i
   refine⟨fun hlt=>?_,fun hge=>?_⟩
   ·have hi6:i<6:=by omega
    rw[Dt r hi6]
    dsimp only[TB2,Yk,absC,gcdC,go_sem,reduceIte,Ya]
    simp only[Yd,Ya,Ye,reduceCtorEq,Yc]
    refine⟨⟨by omega,by omega⟩,hb i hi6,gP r i,(r.num i).natAbs,⟨rfl,rfl,by omega,?_⟩,i+1,by omega,by omega,?_⟩
    ·have:=hb i hi6;omega
    ·rw[Yg ((i:Int)+1) (by omega)]
     simp only[Yf]
     repeat' apply YC
     all_goals first|exact trivial|decide|rfl|omega|exact(K7 (by omega)).symm|exact YN _ (Xb _ _ _ _) |simp
   ·obtain rfl:i=6:=by omega
    rw[UF]at hgl hg0⊢
    obtain⟨g,hg⟩:∃g,g=J3 r:=⟨_,rfl⟩
    rw[Jf,<-hg]at h
    rw[<-hg]at hgl hg0⊢
    have hdn:=A3 r.n g (by omega)
    rw[Yg (r.n.tdiv (g:Int)) (by omega)]
    refine⟨by omega,?_⟩
    refine Loop.keep [4,0,0,2,16] Nat (fun i=>[(27,.int .i64 i)]) (fun i=>[(2,.box (Z9 (fun j=>(r.num j).tdiv g) (r.n.tdiv g) i))]) [] (fun i=>i<=6) (fun i=>6-i) ?_ ?_
    ·refine⟨0,by omega,?_⟩
     dsimp only[Z9,go_sem,reduceIte,Ya]
     simp only[Yf]
     repeat' apply YC
     all_goals first|exact trivial|decide|rfl|omega|exact(K7 (by omega)).symm|exact YN _ (Xb _ _ _ _) |simp
    ·rintro i hi
     dsimp only[TB2,Yk,chkRC,Yj,go_sem,reduceIte,Ya]
     simp only[Yd,Ya,Ye,reduceCtorEq,Yc]
     refine⟨fun hlt=>?_,fun hge=>?_⟩
     ·have hi6:i<6:=by omega
      rw[Dt r hi6]
      dsimp only[TB2,Yk,chkRC,go_sem,reduceIte,Ya]
      simp only[Yd,Ya,Ye,reduceCtorEq,Yc]
      have hw:=A3 (r.num i) g (hb i hi6)
      have e:J6 (Z9 (fun j=>(r.num j).tdiv g) (r.n.tdiv g) i) (Kw (i:Int) 1) [.int .i64 ((r.num i).tdiv g)]=Z9 (fun j=>(r.num j).tdiv g) (r.n.tdiv g) (i+1):=SF (fun j=>(r.num j).tdiv g) (r.n.tdiv g) hi6
      rw[Yg ((r.num i).tdiv g) (by omega),Yg ((i:Int)+1) (by omega),e]
      refine⟨⟨by omega,by omega⟩,by omega,⟨by omega,by omega⟩,by rw[Gl,SE];omega,i+1,by omega,by omega,?_⟩
      simp only[Yf]
      repeat' apply YC
      all_goals first|exact trivial|decide|rfl|omega|exact(K7 (by omega)).symm|exact YN _ (Xb _ _ _ _) |simp
     ·obtain rfl:i=6:=by omega
      simp only[SD]
      dsimp only[TB2,Yk,chkRC,Rt.num,go_sem,reduceIte,Ya]
      simp only[Yd,Ya,Ye,reduceCtorEq,Yc]
      refine⟨fun hc=>?_,fun hc=>?_⟩
      ·rw[if_neg (show¬Y4 (QP r g)=0 from hc)]at h;exact JK (r:=KW) (e:=7) h
      ·rw[if_pos (show Y4 (QP r g)=0 from hc)]at h;exact JK (r:=QP r g) (e:=0) h
 ·exact h.1.elim
def orF:List Int->Int
 | []=>0
 |x::l=>if x≠0 then x else orF l
theorem YkI{l:List Int}{i:Nat}(hi:i<l.length)(h:∀j,j<i->l.getD j 0=0)(hx:l.getD i 0≠0):orF l=l.getD i 0:=by
 induction l generalizing i with
 |nil=>simp at hi
 |cons x l ih=>
  cases i with
  |zero=>exact if_pos hx
  |succ i=>
   rw[orF,if_neg (by have:=h 0 (by omega);simpa using this)]
   exact ih (by simpa using hi) (fun j hj=>h (j+1) (by omega)) hx
theorem YkJ{l:List Int}(h:∀j,j<l.length->l.getD j 0=0):orF l=0:=by
 induction l with
 |nil=>rfl
 |cons x l ih=>
  rw[orF,if_neg (by have:=h 0 (by simp);simpa using this)]
  exact ih fun j hj=>h (j+1) (by simpa using hj)
def orC:Ctr:={ alias:=false,of:=fun l=>match l with
 | [.vs _ _ n sz get]=> .ex (List Int) fun l=> .pre (lsP 1 UC n sz get l/\n<=1000000) (.fin (.int .i64 (orF l)) [])
 |_=>noC}
def TB3:Env:=mkE [] []
theorem Yeo:YD Yb TB3:=eo (by kernel_rfl) trivial trivial
theorem or_c:orC.ok Yb 154:=by
 refine Yy Tryz.func154 Ypy Yeo 300 orC fun args k h=>?_
 simp only[orC]at h
 split at h
 ·rename_i tt z n sz get
  obtain⟨l,⟨⟨rfl,rfl,hg⟩,hn⟩,h⟩:=h
  refine⟨[.vs tt z l.length 1 (fun k=>UC (l.getD k default))],⟨⟨id,rfl,rfl,rfl,hg⟩,trivial⟩,?_⟩
  have h:k (.int .i64 (orF l)) []:=h
  dsimp only[Ydg,UC,go_sem,reduceIte,Ya]
  simp only[Yd,Ya,Ye,reduceCtorEq,Yc]
  refine Loop.keep [3,2,0] Nat (fun i=>[(8,.int .i64 i)]) (fun _=>[]) [] (fun i=>i<=l.length/\∀j,j<i->l.getD j 0=0) (fun i=>l.length-i) ?_ ?_
  ·refine⟨0,⟨by omega,fun j hj=>by omega⟩,?_⟩
   dsimp only[go_sem,reduceIte,Ya]
   simp only[Yf]
   repeat' apply YC
   all_goals first|exact trivial|decide|rfl|omega|exact(K7 (by omega)).symm|exact YN _ (Xb _ _ _ _) |simp
  ·rintro i ⟨hi,hall⟩
   dsimp only[UC,Yj,go_sem,reduceIte,Ya]
   simp only[Yd,Ya,Ye,reduceCtorEq,Yc]
   refine⟨fun hlt=>⟨⟨by omega,by omega⟩,fun hc=>?_,fun hc=>⟨i+1,⟨by omega,fun j hj=>?_⟩,by omega,?_⟩⟩,fun hge=>?_⟩
   ·rw[YkI (by omega) hall hc]at h;exact Kb h
   ·rcases YY j i with h1|h1
    ·exact hall j h1
    ·obtain rfl:j=i:=by omega
     exact hc
   ·rw[Yg ((i:Int)+1) (by omega)]
    simp only[Yf]
    repeat' apply YC
    all_goals first|exact trivial|decide|rfl|omega|exact(K7 (by omega)).symm|exact YN _ (Xb _ _ _ _) |simp
   ·obtain rfl:i=l.length:=by omega
    rw[YkJ hall]at h;exact Kb h
 ·exact h.1.elim
def TB5:Env:=mkE [(154,orC)] []
theorem Yeq:YD Yb TB5:=eo (by kernel_rfl) ⟨⟨or_c,_,Tryz.func154,rfl,rfl⟩,trivial⟩ trivial
theorem Yg8:orC.ok Yb 146:=by
 refine Yy Tryz.func146 Ypr Yeq 300 orC fun args k h=>?_
 simp only[orC]at h
 split at h
 ·rename_i tt z n sz get
  obtain⟨l,⟨⟨rfl,rfl,hg⟩,hn⟩,h⟩:=h
  refine⟨[.vs tt z l.length 1 (fun k=>UC (l.getD k default))],⟨⟨id,rfl,rfl,rfl,hg⟩,trivial⟩,?_⟩
  have h:k (.int .i64 (orF l)) []:=h
  dsimp only[Yc9,TB5,Yk,orC,UC,go_sem,reduceIte,Ya]
  simp only[Yd,Ya,Ye,reduceCtorEq,Yc]
  exact⟨l,⟨⟨rfl,rfl,fun k _=>YW _⟩,hn⟩,Kb h⟩
 ·exact h.1.elim
def Wg(q:Nat->Int)(i k:Nat):Int:=if k<i then q k else 0
theorem M7(q:Nat->Int):Wg q 6 0=q 0:=rfl
theorem M8(q:Nat->Int):Wg q 6 1=q 1:=rfl
theorem M9(q:Nat->Int):Wg q 6 2=q 2:=rfl
theorem Na(q:Nat->Int):Wg q 6 3=q 3:=rfl
theorem Nb(q:Nat->Int):Wg q 6 4=q 4:=rfl
theorem Nc(q:Nat->Int):Wg q 6 5=q 5:=rfl
theorem M6(q:Nat->Int)(i k:Nat):(if k=i then q i else Wg q i k)=Wg q (i+1) k:=by
 unfold Wg
 by_cases h:k=i
 ·subst h;rw[if_pos rfl,if_pos (by omega)]
 ·rw[if_neg h]
  by_cases h2:k<i
  ·rw[if_pos h2,if_pos (by omega)]
  ·rw[if_neg h2,if_neg (by omega)]
theorem NV{i:Nat}(h:i<6):Jt 1 [.int .i64 0,.int .i64 0,.int .i64 0,.int .i64 0,.int .i64 0,.int .i64 0] i=[.int .i64 0]:=by
 rcases six h with rfl|rfl|rfl|rfl|rfl|rfl <;> rfl
def Qb(x y:Rt)(s:Int)(i:Nat):Int:=x.num i*y.n+s*y.num i*x.n
theorem E7(x y:Rt)(s:Int):KQ x y s=if Y4 x≠0 then(KW,Y4 x)else if Y4 y≠0 then(KW,Y4 y)else Jf ⟨Qb x y s 0,Qb x y s 1,Qb x y s 2,Qb x y s 3,Qb x y s 4,Qb x y s 5,x.n*y.n⟩:=rfl
theorem Wj{r:Rt}(h:Y4 r=0){i:Nat}(hi:i<6): -100000<=r.num i/\r.num i<=100000:=by
 obtain⟨_,h1,h2,h3,h4,h5,h6,_⟩:=VW h
 rcases six hi with rfl|rfl|rfl|rfl|rfl|rfl
 ·exact QZ h1
 ·exact QZ h2
 ·exact QZ h3
 ·exact QZ h4
 ·exact QZ h5
 ·exact QZ h6
theorem XX{r:Rt}(h:Y4 r=0):1<=r.n/\r.n<=1000:=(VW h).1
theorem BG{x y:Rt}{s:Int}(hx:Y4 x=0)(hy:Y4 y=0)(hs:s=1\/s= -1){i:Nat}(hi:i<6):
 IntKind.i64.wrap (x.num i*y.n)=x.num i*y.n/\IntKind.i64.wrap (s*y.num i)=s*y.num i/\IntKind.i64.wrap (s*y.num i*x.n)=s*y.num i*x.n/\IntKind.i64.wrap (x.num i*y.n+s*y.num i*x.n)=Qb x y s i/\ -1000000000<=Qb x y s i/\Qb x y s i<=1000000000:=by
 have a1:=Wj hx hi
 have a2:=Wj hy hi
 have a3:=XX hx
 have a4:=XX hy
 have b1:=Jv (x:=x.num i) (y:=y.n) (X:=100000) (Y:=1000) a1 (by omega)
 have a5: -100000<=s*y.num i/\s*y.num i<=100000:=by rcases hs with rfl|rfl <;> omega
 have b2:=Jv (x:=s*y.num i) (y:=x.n) (X:=100000) (Y:=1000) a5 (by omega)
 unfold Qb
 refine⟨Yg _ (by omega),Yg _ (by omega),Yg _ (by omega),Yg _ (by omega),by omega,by omega⟩
def joinC:Ctr:={ alias:=false,of:=fun l=>match l with
 | [.agg [.int .i64 a,.int .i64 b,.int .i64 c,.int .i64 d,.int .i64 e,.int .i64 f,.int .i64 n],.agg [.int .i64 a',.int .i64 b',.int .i64 c',.int .i64 d',.int .i64 e',.int .i64 f',.int .i64 n'],.int .i64 s]=>
   .pre (s=1\/s= -1) (.fin (.tup [.agg (Yr (KQ ⟨a,b,c,d,e,f,n⟩ ⟨a',b',c',d',e',f',n'⟩ s).1),.int .i64 (KQ ⟨a,b,c,d,e,f,n⟩ ⟨a',b',c',d',e',f',n'⟩ s).2]) [])
 |_=>noC}
def TB4:Env:=mkE [(121,chkRC),(147,madeC),(146,orC)] []
theorem Yep:YD Yb TB4:=eo (by kernel_rfl) ⟨⟨Dr,_,Tryz.func121,rfl,rfl⟩,⟨Lx,_,Tryz.func147,rfl,rfl⟩,⟨Yg8,_,Tryz.func146,rfl,rfl⟩,trivial⟩ trivial
theorem YhZ:joinC.ok Yb 120:=by
 refine Yy Tryz.func120 Yo4 Yep 300 joinC fun args k h=>?_
 simp only[joinC]at h
 split at h
 ·rename_i a b c d e f n a' b' c' d' e' f' n' s
  refine⟨[.agg [.int .i64 a,.int .i64 b,.int .i64 c,.int .i64 d,.int .i64 e,.int .i64 f,.int .i64 n],.agg [.int .i64 a',.int .i64 b',.int .i64 c',.int .i64 d',.int .i64 e',.int .i64 f',.int .i64 n'],.int .i64 s],by simp [leL,le],?_⟩
  obtain⟨x,hx⟩:∃r:Rt,r=⟨a,b,c,d,e,f,n⟩:=⟨_,rfl⟩
  obtain⟨y,hy⟩:∃r:Rt,r=⟨a',b',c',d',e',f',n'⟩:=⟨_,rfl⟩
  rw[<-hx,<-hy]at h
  rw[show a=x.a by rw[hx],show b=x.b by rw[hx],show c=x.c by rw[hx],show d=x.d by rw[hx],show e=x.e by rw[hx],show f=x.f by rw[hx],show n=x.n by rw[hx]]
  rw[show a'=y.a by rw[hy],show b'=y.b by rw[hy],show c'=y.c by rw[hy],show d'=y.d by rw[hy],show e'=y.e by rw[hy],show f'=y.f by rw[hy],show n'=y.n by rw[hy]]
  clear hx hy
  obtain⟨hs,h⟩:=h
  have h:k (.tup [.agg (Yr (KQ x y s).1),.int .i64 (KQ x y s).2]) []:=h
  dsimp only[YcO,TB4,Yk,chkRC,orC,go_sem,reduceIte,Ya]
  simp only[Yd,Ya,Ye,reduceCtorEq,Yc]
  refine⟨by decide,[Y4 x,Y4 y],⟨rfl,rfl,fun k hk=>?_⟩,fun hc=>?_,fun hc=>?_⟩
  ·match k,hk with
   |0,_=>exact YW _
   |1,_=>exact YW _
  ·rw[E7]at h
   by_cases h0:Y4 x=0
   ·rw[if_neg (by rw[h0];decide)]at h
    have e:orF [Y4 x,Y4 y]=Y4 y:=by
     rw[orF,if_neg (by rw[h0];decide),orF]
     split
     ·rfl
     ·rename_i h1;rw[orF];omega
    rw[e]at hc⊢
    rw[if_pos hc]at h
    exact JK (r:=KW) h
   ·have e:orF [Y4 x,Y4 y]=Y4 x:=by rw[orF,if_pos h0]
    rw[e]
    rw[if_pos h0]at h
    exact JK (r:=KW) h
  have hcx:Y4 x=0:=by
   by_cases h0:Y4 x=0
   ·exact h0
   ·rw[orF,if_pos h0]at hc;exact absurd hc h0
  have hcy:Y4 y=0:=by
   rw[orF,if_neg (by rw[hcx];decide),orF]at hc
   by_cases h0:Y4 y=0
   ·exact h0
   ·rw[if_pos h0]at hc;exact absurd hc h0
  rw[E7,if_neg (by rw[hcx];decide),if_neg (by rw[hcy];decide)]at h
  refine Loop.keep [2,0,0,1,0,1] Nat (fun i=>[(21,.int .i64 i)]) (fun i=>[(4,.own false 1 6 (fun k=>[.int .i64 (Wg (Qb x y s) i k)]))]) [] (fun i=>i<=6) (fun i=>6-i) ?_ ?_
  ·refine⟨0,by omega,?_⟩
   dsimp only[go_sem,reduceIte,Ya]
   simp only[Yf]
   refine⟨⟨by decide,by decide,by decide,by decide,rfl⟩,fun k hk=>?_⟩
   rw[NV hk]
   exact⟨⟨rfl,rfl⟩,trivial⟩
  ·rintro i hi
   dsimp only[TB4,Yk,madeC,Yj,go_sem,reduceIte,Ya]
   simp only[Yd,Ya,Ye,reduceCtorEq,Yc]
   refine⟨fun hlt=>?_,fun hge=>?_⟩
   ·have hi6:i<6:=by omega
    have d1:=Uz x hi6
    have d2:=Uz y hi6
    rw[UA x hi6]
    dsimp only[TB4,Yk,madeC,Yj,go_sem,reduceIte,Ya]
    simp only[Yd,Ya,Ye,reduceCtorEq,Yc]
    rw[UA y hi6]
    dsimp only[TB4,Yk,madeC,Yj,go_sem,reduceIte,Ya]
    simp only[Yd,Ya,Ye,reduceCtorEq,Yc]
    obtain⟨j1,j2,j3,j4,_⟩:=BG hcx hcy hs hi6
    rw[j1,j2,j3,j4]
    refine⟨⟨by omega,by omega⟩,d1,⟨by omega,by omega⟩,d2,⟨by omega,by omega⟩,hi6,i+1,by omega,by omega,?_⟩
    rw[Yg ((i:Int)+1) (by omega)]
    simp only[Yf]
    refine⟨⟨by decide,by decide,by decide,by decide,by simp⟩,?_⟩
    intro k hk
    rw[<-M6]
    split
    ·exact⟨⟨rfl,rfl⟩,trivial⟩
    ·exact⟨⟨rfl,rfl⟩,trivial⟩
   ·obtain rfl:i=6:=by omega
    have a3:=XX hcx
    have a4:=XX hcy
    have hm:=Jv (x:=x.n) (y:=y.n) (X:=1000) (Y:=1000) (by omega) (by omega)
    have hm1:1<=x.n*y.n:=Int.mul_pos (by omega) (by omega)
    rw[Yg (x.n*y.n) (by omega)]
    simp only[M7,M8,M9,Na,Nb,Nc]
    dsimp only[TB4,Yk,madeC,Yr,go_sem,reduceIte,Ya]
    simp only[Yd,Ya,Ye,reduceCtorEq,Yc]
    refine⟨⟨hm1,by omega,fun i hi=>?_⟩,?_⟩
    ·have:=(BG hcx hcy hs hi).2.2.2.2
     rcases six hi with rfl|rfl|rfl|rfl|rfl|rfl <;> (simp only[Rt.num];omega)
    ·exact⟨by decide,by decide,JK (r:=(Jf ⟨Qb x y s 0,Qb x y s 1,Qb x y s 2,Qb x y s 3,Qb x y s 4,Qb x y s 5,x.n*y.n⟩).1) h⟩
 ·exact h.1.elim
def Jp(s:Int):Ctr:={ alias:=false,of:=fun l=>match l with
 | [.agg [.int .i64 a,.int .i64 b,.int .i64 c,.int .i64 d,.int .i64 e,.int .i64 f,.int .i64 n],.agg [.int .i64 a',.int .i64 b',.int .i64 c',.int .i64 d',.int .i64 e',.int .i64 f',.int .i64 n']]=>
   .fin (.tup [.agg (Yr (KQ ⟨a,b,c,d,e,f,n⟩ ⟨a',b',c',d',e',f',n'⟩ s).1),.int .i64 (KQ ⟨a,b,c,d,e,f,n⟩ ⟨a',b',c',d',e',f',n'⟩ s).2]) []
 |_=>noC}
def TB6:Env:=mkE [(120,joinC)] []
theorem RF:YD Yb TB6:=eo (by kernel_rfl) ⟨⟨YhZ,_,Tryz.func120,rfl,rfl⟩,trivial⟩ trivial
theorem YjT:(Jp 1).ok Yb 145:=by
 refine Yy Tryz.func145 Ypq RF 300 (Jp 1) fun args k h=>?_
 simp only[Jp]at h
 split at h
 ·rename_i a b c d e f n a' b' c' d' e' f' n'
  refine⟨[.agg [.int .i64 a,.int .i64 b,.int .i64 c,.int .i64 d,.int .i64 e,.int .i64 f,.int .i64 n],.agg [.int .i64 a',.int .i64 b',.int .i64 c',.int .i64 d',.int .i64 e',.int .i64 f',.int .i64 n']],by simp [leL,le],?_⟩
  dsimp only[Yc8,TB6,Yk,joinC,Yr,go_sem,reduceIte,Ya]
  simp only[Yd,Ya,Ye,reduceCtorEq,Yc]
  exact⟨by decide,by decide,by decide,JK (r:=(KQ ⟨a,b,c,d,e,f,n⟩ ⟨a',b',c',d',e',f',n'⟩ 1).1) h⟩
 ·exact h.1.elim
theorem Tg:(Jp (-1)).ok Yb 81:=by
 refine Yy Tryz.func81 YqA RF 300 (Jp (-1)) fun args k h=>?_
 simp only[Jp]at h
 split at h
 ·rename_i a b c d e f n a' b' c' d' e' f' n'
  refine⟨[.agg [.int .i64 a,.int .i64 b,.int .i64 c,.int .i64 d,.int .i64 e,.int .i64 f,.int .i64 n],.agg [.int .i64 a',.int .i64 b',.int .i64 c',.int .i64 d',.int .i64 e',.int .i64 f',.int .i64 n']],by simp [leL,le],?_⟩
  dsimp only[v81,TB6,Yk,joinC,Yr,go_sem,reduceIte,Ya]
  simp only[Yd,Ya,Ye,reduceCtorEq,Yc]
  exact⟨by decide,by decide,by decide,JK (r:=(KQ ⟨a,b,c,d,e,f,n⟩ ⟨a',b',c',d',e',f',n'⟩ (-1)).1) h⟩
 ·exact h.1.elim
def v82:VF:=⟨34,[.tmp 2,.tmp 3,.tmp 4],(ZR [u1 1 .box [.tm 0],u1 2 .mov [.cn .nil],Zi 3 0,Zi 4 0] (.seq (ZR [Zt 9 7 1,Zc 10 121 9,Zm 5 10] (ZR [Zm 11 5,Zq 12 .neq 11 0] (ZC 12 (ZR [Zm 13 5,u1 2 .mov [.cn .nil],Zi 3 0,Zm 4 13] .ret) .skip))) (ZR [u1 6 .mov [.cn .nil]] (.seq (ZR [Za 14 0 1,Zt 15 6 14,Zi 16 0] (.block 0 (.loop (ZR [Zq 17 .lss 16 6] (.seq (ZC 17 .skip (.exit 0)) (.seq (.block 1 (ZR [Zm 18 16,u1 19 (.index false 6 1) [.tm 15,.tm 16],Zm 7 18,Zm 8 19] (ZR [Zm 20 8,Zq 21 .neq 20 0] (ZC 21 (.region [Zm 22 6,Zm 23 7,u1 24 (.idxArr 6 1) [.cn (.xp false [(.int .i64 2),(.int .i64 3),(.int .i64 5),(.int .i64 7),(.int .i64 11),(.int .i64 13)]),.tm 23],Zf 25 1 24,Zm 26 8,u1 27 (.build Z2 [(0,1),(1,1)]) [.tm 25,.tm 26],u1 28 (.buildSlice 2 1 Z2 [(0,2)]) [.tm 27],u1 29 (.append 2 16 Z2) [.tm 22,.tm 28],Zm 6 29]) .skip)))) (.region [Zp 30 16 1,Zm 16 30]))))))) (.seq (.draw [] [Zu 31 6,Zy 32 6 1,Zv 33 1 32,Zu 2 31,Zu 3 33,w1 4 .mov [.cn (.int .i64 0)]]) .ret)))))⟩
theorem YqB:Yn Yb Tryz.f82=some v82:=by kernel_rfl
def Yc5:VF:={ ntmps:=62,res:=[.cell 6 true 7,.tmp 7],body:=
 (ZR [u1 3 .box [.tm 0],
 u1 6 (.alloc Z7) [],
 Zi 7 0]
 (.seq (ZR [Zt 10 7 3,
 Zc 11 121 10,
 Zm 8 11]
 (ZR [Zm 12 8,
 Zq 13 .neq 12 0]
 (ZC 13 (ZR [u1 14 (.build Z7 []) [],
 Zm 15 8,
 Zs 7 6 14,
 Zm 7 15]
 .ret)
  .skip)))
 (.seq (ZR [Zm 16 1,
 Zq 17 .lss 16 (-1000),
 Zm 18 17,
 Zg 19 18 false 1,
 u2 20 18 false (.cmp .gtr) [.tm 19,.cn (.int .i64 1000)],
 u1 21 .or [.tm 18,.tm 20],
 Zm 22 21,
 Zg 23 22 false 2,
 u2 24 22 false (.cmp .lss) [.tm 23,.cn (.int .i64 (-1000))],
 u1 25 .or [.tm 22,.tm 24],
 Zm 26 25,
 Zg 27 26 false 2,
 u2 28 26 false (.cmp .gtr) [.tm 27,.cn (.int .i64 1000)],
 u1 29 .or [.tm 26,.tm 28],
 Zm 30 29,
 Zg 31 30 false 2,
 u2 32 30 false (.cmp .eql) [.tm 31,.cn (.int .i64 0)],
 u1 33 .or [.tm 30,.tm 32]]
 (ZC 33 (ZR [u1 34 (.build Z7 []) [],
 Zs 7 6 34,
 Zi 7 2]
 .ret)
  .skip))
 (.seq (ZR [Zm 35 2,
 Zq 36 .lss 35 0]
 (ZC 36 (.region [Zm 37 1,
 u1 38 .neg [.tm 37],
 Zm 39 2,
 u1 40 .neg [.tm 39],
 Zm 1 38,
 Zm 2 40])
  .skip))
 (.seq (ZR [Zi 41 0]
 (.block 0 (.loop (ZR [Zq 42 .lss 41 6]
 (.seq (ZC 42 .skip
  (.exit 0))
 (.seq (.block 1 (ZR [Zm 43 41,
 Zm 9 43]
 (.region [Zm 44 9,
 Za 45 0 3,
 u1 46 (.idxArr 6 1) [.tm 45,.tm 44],
 Zf 47 1 46,
 Zm 48 1,
 Zo 49 .mul 47 48,
 Za 50 0 3,
 u1 51 (.idxArr 6 1) [.tm 50,.tm 44],
 Zs 1 51 49])))
 (.region [Zp 52 41 1,
 Zm 41 52])))))))
 (ZR [Za 53 0 3,
 Zt 54 6 53,
 Za 55 6 3,
 Zf 56 1 55,
 Zm 57 2,
 Zo 58 .mul 56 57,
 Zd 59 147 54 58,
 Ze 60 0 59,
 Ze 61 1 59,
 Zs 7 6 60,
 Zm 7 61]
 .ret))))))}
theorem Ypn:Yn Yb Tryz.f142=some Yc5:=by kernel_rfl
def prm:Nat->Int
 |0=>2
 |1=>3
 |2=>5
 |3=>7
 |4=>11
 |_=>13
def tP(r:Rt):Nat->List (Int×Int)
 |0=>[]
 |i+1=>tP r i++tm1 (prm i) (r.num i)
theorem Ycl(r:Rt):tP r 6=Yu r:=by
 simp only[tP,Yu,prm,Rt.num,VP,List.append_assoc]
theorem A5{p n:Int}(h:n=0):tm1 p n=[]:=if_pos h
theorem Ycr{p n:Int}(h:¬n=0):tm1 p n=[(p,n)]:=if_neg h
theorem PW(r:Rt):∀i,(tP r i).length<=i
 |0=>Yt _
 |i+1=>by
  have:=PW r i
  have h:(tm1 (prm i) (r.num i)).length<=1:=by unfold tm1;split <;> simp
  rw[tP,JO];omega
theorem DH{i:Nat}(h:i<6):YP 1 (YF (i*1) [.int .i64 2,.int .i64 3,.int .i64 5,.int .i64 7,.int .i64 11,.int .i64 13])=[.int .i64 (prm i)]:=by
 rcases six h with rfl|rfl|rfl|rfl|rfl|rfl <;> rfl
theorem YgB{i:Nat}(h:i<6):1<=YK (YF (i*1) [.int .i64 2,.int .i64 3,.int .i64 5,.int .i64 7,.int .i64 11,.int .i64 13]):=by
 rcases six h with rfl|rfl|rfl|rfl|rfl|rfl <;> exact KC rfl
theorem Bv{α:Type}[Inhabited α]{l m:List α}{k:Nat}(h:k<l.length):(l++m).getD k default=l.getD k default:=by
 rw[Kh,QY h,<-Kh]
theorem Bw{α:Type}[Inhabited α]{l m:List α}{k:Nat}(h:l.length<=k):(l++m).getD k default=m.getD (k-l.length) default:=by
 rw[Kh,Z0 h,<-Kh]
theorem Ut{l:List (Int×Int)}{p q:Int}{a b j k:Nat}(hk:k<l.length+1):
 leL a b (if k<l.length then [SV.int .i64 (l.getD k default).fst,SV.int .i64 (l.getD k default).snd]else YU j (YP 2 (YF ((k-l.length)*2) [SV.int .i64 p,SV.int .i64 q])))
  [SV.int .i64 ((l++[(p,q)]).getD k default).fst,SV.int .i64 ((l++[(p,q)]).getD k default).snd]:=by
 by_cases h:k<l.length
 ·rw[if_pos h,Bv h];exact⟨⟨rfl,rfl⟩,⟨rfl,rfl⟩,trivial⟩
 ·rw[if_neg h,Bw (by omega),show k-l.length=0 by omega];exact⟨⟨rfl,rfl⟩,⟨rfl,rfl⟩,trivial⟩
theorem GD{p q:Int}{k:Nat}(hk:k<1):YK (YP 2 (YF (k*2) [SV.int .i64 p,SV.int .i64 q]))=2/\Jg (YP 2 (YF (k*2) [SV.int .i64 p,SV.int .i64 q])):=by
 obtain rfl:k=0:=by omega
 exact⟨rfl,trivial,trivial,trivial⟩
def trmC:Ctr:={ alias:=false,of:=fun l=>match l with
 | [.agg [.int .i64 a,.int .i64 b,.int .i64 c,.int .i64 d,.int .i64 e,.int .i64 f,.int .i64 n]]=>
   if Y4 ⟨a,b,c,d,e,f,n⟩≠0 then .fin (.tup [.nil,.int .i64 0,.int .i64 (Y4 ⟨a,b,c,d,e,f,n⟩)]) [.box [.int .i64 a,.int .i64 b,.int .i64 c,.int .i64 d,.int .i64 e,.int .i64 f,.int .i64 n]]
   else .all Bool fun z=> .fin (.tup [.own 1 0 (Yu ⟨a,b,c,d,e,f,n⟩).length 2,.int .i64 n,.int .i64 0]) [.box [.int .i64 a,.int .i64 b,.int .i64 c,.int .i64 d,.int .i64 e,.int .i64 f,.int .i64 n],.own z 2 (Yu ⟨a,b,c,d,e,f,n⟩).length (fun k=>Yw ((Yu ⟨a,b,c,d,e,f,n⟩).getD k default))]
 |_=>noC}
def TC0:Env:=mkE [(121,chkRC)] []
theorem Yer:YD Yb TC0:=eo (by kernel_rfl) ⟨⟨Dr,_,Tryz.func121,rfl,rfl⟩,trivial⟩ trivial
theorem Yct:trmC.ok Yb 82:=by
 refine S1 Tryz.func82 YqB Yer 300 trmC fun args k h=>?_
 simp only[trmC]at h
 split at h
 ·rename_i a b c d e f n
  refine⟨[.agg [.int .i64 a,.int .i64 b,.int .i64 c,.int .i64 d,.int .i64 e,.int .i64 f,.int .i64 n]],by simp [leL,le],?_⟩
  obtain⟨r,hr⟩:∃r:Rt,r=⟨a,b,c,d,e,f,n⟩:=⟨_,rfl⟩
  rw[<-hr]at h
  rw[show a=r.a by rw[hr],show b=r.b by rw[hr],show c=r.c by rw[hr],show d=r.d by rw[hr],show e=r.e by rw[hr],show f=r.f by rw[hr],show n=r.n by rw[hr]]at h⊢
  clear hr
  dsimp only[v82,TC0,Yk,chkRC,go_sem,reduceIte,Ya]
  simp only[Yd,Ya,Ye,reduceCtorEq,Yc]
  refine⟨fun hc=>?_,fun hc=>?_⟩
  ·rw[if_pos hc]at h
   exact⟨h,⟨trivial,trivial,trivial,trivial⟩,by simp [Xf,Y5,Y3]⟩
  ·rw[if_neg (by rw[show Y4 r=0 from hc];decide)]at h
   refine Loop.keep [1,0,0,0,10] (Nat×Bool) (fun s=>[(6,.own 1 0 (tP r s.1).length 2),(16,.int .i64 s.1)]) (fun s=>[(1,.own s.2 2 (tP r s.1).length (fun k=>Yw ((tP r s.1).getD k default)))]) [.gone] (fun s=>s.1<=6/\(s.2=true->(tP r s.1).length=0)) (fun s=>6-s.1) ?_ ?_
   ·refine⟨(0,true),⟨by decide,fun _=>rfl⟩,?_⟩
    dsimp only[tP,Z1,go_sem,reduceIte,Ya]
    simp only[Yf]
    repeat' apply YC
    all_goals first|exact trivial|decide|rfl|omega|exact(K7 (by omega)).symm|exact YN _ (Xb _ _ _ _) |simp
   ·rintro⟨i,z⟩ ⟨hi,hz⟩
    dsimp only at hi hz
    dsimp only[Yj,Yw,go_sem,reduceIte,Ya]
    simp only[Yd,Ya,Ye,reduceCtorEq,Yc]
    refine⟨fun hlt=>?_,fun hge=>?_⟩
    ·have hi6:i<6:=by omega
     have hl:=PW r i
     rw[Dt r hi6]
     dsimp only[Yj,Yw,go_sem,reduceIte,Ya]
     simp only[Yd,Ya,Ye,reduceCtorEq,Yc]
     rw[DH hi6]
     dsimp only[Yj,Yw,go_sem,reduceIte,Ya]
     simp only[Yd,Ya,Ye,reduceCtorEq,Yc]
     refine⟨⟨by omega,by omega⟩,fun hn=>⟨⟨by omega,by omega,by decide⟩,YgB hi6,by decide,⟨by unfold Y8;omega,fun k hk=>GD hk⟩,(i+1,false),⟨by simp only;omega,fun hh=>by cases hh⟩,by simp only;omega,?_⟩,fun hn=>⟨(i+1,z),⟨by simp only;omega,fun hh=>by simp only[tP,A5 hn,Wr];exact hz hh⟩,by simp only;omega,?_⟩⟩
     ·simp only[tP,Ycr hn,JO,List.length_singleton]
      rw[Yg ((i:Int)+1) (by omega)]
      simp only[Yf]
      refine⟨?_,by simp,fun k hk=>Ut hk⟩
      repeat' apply YC
      all_goals first|exact trivial|decide|rfl|omega|exact(K7 (by omega)).symm|exact YN _ (Xb _ _ _ _) |simp
     ·simp only[tP,A5 hn,Wr]
      rw[Yg ((i:Int)+1) (by omega)]
      simp only[Yf]
      repeat' apply YC
      all_goals first|exact trivial|decide|rfl|omega|exact(K7 (by omega)).symm|exact YN _ (Xb _ _ _ _) |simp
    ·obtain rfl:i=6:=by omega
     simp only[Ycl]
     exact⟨h z,⟨trivial,trivial,trivial,trivial⟩,by simp [Xf,Y5,Y3]⟩
 ·exact h.1.elim
def XV(q p:Nat->Int)(n:Int)(i:Nat):List SV:=
 [.int .i64 (if 0<i then q 0 else p 0),.int .i64 (if 1<i then q 1 else p 1),.int .i64 (if 2<i then q 2 else p 2),.int .i64 (if 3<i then q 3 else p 3),.int .i64 (if 4<i then q 4 else p 4),.int .i64 (if 5<i then q 5 else p 5),.int .i64 n]
theorem SG(q p:Nat->Int)(n:Int):XV q p n 6=[.int .i64 (q 0),.int .i64 (q 1),.int .i64 (q 2),.int .i64 (q 3),.int .i64 (q 4),.int .i64 (q 5),.int .i64 n]:=rfl
theorem SK(q p:Nat->Int)(n:Int)(i:Nat):YK (XV q p n i)=7:=rfl
theorem SH(q p:Nat->Int)(n:Int)(i m:Nat):Jl m (XV q p n i):=by simp [XV,Jl,bnd]
theorem SL(q p:Nat->Int)(n:Int){i:Nat}(h:i<6):J6 (XV q p n i) (Kw (i:Int) 1) [.int .i64 (q i)]=XV q p n (i+1):=by
 rcases six h with rfl|rfl|rfl|rfl|rfl|rfl <;> rfl
theorem SJ(q p:Nat->Int)(n:Int){i:Nat}(h:i<6):YP 1 (YF (Kw (i:Int) 1) (XV q p n i))=[.int .i64 (p i)]:=by
 rcases six h with rfl|rfl|rfl|rfl|rfl|rfl <;> rfl
theorem SI(q p:Nat->Int)(n:Int){i:Nat}(h:i<6):1<=YK (YF (Kw (i:Int) 1) (XV q p n i)):=by
 rcases six h with rfl|rfl|rfl|rfl|rfl|rfl <;> exact KC rfl
def Uv(n d:Int):Bool:=decide (n< -1000) || decide (1000<n) || decide (d< -1000) || decide (1000<d) || decide (d=0)
theorem Si{n d:Int}(h:Uv n d=false):(-1000<=n/\n<=1000)/\(-1000<=d/\d<=1000)/\d≠0:=by
 simp only[Uv,K5,decide_eq_false_iff_not]at h;omega
def GF(r:Rt)(n d:Int):Rt×Int:=Jf ⟨r.a*n,r.b*n,r.c*n,r.d*n,r.e*n,r.f*n,r.n*d⟩
def Xm(r:Rt)(n d:Int):Rt×Int:=
 if Y4 r≠0 then(KW,Y4 r)else if Uv n d=true then(KW,2)else if d<0 then GF r (-n) (-d)else GF r n d
def powRC:Ctr:={ alias:=false,of:=fun l=>match l with
 | [.agg [.int .i64 a,.int .i64 b,.int .i64 c,.int .i64 d,.int .i64 e,.int .i64 f,.int .i64 n],.int .i64 p,.int .i64 q]=> .fin (.tup [.agg (Yr (Xm ⟨a,b,c,d,e,f,n⟩ p q).1),.int .i64 (Xm ⟨a,b,c,d,e,f,n⟩ p q).2]) []
 |_=>noC}
def TC1:Env:=mkE [(121,chkRC),(147,madeC)] []
theorem Yes:YD Yb TC1:=eo (by kernel_rfl) ⟨⟨Dr,_,Tryz.func121,rfl,rfl⟩,⟨Lx,_,Tryz.func147,rfl,rfl⟩,trivial⟩ trivial
theorem YkZ:powRC.ok Yb 142:=by
 refine Yy Tryz.func142 Ypn Yes 300 powRC fun args k h=>?_
 simp only[powRC]at h
 split at h
 ·rename_i a b c d e f n p q
  refine⟨[.agg [.int .i64 a,.int .i64 b,.int .i64 c,.int .i64 d,.int .i64 e,.int .i64 f,.int .i64 n],.int .i64 p,.int .i64 q],by simp [leL,le],?_⟩
  obtain⟨r,hr⟩:∃r:Rt,r=⟨a,b,c,d,e,f,n⟩:=⟨_,rfl⟩
  rw[<-hr]at h
  rw[show a=r.a by rw[hr],show b=r.b by rw[hr],show c=r.c by rw[hr],show d=r.d by rw[hr],show e=r.e by rw[hr],show f=r.f by rw[hr],show n=r.n by rw[hr]]
  clear hr
  have h:k (.tup [.agg (Yr (Xm r p q).1),.int .i64 (Xm r p q).2]) []:=h
  dsimp only[Yc5,TC1,Yk,chkRC,go_sem,reduceIte,Ya]
  simp only[Yd,Ya,Ye,reduceCtorEq,Yc]
  refine⟨fun hc=>?_,fun hc=>⟨fun hb=>?_,fun hb=>?_⟩⟩
  ·rw[Xm,if_pos hc]at h
   exact JK (r:=KW) h
  all_goals
   have hc:Y4 r=0:=hc
   rw[Xm,if_neg (by rw[hc];decide)]at h
  ·rw[if_pos (show Uv p q=true from hb)]at h
   exact JK (r:=KW) h
  ·have hb:Uv p q=false:=hb
   rw[if_neg (by rw[hb];decide)]at h
   obtain⟨hp,hq,hq0⟩:=Si hb
   refine⟨fun hneg=>?_,fun hpos=>?_⟩
   ·rw[if_pos hneg]at h
    rw[Yg (0-p) (by omega),Yg (0-q) (by omega),Int.zero_sub,Int.zero_sub]
    obtain⟨P,hP⟩:∃P,P= -p:=⟨_,rfl⟩
    obtain⟨Q,hQ⟩:∃Q,Q= -q:=⟨_,rfl⟩
    rw[<-hP,<-hQ]at h⊢
    have hPb: -1000<=P/\P<=1000:=by omega
    have hQb:1<=Q/\Q<=1000:=by omega
    clear hp hq hP hQ
    refine Loop.keep [1,0,0,2,0] Nat (fun i=>[(41,.int .i64 i)]) (fun i=>[(0,.box (XV (fun j=>r.num j*P) r.num r.n i))]) [] (fun i=>i<=6) (fun i=>6-i) ?_ ?_
    ·refine⟨0,by omega,?_⟩
     dsimp only[XV,go_sem,reduceIte,Ya]
     simp only[Yf]
     repeat' apply YC
     all_goals first|exact trivial|decide|rfl|omega|exact(K7 (by omega)).symm|exact YN _ (Xb _ _ _ _) |simp
    ·rintro i hi
     dsimp only[TC1,Yk,madeC,Yj,go_sem,reduceIte,Ya]
     simp only[Yd,Ya,Ye,reduceCtorEq,Yc]
     refine⟨fun hlt=>?_,fun hge=>?_⟩
     ·have hi6:i<6:=by omega
      rw[SJ _ _ _ hi6]
      dsimp only[TC1,Yk,madeC,Yj,go_sem,reduceIte,Ya]
      simp only[Yd,Ya,Ye,reduceCtorEq,Yc]
      have h1:=Wj hc hi6
      have hm:=Jv (x:=r.num i) (y:=P) (X:=100000) (Y:=1000) h1 (by omega)
      have e:J6 (XV (fun j=>r.num j*P) r.num r.n i) (Kw (i:Int) 1) [.int .i64 (r.num i*P)]=XV (fun j=>r.num j*P) r.num r.n (i+1):=SL (fun j=>r.num j*P) r.num r.n hi6
      rw[Yg (r.num i*P) (by omega),Yg ((i:Int)+1) (by omega),e]
      refine⟨⟨by omega,by omega⟩,SI _ _ _ hi6,⟨by omega,by omega⟩,by rw[Gl,SK];omega,i+1,by omega,by omega,?_⟩
      simp only[Yf]
      refine⟨?_,YN _ (SH _ _ _ _ _)⟩
      repeat' apply YC
      all_goals first|exact trivial|decide|rfl|omega|exact(K7 (by omega)).symm|exact YN _ (Xb _ _ _ _) |simp
     ·obtain rfl:i=6:=by omega
      have hn:=XX hc
      have hm:=Jv (x:=r.n) (y:=Q) (X:=1000) (Y:=1000) (by omega) (by omega)
      have hm1:1<=r.n*Q:=Int.mul_pos (by omega) (by omega)
      simp only[SG]
      dsimp only[TC1,Yk,madeC,Yr,go_sem,reduceIte,Ya]
      simp only[Yd,Ya,Ye,reduceCtorEq,Yc]
      rw[Yg (r.n*Q) (by omega)]
      refine⟨⟨hm1,by omega,fun i hi=>?_⟩,?_⟩
      ·have h1:=Wj hc hi
       have hm:=Jv (x:=r.num i) (y:=P) (X:=100000) (Y:=1000) h1 (by omega)
       rcases six hi with rfl|rfl|rfl|rfl|rfl|rfl <;> (simp only[Rt.num]at hm⊢;omega)
      ·exact⟨by decide,by decide,JK (r:=(GF r P Q).1) h⟩
   ·rw[if_neg hpos]at h
    obtain⟨P,hP⟩:∃P,P=p:=⟨_,rfl⟩
    obtain⟨Q,hQ⟩:∃Q,Q=q:=⟨_,rfl⟩
    rw[<-hP,<-hQ]at h⊢
    have hPb: -1000<=P/\P<=1000:=by omega
    have hQb:1<=Q/\Q<=1000:=by omega
    refine Loop.keep [1,0,0,2,0] Nat (fun i=>[(41,.int .i64 i)]) (fun i=>[(0,.box (XV (fun j=>r.num j*P) r.num r.n i))]) [] (fun i=>i<=6) (fun i=>6-i) ?_ ?_
    ·refine⟨0,by omega,?_⟩
     dsimp only[XV,go_sem,reduceIte,Ya]
     simp only[Yf]
     repeat' apply YC
     all_goals first|exact trivial|decide|rfl|omega|exact(K7 (by omega)).symm|exact YN _ (Xb _ _ _ _) |simp
    ·rintro i hi
     dsimp only[TC1,Yk,madeC,Yj,go_sem,reduceIte,Ya]
     simp only[Yd,Ya,Ye,reduceCtorEq,Yc]
     refine⟨fun hlt=>?_,fun hge=>?_⟩
     ·have hi6:i<6:=by omega
      rw[SJ _ _ _ hi6]
      dsimp only[TC1,Yk,madeC,Yj,go_sem,reduceIte,Ya]
      simp only[Yd,Ya,Ye,reduceCtorEq,Yc]
      have h1:=Wj hc hi6
      have hm:=Jv (x:=r.num i) (y:=P) (X:=100000) (Y:=1000) h1 (by omega)
      have e:J6 (XV (fun j=>r.num j*P) r.num r.n i) (Kw (i:Int) 1) [.int .i64 (r.num i*P)]=XV (fun j=>r.num j*P) r.num r.n (i+1):=SL (fun j=>r.num j*P) r.num r.n hi6
      rw[Yg (r.num i*P) (by omega),Yg ((i:Int)+1) (by omega),e]
      refine⟨⟨by omega,by omega⟩,SI _ _ _ hi6,⟨by omega,by omega⟩,by rw[Gl,SK];omega,i+1,by omega,by omega,?_⟩
      simp only[Yf]
      refine⟨?_,YN _ (SH _ _ _ _ _)⟩
      repeat' apply YC
      all_goals first|exact trivial|decide|rfl|omega|exact(K7 (by omega)).symm|exact YN _ (Xb _ _ _ _) |simp
     ·obtain rfl:i=6:=by omega
      have hn:=XX hc
      have hm:=Jv (x:=r.n) (y:=Q) (X:=1000) (Y:=1000) (by omega) (by omega)
      have hm1:1<=r.n*Q:=Int.mul_pos (by omega) (by omega)
      simp only[SG]
      dsimp only[TC1,Yk,madeC,Yr,go_sem,reduceIte,Ya]
      simp only[Yd,Ya,Ye,reduceCtorEq,Yc]
      rw[Yg (r.n*Q) (by omega)]
      refine⟨⟨hm1,by omega,fun i hi=>?_⟩,?_⟩
      ·have h1:=Wj hc hi
       have hm:=Jv (x:=r.num i) (y:=P) (X:=100000) (Y:=1000) h1 (by omega)
       rcases six hi with rfl|rfl|rfl|rfl|rfl|rfl <;> (simp only[Rt.num]at hm⊢;omega)
      ·exact⟨by decide,by decide,JK (r:=(GF r P Q).1) h⟩
 ·exact h.1.elim
def Yc4:VF:={ ntmps:=64,res:=[.cell 4 true 7,.tmp 5],body:=
 (ZR [u1 4 (.alloc Z7) [],
 Zi 5 0]
 (.seq (ZR [Zm 9 0,
 Zq 10 .lss 9 1,
 Zm 11 10,
 Zg 12 11 false 0,
 u2 13 11 false (.cmp .gtr) [.tm 12,.cn (.int .i64 1000000000000)],
 u1 14 .or [.tm 11,.tm 13],
 Zm 15 14,
 Zg 16 15 false 1,
 u2 17 15 false (.cmp .lss) [.tm 16,.cn (.int .i64 1)],
 u1 18 .or [.tm 15,.tm 17],
 Zm 19 18,
 Zg 20 19 false 1,
 u2 21 19 false (.cmp .gtr) [.tm 20,.cn (.int .i64 1000000000000)],
 u1 22 .or [.tm 19,.tm 21]]
 (ZC 22 (ZR [u1 23 (.build Z7 []) [],
 Zs 7 4 23,
 Zi 5 2]
 .ret)
  .skip))
 (ZR [u1 24 (.build Z7 [(6,1)]) [.cn (.int .i64 1)],
 u1 6 (.alloc Z7) [],
 Zs 7 6 24]
 (.seq (ZR [u1 25 (.load true 6) [.cn (.xp false [(.int .i64 2),(.int .i64 3),(.int .i64 5),(.int .i64 7),(.int .i64 11),(.int .i64 13)])],
 Zi 26 0]
 (.block 0 (.loop (ZR [Zq 27 .lss 26 6]
 (.seq (ZC 27 .skip
  (.exit 0))
 (.seq (.block 1 (ZR [Zm 28 26,
 u1 29 (.index false 6 1) [.tm 25,.tm 26],
 Zm 7 28,
 Zm 8 29]
 (.seq (.block 2 (.loop (.seq (ZR [Zm 30 0,
 Zm 31 8,
 u1 32 .rem [.tm 30,.tm 31],
 Zq 33 .eql 32 0]
 (ZC 33 .skip
  (.exit 2)))
 (.seq (.block 3 (.region [Zm 37 7,
 Za 38 0 6,
 u1 39 (.idxArr 6 1) [.tm 38,.tm 37],
 Zf 40 1 39,
 Zp 41 40 1,
 Za 42 0 6,
 u1 43 (.idxArr 6 1) [.tm 42,.tm 37],
 Zs 1 43 41]))
 (.region [Zm 34 0,
 Zm 35 8,
 u1 36 .quo [.tm 34,.tm 35],
 Zm 0 36])))))
 (.block 4 (.loop (.seq (ZR [Zm 44 1,
 Zm 45 8,
 u1 46 .rem [.tm 44,.tm 45],
 Zq 47 .eql 46 0]
 (ZC 47 .skip
  (.exit 4)))
 (.seq (.block 5 (.region [Zm 51 7,
 Za 52 0 6,
 u1 53 (.idxArr 6 1) [.tm 52,.tm 51],
 Zf 54 1 53,
 u1 55 (.ari .sub) [.tm 54,.cn (.int .i64 1)],
 Za 56 0 6,
 u1 57 (.idxArr 6 1) [.tm 56,.tm 51],
 Zs 1 57 55]))
 (.region [Zm 48 1,
 Zm 49 8,
 u1 50 .quo [.tm 48,.tm 49],
 Zm 1 50]))))))))
 (.region [Zp 58 26 1,
 Zm 26 58])))))))
 (.seq (ZR [Zm 59 0,
 Zm 60 1,
 Zr 61 .neq 59 60]
 (ZC 61 (ZR [u1 62 (.build Z7 []) [],
 Zs 7 4 62,
 Zi 5 7]
 .ret)
  .skip))
 (ZR [Zt 63 7 6,
 Zs 7 4 63,
 Zi 5 0]
 .ret))))))}
theorem Ypm:Yn Yb Tryz.f141=some Yc4:=by kernel_rfl
def JI:Nat->Int->Int->Int->Int->Int×Int
 |0,_,n,c,_=>(n,c)
 |f+1,p,n,c,s=>if n%p=0 then JI f p (n/p) (c+s) s else(n,c)
def ofL(num den:Int):Nat->Int×Int×(Nat->Int)
 |0=>(num,den,fun _=>0)
 |i+1=>
  ((JI 64 (prm i) (ofL num den i).1 0 1).1,(JI 64 (prm i) (ofL num den i).2.1 (JI 64 (prm i) (ofL num den i).1 0 1).2 (-1)).1,
    fun k=>if k=i then(JI 64 (prm i) (ofL num den i).2.1 (JI 64 (prm i) (ofL num den i).1 0 1).2 (-1)).2 else(ofL num den i).2.2 k)
def ZJ(a b:Int):Bool:=decide (a<1) || decide (1000000000000<a) || decide (b<1) || decide (1000000000000<b)
def K1(a b:Int):Rt×Int:=
 if ZJ a b=true then(KW,2)else if(ofL a b 6).1≠(ofL a b 6).2.1 then(KW,7)
 else(⟨(ofL a b 6).2.2 0,(ofL a b 6).2.2 1,(ofL a b 6).2.2 2,(ofL a b 6).2.2 3,(ofL a b 6).2.2 4,(ofL a b 6).2.2 5,1⟩,0)
def Xv(g:Nat->Int)(n:Int):List SV:=[.int .i64 (g 0),.int .i64 (g 1),.int .i64 (g 2),.int .i64 (g 3),.int .i64 (g 4),.int .i64 (g 5),.int .i64 n]
def X5(g:Nat->Int)(i:Nat)(v:Int):Nat->Int:=fun k=>if k=i then v else g k
theorem C4(g:Nat->Int)(n:Int){i:Nat}(h:i<6):YP 1 (YF (Kw (i:Int) 1) (Xv g n))=[.int .i64 (g i)]:=by
 rcases six h with rfl|rfl|rfl|rfl|rfl|rfl <;> rfl
theorem Dm(g:Nat->Int)(n:Int){i:Nat}(h:i<6):1<=YK (YF (Kw (i:Int) 1) (Xv g n)):=by
 rcases six h with rfl|rfl|rfl|rfl|rfl|rfl <;> exact KC rfl
theorem Do(g:Nat->Int)(n:Int){i:Nat}(h:i<6)(v:Int):J6 (Xv g n) (Kw (i:Int) 1) [.int .i64 v]=Xv (X5 g i v) n:=by
 rcases six h with rfl|rfl|rfl|rfl|rfl|rfl <;> rfl
theorem Dn(g:Nat->Int)(n:Int):YK (Xv g n)=7:=rfl
theorem VV(g:Nat->Int)(n:Int)(m:Nat):Jl m (Xv g n):=by simp [Xv,Jl,bnd]
theorem AM(g:Nat->Int)(i:Nat)(v w:Int):X5 (X5 g i v) i w=X5 g i w:=by
 funext k;unfold X5;split <;> rfl
theorem AK(g:Nat->Int)(i:Nat)(v:Int):X5 g i v i=v:=if_pos rfl
theorem YbO(g:Nat->Int)(i:Nat):X5 g i (g i)=g:=by
 funext k;unfold X5;split
 ·rename_i h;rw[h]
 ·rfl
theorem YaE(i:Nat):2<=prm i/\prm i<=13:=by
 unfold prm;split <;> omega
theorem Yf4{i:Nat}(h:i<6):YP 1 (YF (i*1) [.int .i64 2,.int .i64 3,.int .i64 5,.int .i64 7,.int .i64 11,.int .i64 13])=[.int .i64 (prm i)]:=DH h
theorem Ce{n p:Int}{f:Nat}(hp:2<=p)(h1:1<=n)(h2:n<2^(f+1))(h3:n<=1000000000000)(hd:n%p=0):1<=n/p/\n/p<2^f/\n/p<=1000000000000:=by
 have e:=Int.mul_ediv_add_emod n p
 rw[hd,Zb]at e
 have hq:1<=n/p:=by
  rcases(show n/p<1\/1<=n/p by omega)with h|h
  ·have:p*(n/p)<=p*0:=Int.mul_le_mul_of_nonneg_left (by omega) (by omega)
   omega
  ·exact h
 have h4:2*(n/p)<=n:=by
  have:2*(n/p)<=p*(n/p):=XC hp (by omega)
  omega
 rw[Int.pow_succ]at h2
 exact⟨hq,by omega,by omega⟩
def ofRC:Ctr:={ alias:=false,of:=fun l=>match l with
 | [.int .i64 a,.int .i64 b]=> .fin (.tup [.agg (Yr (K1 a b).1),.int .i64 (K1 a b).2]) []
 |_=>noC}
theorem LN(a b:Int):∀i j,i<=j->(ofL a b i).2.2 j=0
 |0,_,_=>rfl
 |i+1,j,h=>by
  rw[ofL]
  show(if j=i then _ else _)=(0:Int)
  rw[if_neg (by omega)]
  exact LN a b i j (by omega)
def TD0:Env:=mkE [] []
theorem Yet:YD Yb TD0:=eo (by kernel_rfl) trivial trivial
theorem of_c:ofRC.ok Yb 141:=by
 refine Yy Tryz.func141 Ypm Yet 300 ofRC fun args k h=>?_
 simp only[ofRC]at h
 split at h
 ·rename_i a b
  refine⟨[.int .i64 a,.int .i64 b],by simp [leL,le],?_⟩
  have h:k (.tup [.agg (Yr (K1 a b).1),.int .i64 (K1 a b).2]) []:=h
  dsimp only[Yc4,go_sem,reduceIte,Ya]
  simp only[Yd,Ya,Ye,reduceCtorEq,Yc]
  refine⟨fun hb=>?_,fun hb=>?_⟩
  ·rw[K1,if_pos (show ZJ a b=true from hb)]at h
   exact JK (r:=KW) h
  ·have hb:ZJ a b=false:=hb
   rw[K1,if_neg (by rw[hb];decide)]at h
   simp only[ZJ,K5,decide_eq_false_iff_not]at hb
   refine Loop.keep [4,0,0,18] Nat (fun i=>[(0,.int .i64 (ofL a b i).1),(1,.int .i64 (ofL a b i).2.1),(26,.int .i64 i)]) (fun i=>[(1,.box (Xv (ofL a b i).2.2 1))]) [] (fun i=>i<=6/\(1<=(ofL a b i).1/\(ofL a b i).1<=1000000000000)/\1<=(ofL a b i).2.1/\(ofL a b i).2.1<=1000000000000) (fun i=>6-i) ?_ ?_
   ·refine⟨0,⟨by omega,⟨by simp only[ofL];omega,by simp only[ofL];omega⟩,by simp only[ofL];omega,by simp only[ofL];omega⟩,?_⟩
    dsimp only[Xv,ofL,go_sem,reduceIte,Ya]
    simp only[Yf]
    repeat' apply YC
    all_goals first|exact trivial|decide|rfl|omega|exact(K7 (by omega)).symm|simp
   ·rintro i ⟨hi,hx,hy⟩
    obtain⟨X,hX⟩:∃X,X=(ofL a b i).1:=⟨_,rfl⟩
    obtain⟨Y,hY⟩:∃Y,Y=(ofL a b i).2.1:=⟨_,rfl⟩
    obtain⟨g,hg⟩:∃g,g=(ofL a b i).2.2:=⟨_,rfl⟩
    rw[<-hX]at hx
    rw[<-hY]at hy
    rw[<-hX,<-hY,<-hg]
    dsimp only[Yj,go_sem,reduceIte,Ya]
    simp only[Yd,Ya,Ye,reduceCtorEq,Yc]
    refine⟨fun hlt=>?_,fun hge=>?_⟩
    ·have hi6:i<6:=by omega
     have hp:=YaE i
     have hg0:g i=0:=by rw[hg];exact LN a b i i (Yt _)
     rw[Yf4 hi6]
     refine⟨⟨by omega,by omega⟩,?_⟩
     have hS:ofL a b (i+1)=((JI 64 (prm i) X 0 1).1,(JI 64 (prm i) Y (JI 64 (prm i) X 0 1).2 (-1)).1,X5 g i (JI 64 (prm i) Y (JI 64 (prm i) X 0 1).2 (-1)).2):=by
      rw[ofL,<-hX,<-hY,<-hg];rfl
     generalize prm i=p at hp hS⊢
     obtain⟨A,hA⟩:∃A,A=JI 64 p X 0 1:=⟨_,rfl⟩
     rw[<-hA]at hS
     refine Loop.keep [1,2,0,0,0,0,16,0] (Nat×Int×Int) (fun s=>[(0,.int .i64 s.2.1)]) (fun s=>[(1,.box (Xv (X5 g i s.2.2) 1))]) [] (fun s=>A=JI s.1 p s.2.1 s.2.2 1/\1<=s.2.1/\s.2.1<2^s.1/\s.2.1<=1000000000000/\ -1000+s.1<=s.2.2/\s.2.2<=1000-s.1) (fun s=>s.1) ?_ ?_
     ·refine⟨(64,X,0),⟨hA,hx.1,by simp only;omega,hx.2,by simp,by simp⟩,?_⟩
      rw[show X5 g i (64,X,(0:Int)).2.2=g by rw[<-hg0];exact YbO g i]
      dsimp only[go_sem,reduceIte,Ya]
      simp only[Yf]
      refine⟨by decide,YN _ (VV _ _ _)⟩
     ·rintro⟨f,n,c⟩ ⟨hf,n1,n2,n3,c1,c2⟩
      dsimp only at hf n1 n2 n3 c1 c2
      dsimp only[Yj,go_sem,reduceIte,Ya]
      simp only[Yd,Ya,Ye,reduceCtorEq,Yc]
      have e1:n.tmod p=n%p:=UX (by omega)
      have e2:n.tdiv p=n/p:=Wo (by omega)
      rw[e1]
      obtain⟨q,rfl⟩:∃q,f=q+1:=by
       cases f with
       |zero=>simp at n2;omega
       |succ q=>exact⟨q,rfl⟩
      rw[JI]at hf
      refine⟨by omega,fun hd=>?_,fun hd=>?_⟩
      ·rw[if_pos hd]at hf
       obtain⟨w1,w2,w3⟩:=Ce (by omega) n1 n2 n3 hd
       rw[C4 _ _ hi6,AK]
       dsimp only[Yj,go_sem,reduceIte,Ya]
       simp only[Yd,Ya,Ye,reduceCtorEq,Yc]
       rw[Do _ _ hi6,AM,e2,Yg (n/p) (by omega),Yg (c+1) (by omega)]
       refine⟨⟨by omega,by omega⟩,Dm _ _ hi6,⟨by omega,by omega⟩,by rw[Gl,Dn];omega,by omega,(q,n/p,c+1),⟨hf,w1,w2,w3,by simp only;omega,by simp only;omega⟩,by simp only;omega,?_⟩
       simp only[Yf]
       refine⟨by decide,YN _ (VV _ _ _)⟩
      ·rw[if_neg hd]at hf
       have hA1:A.1=n:=by rw[hf]
       have hA2:A.2=c:=by rw[hf]
       rw[hA2]at hS
       obtain⟨B,hB⟩:∃B,B=JI 64 p Y c (-1):=⟨_,rfl⟩
       rw[<-hB,hA1]at hS
       have n1':=n1
       have n3':=n3
       have c1': -2000+(64:Int)<=c/\c<=2000-64:=by omega
       clear hf hA n2 e1 e2 c1 c2 hA1 hA2
       refine Loop.keep [0,3,0,0,0,0,16,0] (Nat×Int×Int) (fun s=>[(1,.int .i64 s.2.1)]) (fun s=>[(1,.box (Xv (X5 g i s.2.2) 1))]) [] (fun s=>B=JI s.1 p s.2.1 s.2.2 (-1)/\1<=s.2.1/\s.2.1<2^s.1/\s.2.1<=1000000000000/\ -2000+s.1<=s.2.2/\s.2.2<=2000-s.1) (fun s=>s.1) ?_ ?_
       ·refine⟨(64,Y,c),⟨hB,hy.1,by simp only;omega,hy.2,by simp only;omega,by simp only;omega⟩,?_⟩
        dsimp only[go_sem,reduceIte,Ya]
        simp only[Yf]
        refine⟨by decide,YN _ (VV _ _ _)⟩
       ·obtain⟨N,hN⟩:∃N,N=n:=⟨_,rfl⟩
        rw[<-hN]at n1' n3' hS⊢
        clear hN n1 n3 hd c1' hB
        rintro⟨f,n,c⟩ ⟨hf,n1,n2,n3,c1,c2⟩
        dsimp only at hf n1 n2 n3 c1 c2
        dsimp only[Yj,go_sem,reduceIte,Ya]
        simp only[Yd,Ya,Ye,reduceCtorEq,Yc]
        have e1:n.tmod p=n%p:=UX (by omega)
        have e2:n.tdiv p=n/p:=Wo (by omega)
        rw[e1]
        obtain⟨q,rfl⟩:∃q,f=q+1:=by
         cases f with
         |zero=>simp at n2;omega
         |succ q=>exact⟨q,rfl⟩
        rw[JI]at hf
        refine⟨by omega,fun hd=>?_,fun hd=>?_⟩
        ·rw[if_pos hd]at hf
         obtain⟨w1,w2,w3⟩:=Ce (by omega) n1 n2 n3 hd
         rw[C4 _ _ hi6,AK]
         dsimp only[Yj,go_sem,reduceIte,Ya]
         simp only[Yd,Ya,Ye,reduceCtorEq,Yc]
         rw[Do _ _ hi6,AM,e2,Yg (n/p) (by omega),Yg (c-1) (by omega)]
         refine⟨⟨by omega,by omega⟩,Dm _ _ hi6,⟨by omega,by omega⟩,by rw[Gl,Dn];omega,by omega,(q,n/p,c+(-1)),⟨hf,w1,w2,w3,by simp only;omega,by simp only;omega⟩,by simp only;omega,?_⟩
         simp only[Yf]
         refine⟨by decide,YN _ (VV _ _ _)⟩
        ·rw[if_neg hd]at hf
         have hB1:B.1=n:=by rw[hf]
         have hB2:B.2=c:=by rw[hf]
         rw[hB1,hB2]at hS
         refine⟨i+1,⟨by omega,⟨by rw[hS];exact n1',by rw[hS];exact n3'⟩,by rw[hS];exact n1,by rw[hS];exact n3⟩,by omega,?_⟩
         rw[hS,Yg ((i:Int)+1) (by omega)]
         simp only[Yf]
         refine⟨?_,YN _ (VV _ _ _)⟩
         repeat' apply YC
         all_goals first|exact trivial|decide|rfl|omega|exact(K7 (by omega)).symm|simp
    ·obtain rfl:i=6:=by omega
     rw[<-hX,<-hY,<-hg]at h
     refine⟨fun hn=>?_,fun he=>?_⟩
     ·rw[if_pos hn]at h
      exact JK (r:=KW) h
     ·rw[if_neg (by omega)]at h
      exact⟨Yt 7,⟨rfl,by simp [Xv,YP,Jg,one]⟩,Yt 7,JK (r:=⟨g 0,g 1,g 2,g 3,g 4,g 5,1⟩) h⟩
 ·exact h.1.elim
def v31:VF:=⟨71,[.tmp 6,.tmp 7,.tmp 8],(ZR [u1 3 .box [.tm 0],u1 4 .box [.tm 1],Zi 6 0,u1 7 .mov [.cn (.bool false)],Zi 8 0] (.seq (ZR [Zf 15 1 3,Zc 16 49 15,Zm 9 16] (ZR [Zm 17 9,Zq 18 .neq 17 0] (ZC 18 (ZR [Zm 19 9,Zi 6 0,u1 7 .mov [.cn (.bool false)],Zm 8 19] .ret) .skip))) (.seq (ZR [Zf 20 1 4,Zq 21 .lss 20 1,Zm 22 21,Zh 23 22 false 1 4,u2 24 22 false (.cmp .gtr) [.tm 23,.cn (.int .i64 1000000)],u1 25 .or [.tm 22,.tm 24],Zm 26 25,Zg 27 26 false 2,u2 28 26 false (.cmp .lss) [.tm 27,.cn (.int .i64 1)],u1 29 .or [.tm 26,.tm 28],Zm 30 29,Zg 31 30 false 2,u2 32 30 false (.cmp .gtr) [.tm 31,.cn (.int .i64 10000000)],u1 33 .or [.tm 30,.tm 32]] (ZC 33 (ZR [Zi 6 0,u1 7 .mov [.cn (.bool false)],Zi 8 2] .ret) .skip)) (ZR [Zf 34 1 3,Zl 35 34,Zp 36 35 1,u1 37 (.make 2 16 Z2) [.cn (.int .i64 0),.tm 36],u1 10 (.alloc [.nil]) [],Zs 1 10 37] (.seq (ZR [Zf 38 1 3,Zl 39 38,Zi 40 0] (.block 0 (.loop (ZR [Zr 41 .lss 40 39] (.seq (ZC 41 .skip (.exit 0)) (.seq (.block 1 (ZR [Zx 42 2 38 40,Zt 43 2 42,u1 12 (.alloc Z2) [],Zs 2 12 43] (.region [Zf 44 1 10,Za 45 0 12,Zf 46 1 45,Za 47 1 12,Zf 48 1 47,Zm 49 2,Zo 50 .mul 48 49,u1 51 (.build Z2 [(0,1),(1,1)]) [.tm 46,.tm 50],u1 52 (.buildSlice 2 1 Z2 [(0,2)]) [.tm 51],u1 53 (.append 2 16 Z2) [.tm 44,.tm 52],Zs 1 10 53]))) (.region [Zp 54 40 1,Zm 40 54]))))))) (ZR [u1 55 (.mkfn (.func 50) 0) [.tm 10,.tm 3,.tm 4],u1 13 (.alloc [(.val .nilFunc)]) [],Zs 1 13 55] (ZR [u1 56 (.mkfn (.func 51) 0) [.tm 13],Zm 14 56] (.seq (ZR [Zm 57 14,u1 58 .callv [.tm 57,.cn (.int .i64 1000000000001)],Zm 59 58,Zg 60 59 false 14,u2 61 59 false .callv [.tm 60,.cn (.int .i64 (-1000000000000))],u2 62 59 false .not [.tm 61],u1 63 .or [.tm 59,.tm 62]] (ZC 63 (ZR [Zi 6 0,u1 7 .mov [.cn (.bool false)],Zi 8 7] .ret) .skip)) (ZR [Zm 64 14,u1 65 (.call 53) [.cn (.int .i64 (-1000000000000)),.cn (.int .i64 1000000000001),.tm 64],Zm 6 65] (ZR [Zm 66 6,Zf 67 1 13,Zm 68 6,u1 69 .callv [.tm 67,.tm 68],Zc 70 54 69,Zm 6 66,Zm 7 70,Zi 8 0] .ret))))))))))⟩
theorem YpM:Yn Yb Tryz.f31=some v31:=by kernel_rfl
def v50:VF:=⟨19,[.tmp 5],(ZR [u1 5 .mov [.cn .nil]] (.seq (.draw [] [Zv 6 1 1,Zv 7 1 2,w1 8 .len [.tm 7],Zv 9 1 2,w1 10 .len [.tm 9],w1 11 (.slice3 2) [.tm 6,.tm 8,.tm 10],Zu 12 0,w1 13 .neg [.tm 12],Zv 14 1 3,w1 15 (.ari .mul) [.tm 13,.tm 14],w1 16 (.build Z2 [(0,1),(1,1)]) [.cn (.int .i64 2),.tm 15],w1 17 (.buildSlice 2 1 Z2 [(0,2)]) [.tm 16],w1 18 (.append 2 16 Z2) [.tm 11,.tm 17],Zu 5 18]) .ret))⟩
theorem Yp4:Yn Yb Tryz.f50=some v50:=by kernel_rfl
def v51:VF:=⟨9,[.tmp 3],(ZR [u1 3 .mov [.cn (.bool false)]] (ZR [Zf 4 1 1,Zm 5 0,u1 6 .callv [.tm 4,.tm 5],Zc 7 52 6,Zq 8 .geq 7 0,Zm 3 8] .ret))⟩
theorem Yp5:Yn Yb Tryz.f51=some v51:=by kernel_rfl
def J5(s:Int)(x:Int×Int):Int×Int:=(x.1,x.2*s)
def atG(all:List (Int×Int))(den m:Int):List (Int×Int):=all++[(2, -m*den)]
def isG(all:List (Int×Int))(den m:Int):Bool:=decide (0<=Qf (atG all den m))
def G8(den s:Int):Bool:=decide (den<1) || decide (1000000<den) || decide (s<1) || decide (10000000<s)
def Gh(all:List (Int×Int))(den:Int):Int×Bool×Int:=
 if(isG all den 1000000000001|| !isG all den (-1000000000000))=true then(0,false,7)
 else(KY 64 (isG all den) (-1000000000000) 1000000000001,WG (atG all den (KY 64 (isG all den) (-1000000000000) 1000000000001)),0)
def JE(l:List (Int×Int))(den s:Int):Int×Bool×Int:=
 if QG l≠0 then(0,false,QG l)else if G8 den s=true then(0,false,2)else Gh (l.map (J5 s)) den
theorem BV{α β:Type}[Inhabited α][Inhabited β]{l:List α}{f:α->β}{k:Nat}(h:k<l.length):(l.map f).getD k default=f (l.getD k default):=by
 rw[Kh,List.getElem?_map,VL h,Kh,VL h];rfl
theorem De{A:List (Int×Int)}{L:Nat}(hL:A.length=L){q:Int}{hp:List HO}{r:List SV->List SV}:
 lsP 2 Yw (L+1) 2 (fun k=>Jw false hp r (if k<L then [SV.int .i64 (A.getD k default).fst,SV.int .i64 (A.getD k default).snd]else YP 2 (YF ((k-L)*2) [SV.int .i64 2,SV.int .i64 q]))) (A++[(2,q)]):=by
 subst hL
 refine⟨rfl,by simp,fun k hk=>?_⟩
 by_cases h:k<A.length
 ·simp only[if_pos h]
  rw[Bv h]
  exact YW _
 ·simp only[if_neg h]
  rw[Bw (by omega),show k-A.length=0 by omega]
  exact YW _
theorem Yfj{l:List (Int×Int)}{s den m:Int}(hl:∀x,x∈l->JB x=false)(hs:1<=s/\s<=10000000)(hd:1<=den/\den<=1000000)(hm: -1000000000001<=m/\m<=1000000000001):∀x,x∈atG (l.map (J5 s)) den m->okT x:=by
 intro x hx
 rw[atG,Ky,Jj,QM]at hx
 rcases hx with⟨y,hy,rfl⟩ |rfl
 ·have:=hl y hy
  simp only[JB,K5,decide_eq_false_iff_not]at this
  have hb:=Jv (x:=y.2) (y:=s) (X:=1000000000) (Y:=10000000) (by omega) (by omega)
  simp only[okT,J5]
  omega
 ·have hb:=Jv (x:= -m) (y:=den) (X:=1000000000001) (Y:=1000000) (by omega) (by omega)
  simp only[okT]
  omega
theorem BX{m den:Int}(hd:1<=den/\den<=1000000)(hm: -1000000000001<=m/\m<=1000000000001):IntKind.i64.wrap (IntKind.i64.wrap (0-m)*den)= -m*den:=by
 have hb:=Jv (x:= -m) (y:=den) (X:=1000000000001) (Y:=1000000) (by omega) (by omega)
 rw[Yg (0-m) (by omega),Int.zero_sub,Yg _ (by omega)]
theorem PC{A:List (Int×Int)}{L:Nat}{x y:Int}{k a b:Nat}(hk:k<L+1):leL a b (if k<L then [SV.int .i64 (A.getD k default).fst,SV.int .i64 (A.getD k default).snd]else YP 2 (YF ((k-L)*2) [SV.int .i64 x,SV.int .i64 y])) (if k<L then [SV.int .i64 (A.getD k default).fst,SV.int .i64 (A.getD k default).snd]else YP 2 (YF ((k-L)*2) [SV.int .i64 x,SV.int .i64 y])):=by
 by_cases h:k<L
 ·rw[if_pos h];exact⟨⟨rfl,rfl⟩,⟨rfl,rfl⟩,trivial⟩
 ·rw[if_neg h,show k-L=0 by omega];exact⟨⟨rfl,rfl⟩,⟨rfl,rfl⟩,trivial⟩
def flrC:Ctr:={ alias:=false,of:=fun l=>match l with
 | [.vs _ _ n sz get,.int .i64 den,.int .i64 s]=> .ex (List (Int×Int)) fun l=> .pre (lsP 2 Yw n sz get l/\n<=1000000000000) (.fin (.tup [.int .i64 (JE l den s).1,.bool (JE l den s).2.1,.int .i64 (JE l den s).2.2]) [])
 |_=>noC}
def TE0:Env:=mkE [(49,chkTC),(52,signC),(54,oneC)] [(50,v50),(51,v51),(53,v53)]
theorem Yeu:YD Yb TE0:=eo (by kernel_rfl) ⟨⟨SS,_,Tryz.func49,rfl,rfl⟩,⟨Yb0,_,Tryz.func52,rfl,rfl⟩,⟨LW,_,Tryz.func54,rfl,rfl⟩,trivial⟩ ⟨⟨_,Tryz.func50,Yp4,_,Tryz.func50,rfl,rfl⟩,⟨_,Tryz.func51,Yp5,_,Tryz.func51,rfl,rfl⟩,⟨_,Tryz.func53,Ydr,_,Tryz.func53,rfl,rfl⟩,trivial⟩
theorem TX:flrC.ok Yb 31:=by
 refine Yy Tryz.func31 YpM Yeu 800 flrC fun args k h=>?_
 simp only[flrC]at h
 split at h
 ·rename_i tt z n sz get den s
  obtain⟨l,⟨⟨rfl,rfl,hg⟩,hnb⟩,h⟩:=h
  refine⟨[.vs tt z l.length 2 (fun k=>Yw (l.getD k default)),.int .i64 den,.int .i64 s],⟨⟨id,rfl,rfl,rfl,hg⟩,⟨rfl,rfl⟩,⟨rfl,rfl⟩,trivial⟩,?_⟩
  dsimp only[v31,TE0,Yk,chkTC,Yw,go_sem,reduceIte,Ya]
  simp only[Yd,Ya,Ye,reduceCtorEq,Yc]
  refine⟨l,⟨⟨rfl,rfl,fun k _=>YW _⟩,by omega⟩,fun hh=>by rw[JE,if_pos hh]at h;exact WM h,fun hchk=>?_⟩
  obtain⟨hl,hn⟩:=Ea hchk
  rw[JE,if_neg (by rw[hchk];decide)]at h
  refine⟨fun hh=>?_,fun hb=>?_⟩
  ·rw[if_pos (show G8 den s=true from hh)]at h
   exact WM h
  have hb:G8 den s=false:=hb
  rw[if_neg (by rw[hb];decide)]at h
  simp only[G8,K5,decide_eq_false_iff_not]at hb
  have hb:(1<=den/\den<=1000000)/\1<=s/\s<=10000000:=by omega
  have hlw:IntKind.i64.wrap ((l.length:Int)+1)=(l.length:Int)+1:=Yg _ (by omega)
  rw[hlw]
  refine⟨⟨by decide,by decide,by omega,by unfold Y8;omega⟩,?_⟩
  obtain⟨A,hA⟩:∃A,A=l.map (J5 s):=⟨_,rfl⟩
  have hAl:A.length=l.length:=by rw[hA,VN]
  have hAk:∀k,k<l.length->A.getD k default=J5 s (l.getD k default):=fun k hk=>by rw[hA,BV hk]
  rw[<-hA]at h
  refine Loop.keep [2,0,0,1,0,0,1,27,0] Nat (fun i=>[(40,.int .i64 i)]) (fun i=>[(2,.own false 2 i (fun k=>Yw (A.getD k default))),(3,.box [.own 2 0 i 2])]) [] (fun i=>i<=l.length) (fun i=>l.length-i) ?_ ?_
  ·refine⟨0,JJ _,?_⟩
   dsimp only[go_sem,reduceIte,Ya]
   simp only[Yf]
   refine⟨⟨by decide,by decide,by decide,rfl⟩,⟨rfl,fun k hk=>absurd hk (J8 _)⟩,rfl,by decide⟩
  ·rintro i hi
   dsimp only[Yj,Yw,go_sem,reduceIte,Ya]
   simp only[Yd,Ya,Ye,reduceCtorEq,Yc]
   refine⟨fun hlt=>?_,fun hge=>?_⟩
   ·have hil:i<l.length:=by omega
    have hx:=hl _ (KZ hil)
    simp only[JB,K5,decide_eq_false_iff_not]at hx
    have hm:=Jv (x:=(l.getD i default).2) (y:=s) (X:=1000000000) (Y:=10000000) (by omega) (by omega)
    rw[Yg ((l.getD i default).2*s) (by omega),FR (i:=i) (n:=l.length) hil (by omega)]
    refine⟨⟨by omega,by omega⟩,by decide,⟨by unfold Y8;omega,fun k hk=>GD hk⟩,i+1,by omega,by omega,?_⟩
    simp only[Yf]
    refine⟨?_,⟨rfl,fun q hq=>?_⟩,?_⟩
    ·repeat' apply YC
     all_goals first|exact trivial|decide|rfl|omega|exact(K7 (by omega)).symm|simp
    ·by_cases hqi:q<i
     ·rw[if_pos hqi];exact⟨⟨rfl,rfl⟩,⟨rfl,rfl⟩,trivial⟩
     ·obtain rfl:q=i:=by omega
      rw[if_neg hqi,hAk _ hil,Nat.sub_self]
      exact⟨⟨rfl,rfl⟩,⟨rfl,rfl⟩,trivial⟩
    ·repeat' apply YC
     all_goals first|exact trivial|decide|rfl|omega|exact(K7 (by omega)).symm|simp
   ·obtain rfl:i=l.length:=by omega
    clear hi hge
    dsimp only[TE0,Yk,v51,v50,signC,go_sem,reduceIte,Ya]
    simp only[Yd,Ya,Ye,reduceCtorEq,Yc]
    rw[BX hb.1 (by decide),BX hb.1 (by decide)]
    simp only[Yj]
    have hok:∀m:Int,(-1000000000001<=m/\m<=1000000000001)->∀x,x∈atG A den m->okT x:=fun m hm=>by rw[hA];exact Yfj hl hb.2 hb.1 hm
    refine⟨⟨by omega,by omega⟩,by decide,⟨by decide,by unfold Y8;omega,fun k hk=>GD hk⟩,atG A den 1000000000001,⟨De hAl,hok _ (by decide),by omega⟩,?_⟩
    refine⟨fun hs1=>?_,fun hs1=>?_⟩
    ·refine⟨⟨by omega,by omega⟩,by decide,⟨by decide,by unfold Y8;omega,fun k hk=>GD hk⟩,atG A den (-1000000000000),⟨De hAl,hok _ (by decide),by omega⟩,fun hc=>?_,fun hc=>?_⟩
     ·rw[Gh,if_pos (show(isG A den 1000000000001|| !isG A den (-1000000000000))=true from hc)]at h
      exact WM h
     ·rw[Gh,if_neg (by rw[show(isG A den 1000000000001|| !isG A den (-1000000000000))=false from hc];decide)]at h
      dsimp only[TE0,Yk,v53,go_sem,reduceIte,Ya]
      simp only[Yd,Ya,Ye,reduceCtorEq,Yc]
      obtain⟨t,ht⟩:∃t,t=isG A den:=⟨_,rfl⟩
      obtain⟨R,hR⟩:∃R,R=KY 64 t (-1000000000000) 1000000000001:=⟨_,rfl⟩
      rw[<-ht,<-hR]at h
      refine Loop.keep [2] (Nat×Int×Int) (fun s=>[(0,.int .i64 s.2.1),(1,.int .i64 s.2.2)]) (fun _=>[]) [] (fun s=>R=KY s.1 t s.2.1 s.2.2/\ -1000000000000<=s.2.1/\s.2.1<s.2.2/\s.2.2<=1000000000001/\s.2.2-s.2.1<=2^s.1) (fun s=>s.1) ?_ ?_
      ·refine⟨(64, -1000000000000,1000000000001),⟨hR,by decide,by decide,by decide,by decide⟩,?_⟩
       dsimp only[go_sem,reduceIte,Ya]
       simp only[Yf]
       repeat' apply YC
       all_goals first|decide|rfl| (intro k hk;exact PC hk)
      ·rintro⟨f,lo,hi⟩ ⟨hf,b0,b1,b2,b3⟩
       dsimp only at hf b0 b1 b2 b3
       dsimp only[TE0,Yk,v51,v50,signC,oneC,go_sem,reduceIte,Ya]
       simp only[Yd,Ya,Ye,reduceCtorEq,Yc]
       simp only[Yj]
       have ed:IntKind.i64.wrap (hi-lo)=hi-lo:=Yg _ (by omega)
       have e2:IntKind.i64.wrap ((hi-lo).tdiv 2)=(hi-lo)/2:=by
        rw[Wo (by omega),Yg _ (by omega)]
       have e3:IntKind.i64.wrap (lo+(hi-lo)/2)=lo+(hi-lo)/2:=Yg _ (by omega)
       rw[ed,e2,e3]
       refine⟨fun hc1=>?_,fun hc1=>?_⟩
       ·obtain⟨m,hm⟩:∃m,m=lo+(hi-lo)/2:=⟨_,rfl⟩
        rw[<-hm,BX hb.1 (by omega)]
        obtain⟨g,rfl⟩:∃g,f=g+1:=by
         cases f with
         |zero=>simp at b3;omega
         |succ g=>exact⟨g,rfl⟩
        rw[KY,if_pos hc1,<-hm]at hf
        have b4:hi-lo<=2^g*2:=by rw[<-Int.pow_succ];exact b3
        refine⟨by decide,⟨by omega,by omega⟩,by decide,⟨by decide,by unfold Y8;omega,fun k hk=>GD hk⟩,atG A den m,⟨De hAl,hok _ (by omega),by omega⟩,fun hd1=>?_,fun hd1=>?_⟩
        ·have hd1:t m=true:=by rw[ht];exact decide_eq_true hd1
         rw[if_pos hd1]at hf
         refine⟨(g,m,hi),⟨hf,by simp only;omega,by simp only;omega,b2,by simp only;omega⟩,by simp only;omega,?_⟩
         simp only[Yf]
         repeat' apply YC
         all_goals first|decide|rfl| (intro k hk;exact PC hk)
        ·have hd1:t m=false:=by rw[ht];exact decide_eq_false hd1
         rw[if_neg (by rw[hd1];decide)]at hf
         refine⟨(g,lo,m),⟨hf,by simp only;omega,by simp only;omega,by simp only;omega,by simp only;omega⟩,by simp only;omega,?_⟩
         simp only[Yf]
         repeat' apply YC
         all_goals first|decide|rfl| (intro k hk;exact PC hk)
       ·have hRlo:R=lo:=by
         cases f with
         |zero=>exact hf
         |succ g=>rw[hf,KY,if_neg hc1]
        subst hRlo
        rw[BX hb.1 (by omega)]
        exact⟨⟨by omega,by omega⟩,by decide,⟨by decide,by unfold Y8;omega,fun k hk=>GD hk⟩,atG A den R,⟨De hAl,hok _ (by omega),by omega⟩,WM h⟩
    ·refine⟨hs1,.bool false,?_⟩
     dsimp only[TE0,Yk,v51,v50,signC,go_sem,reduceIte,Ya]
     simp only[Yd,Ya,Ye,reduceCtorEq,Yc]
     have hw:isG A den 1000000000001=true:=decide_eq_true hs1
     rw[Gh,if_pos (by rw[hw];rfl)]at h
     refine⟨fun _=>WM h,fun hc=>?_⟩
     rw[decide_eq_true hs1]at hc
     cases hc
 ·exact h.1.elim
def Yc7:VF:={ ntmps:=51,res:=[.cell 2 true 7,.tmp 3,.tmp 4],body:=
 (ZR [u1 1 .box [.tm 0],
 u1 2 (.alloc Z7) [],
 Zi 3 0,
 Zi 4 0]
 (ZR [Zt 11 7 1,
 Zc 12 82 11,
 Zm 10 12,
 Ze 13 0 10,
 Ze 14 1 10,
 Ze 15 2 10,
 Zm 5 13,
 Zm 6 14,
 Zm 4 15]
 (.seq (ZR [Zm 16 4,
 Zq 17 .neq 16 0]
 (ZC 17 (ZR [u1 18 (.build Z7 []) [],
 Zm 19 4,
 Zs 7 2 18,
 Zi 3 0,
 Zm 4 19]
 .ret)
  .skip))
 (ZR [Zm 21 5,
 Zm 22 6,
 u1 23 (.call 31) [.tm 21,.tm 22,.cn (.int .i64 1)],
 Zm 20 23,
 Ze 24 0 20,
 Ze 25 1 20,
 Ze 26 2 20,
 Zm 7 24,
 Zm 8 25,
 Zm 9 26]
 (ZR [Za 27 0 1,
 u1 28 (.idxArr 6 1) [.tm 27,.cn (.int .i64 0)],
 Zf 29 1 28,
 Zm 30 7,
 Za 31 6 1,
 Zf 32 1 31,
 Zo 33 .mul 30 32,
 Zo 34 .sub 29 33,
 Za 35 0 1,
 u1 36 (.idxArr 6 1) [.tm 35,.cn (.int .i64 0)],
 Zs 1 36 34]
 (.seq (ZR [Za 38 0 1,
 Zt 39 6 38,
 Za 40 6 1,
 Zf 41 1 40,
 Zd 42 147 39 41,
 Zm 37 42,
 Ze 43 0 37,
 Ze 44 1 37,
 Zs 7 2 43,
 Zm 4 44]
 (ZR [Zm 45 4,
 Zq 46 .neq 45 0]
 (ZC 46 (ZR [u1 47 (.build Z7 []) [],
 Zm 48 4,
 Zs 7 2 47,
 Zi 3 0,
 Zm 4 48]
 .ret)
  .skip)))
 (ZR [Zt 49 7 2,
 Zm 50 7,
 Zs 7 2 49,
 Zm 3 50,
 Zi 4 0]
 .ret)))))))}
theorem Ypp:Yn Yb Tryz.f144=some Yc7:=by kernel_rfl
def YcK:VF:={ ntmps:=14,res:=[.cell 4 true 7],body:=
 (ZR [u1 4 (.alloc Z7) []]
 (ZR [Zm 8 0,
 Zm 9 1,
 Zd 10 141 8 9,
 Zm 7 10,
 Ze 11 0 7,
 Ze 12 1 7,
 u1 5 (.alloc Z7) [],
 Zs 7 5 11,
 Zm 6 12]
 (ZR [Zt 13 7 5,
 Zs 7 4 13]
 .ret)))}
theorem YoZ:Yn Yb Tryz.f116=some YcK:=by kernel_rfl
def YcN:VF:={ ntmps:=14,res:=[.cell 4 true 7],body:=
 (ZR [u1 2 .box [.tm 0],
 u1 3 .box [.tm 1],
 u1 4 (.alloc Z7) []]
 (ZR [Zt 8 7 2,
 Zt 9 7 3,
 Zd 10 145 8 9,
 Zm 7 10,
 Ze 11 0 7,
 Ze 12 1 7,
 u1 5 (.alloc Z7) [],
 Zs 7 5 11,
 Zm 6 12]
 (ZR [Zt 13 7 5,
 Zs 7 4 13]
 .ret)))}
theorem Yo2:Yn Yb Tryz.f119=some YcN:=by kernel_rfl
def Yc6:VF:={ ntmps:=14,res:=[.cell 4 true 7],body:=
 (ZR [u1 2 .box [.tm 0],
 u1 3 .box [.tm 1],
 u1 4 (.alloc Z7) []]
 (ZR [Zt 8 7 2,
 Zt 9 7 3,
 Zd 10 81 8 9,
 Zm 7 10,
 Ze 11 0 7,
 Ze 12 1 7,
 u1 5 (.alloc Z7) [],
 Zs 7 5 11,
 Zm 6 12]
 (ZR [Zt 13 7 5,
 Zs 7 4 13]
 .ret)))}
theorem Ypo:Yn Yb Tryz.f143=some Yc6:=by kernel_rfl
def YcM:VF:={ ntmps:=13,res:=[.cell 2 true 7],body:=
 (ZR [u1 1 .box [.tm 0],
 u1 2 (.alloc Z7) []]
 (ZR [Zt 7 7 1,
 Zc 8 144 7,
 Zm 6 8,
 Ze 9 0 6,
 Ze 10 1 6,
 Ze 11 2 6,
 u1 3 (.alloc Z7) [],
 Zs 7 3 9,
 Zm 4 10,
 Zm 5 11]
 (ZR [Zt 12 7 3,
 Zs 7 2 12]
 .ret)))}
theorem Yo1:Yn Yb Tryz.f118=some YcM:=by kernel_rfl
theorem CX{t:Int->Bool}:∀(f:Nat)(a b:Int),a<b->a<=KY f t a b/\KY f t a b<b
 |0,a,b,h=>⟨Int.le_refl _,h⟩
 |f+1,a,b,h=>by
  rw[KY]
  split
  ·split
   ·have:=CX (t:=t) f (a+(b-a)/2) b (by omega);omega
   ·have:=CX (t:=t) f a (a+(b-a)/2) (by omega);omega
  ·omega
theorem TW(l:List (Int×Int))(den s:Int): -1000000000000<=(JE l den s).1/\(JE l den s).1<=1000000000000:=by
 unfold JE
 split
 ·simp only;omega
 ·split
  ·simp only;omega
  ·unfold Gh
   split
   ·simp only;omega
   ·have:=CX (t:=isG (l.map (J5 s)) den) 64 (-1000000000000) 1000000000001 (by decide)
    simp only
    omega
def W7(r:Rt)(k:Int):Rt:=⟨r.a-k*r.n,r.b,r.c,r.d,r.e,r.f,r.n⟩
def JF(r:Rt):Rt×Int×Int:=
 if Y4 r≠0 then(KW,0,Y4 r)
 else if(Jf (W7 r (JE (Yu r) r.n 1).1)).2≠0 then(KW,0,(Jf (W7 r (JE (Yu r) r.n 1).1)).2)
 else((Jf (W7 r (JE (Yu r) r.n 1).1)).1,(JE (Yu r) r.n 1).1,0)
def foldC:Ctr:={ alias:=false,of:=fun l=>match l with
 | [.agg [.int .i64 a,.int .i64 b,.int .i64 c,.int .i64 d,.int .i64 e,.int .i64 f,.int .i64 n]]=> .fin (.tup [.agg (Yr (JF ⟨a,b,c,d,e,f,n⟩).1),.int .i64 (JF ⟨a,b,c,d,e,f,n⟩).2.1,.int .i64 (JF ⟨a,b,c,d,e,f,n⟩).2.2]) []
 |_=>noC}
theorem F0{k:SV->List HO->Prop}{al:Bool}{hp:List HO}{r:Rt}{o e:Int}(h:k (.tup [.agg (Yr r),.int .i64 o,.int .i64 e]) []):Jz al k (.tup [.agg (Yr r),.int .i64 o,.int .i64 e]) hp:=
 Kv (show k _ []from h) (JG (.tup [.agg (Yr r),.int .i64 o,.int .i64 e]) ⟨⟨trivial,trivial,trivial,trivial,trivial,trivial,trivial,trivial⟩,trivial,trivial,trivial⟩) (fun _=>by simp [Y3,Y5,Yr])
def TF0:Env:=mkE [(82,trmC),(31,flrC),(147,madeC)] []
theorem Yev:YD Yb TF0:=eo (by kernel_rfl) ⟨⟨Yct,_,Tryz.func82,rfl,rfl⟩,⟨TX,_,Tryz.func31,rfl,rfl⟩,⟨Lx,_,Tryz.func147,rfl,rfl⟩,trivial⟩ trivial
theorem Yg9:foldC.ok Yb 144:=by
 refine Yy Tryz.func144 Ypp Yev 300 foldC fun args k h=>?_
 simp only[foldC]at h
 split at h
 ·rename_i a b c d e f n
  refine⟨[.agg [.int .i64 a,.int .i64 b,.int .i64 c,.int .i64 d,.int .i64 e,.int .i64 f,.int .i64 n]],by simp [leL,le],?_⟩
  obtain⟨r,hr⟩:∃r:Rt,r=⟨a,b,c,d,e,f,n⟩:=⟨_,rfl⟩
  rw[<-hr]at h
  rw[show a=r.a by rw[hr],show b=r.b by rw[hr],show c=r.c by rw[hr],show d=r.d by rw[hr],show e=r.e by rw[hr],show f=r.f by rw[hr],show n=r.n by rw[hr]]
  clear hr
  have h:k (.tup [.agg (Yr (JF r).1),.int .i64 (JF r).2.1,.int .i64 (JF r).2.2]) []:=h
  dsimp only[Yc7,TF0,Yk,trmC,flrC,madeC,Yr,go_sem,reduceIte,Ya]
  simp only[Yd,Ya,Ye,reduceCtorEq,Yc]
  rw[show Rt.mk r.a r.b r.c r.d r.e r.f r.n=r from rfl]
  by_cases hc:Y4 r=0
  ·rw[if_neg (by rw[hc];decide)]
   rw[JF,if_neg (by rw[hc];decide)]at h
   dsimp only[TF0,Yk,trmC,flrC,madeC,Yr,go_sem,reduceIte,Ya]
   simp only[Yd,Ya,Ye,reduceCtorEq,Yc]
   have hk:=TW (Yu r) r.n 1
   have hn:=XX hc
   have ha:=Wj hc (i:=0) (by decide)
   simp only[Rt.num]at ha
   have hm:=Jv (x:=(JE (Yu r) r.n 1).1) (y:=r.n) (X:=1000000000000) (Y:=1000) hk (by omega)
   refine fun y=>⟨by decide,by decide,by decide,fun hh=>absurd trivial hh,Yu r,⟨⟨rfl,rfl,fun q _=>YW _⟩,by have:=Uj r;omega⟩,?_⟩
   rw[Yg ((JE (Yu r) r.n 1).1*r.n) (by omega),Yg (r.a-(JE (Yu r) r.n 1).1*r.n) (by omega)]
   refine⟨by decide,by decide,by decide,by decide,by decide,⟨by omega,by omega,fun i hi=>?_⟩,by decide,by decide,fun he=>?_,fun he=>?_⟩
   ·have:=Wj hc hi
    rcases six hi with rfl|rfl|rfl|rfl|rfl|rfl <;> (simp only[Rt.num]at this⊢;omega)
   ·rw[if_pos (show(Jf (W7 r (JE (Yu r) r.n 1).1)).2≠0 from he)]at h
    exact F0 (r:=KW) h
   ·rw[if_neg (show¬(Jf (W7 r (JE (Yu r) r.n 1).1)).2≠0 from fun hh=>hh he)]at h
    exact(F0 (r:=(Jf (W7 r (JE (Yu r) r.n 1).1)).1) h)
  ·rw[if_pos hc]
   rw[JF,if_pos hc]at h
   dsimp only[TF0,Yk,trmC,flrC,madeC,Yr,go_sem,reduceIte,Ya]
   simp only[Yd,Ya,Ye,reduceCtorEq,Yc]
   exact⟨by decide,by decide,by decide,fun _=>F0 (r:=KW) h,fun hh=>absurd hh hc⟩
 ·exact h.1.elim
def MX:Ctr:=Jp 1
def Vr:Ctr:=Jp (-1)
def wholeC:Ctr:={ alias:=false,of:=fun l=>match l with
 | [.int .i64 a,.int .i64 b]=> .fin (.agg (Yr (K1 a b).1)) []
 |_=>noC}
def m2C(s:Int):Ctr:={ alias:=false,of:=fun l=>match l with
 | [.agg [.int .i64 a,.int .i64 b,.int .i64 c,.int .i64 d,.int .i64 e,.int .i64 f,.int .i64 n],.agg [.int .i64 a',.int .i64 b',.int .i64 c',.int .i64 d',.int .i64 e',.int .i64 f',.int .i64 n']]=>
   .fin (.agg (Yr (KQ ⟨a,b,c,d,e,f,n⟩ ⟨a',b',c',d',e',f',n'⟩ s).1)) []
 |_=>noC}
def folC:Ctr:={ alias:=false,of:=fun l=>match l with
 | [.agg [.int .i64 a,.int .i64 b,.int .i64 c,.int .i64 d,.int .i64 e,.int .i64 f,.int .i64 n]]=> .fin (.agg (Yr (JF ⟨a,b,c,d,e,f,n⟩).1)) []
 |_=>noC}
def TF1:Env:=mkE [(141,ofRC),(145,MX),(81,Vr),(144,foldC)] []
theorem N4:YD Yb TF1:=eo (by kernel_rfl) ⟨⟨of_c,_,Tryz.func141,rfl,rfl⟩,⟨YjT,_,Tryz.func145,rfl,rfl⟩,⟨Tg,_,Tryz.func81,rfl,rfl⟩,⟨Yg9,_,Tryz.func144,rfl,rfl⟩,trivial⟩ trivial
theorem Ydy:wholeC.ok Yb 116:=by
 refine Yy Tryz.func116 YoZ N4 300 wholeC fun args k h=>?_
 simp only[wholeC]at h
 split at h
 ·rename_i a b
  refine⟨[.int .i64 a,.int .i64 b],by simp [leL,le],?_⟩
  dsimp only[YcK,TF1,Yk,ofRC,MX,Vr,Jp,foldC,Yr,go_sem,reduceIte,Ya]
  simp only[Yd,Ya,Ye,reduceCtorEq,Yc]
  exact⟨by decide,by decide,VU (r:=(K1 a b).1) h⟩
 ·exact h.1.elim
theorem TY:folC.ok Yb 118:=by
 refine Yy Tryz.func118 Yo1 N4 300 folC fun args k h=>?_
 simp only[folC]at h
 split at h
 ·rename_i a b c d e f n
  refine⟨[.agg [.int .i64 a,.int .i64 b,.int .i64 c,.int .i64 d,.int .i64 e,.int .i64 f,.int .i64 n]],by simp [leL,le],?_⟩
  dsimp only[YcM,TF1,Yk,ofRC,MX,Vr,Jp,foldC,Yr,go_sem,reduceIte,Ya]
  simp only[Yd,Ya,Ye,reduceCtorEq,Yc]
  exact⟨by decide,by decide,by decide,VU (r:=(JF ⟨a,b,c,d,e,f,n⟩).1) h⟩
 ·exact h.1.elim
theorem Ycs:(m2C 1).ok Yb 119:=by
 refine Yy Tryz.func119 Yo2 N4 300 (m2C 1) fun args k h=>?_
 simp only[m2C]at h
 split at h
 ·rename_i a b c d e f n a' b' c' d' e' f' n'
  refine⟨[.agg [.int .i64 a,.int .i64 b,.int .i64 c,.int .i64 d,.int .i64 e,.int .i64 f,.int .i64 n],.agg [.int .i64 a',.int .i64 b',.int .i64 c',.int .i64 d',.int .i64 e',.int .i64 f',.int .i64 n']],by simp [leL,le],?_⟩
  dsimp only[YcN,TF1,Yk,ofRC,MX,Vr,Jp,foldC,Yr,go_sem,reduceIte,Ya]
  simp only[Yd,Ya,Ye,reduceCtorEq,Yc]
  exact⟨by decide,by decide,VU (r:=(KQ ⟨a,b,c,d,e,f,n⟩ ⟨a',b',c',d',e',f',n'⟩ 1).1) h⟩
 ·exact h.1.elim
theorem YkO:(m2C (-1)).ok Yb 143:=by
 refine Yy Tryz.func143 Ypo N4 300 (m2C (-1)) fun args k h=>?_
 simp only[m2C]at h
 split at h
 ·rename_i a b c d e f n a' b' c' d' e' f' n'
  refine⟨[.agg [.int .i64 a,.int .i64 b,.int .i64 c,.int .i64 d,.int .i64 e,.int .i64 f,.int .i64 n],.agg [.int .i64 a',.int .i64 b',.int .i64 c',.int .i64 d',.int .i64 e',.int .i64 f',.int .i64 n']],by simp [leL,le],?_⟩
  dsimp only[Yc6,TF1,Yk,ofRC,MX,Vr,Jp,foldC,Yr,go_sem,reduceIte,Ya]
  simp only[Yd,Ya,Ye,reduceCtorEq,Yc]
  exact⟨by decide,by decide,VU (r:=(KQ ⟨a,b,c,d,e,f,n⟩ ⟨a',b',c',d',e',f',n'⟩ (-1)).1) h⟩
 ·exact h.1.elim
def We(c:Int):Bool:=(decide (97<=c)&&decide (c<=122)) || (decide (65<=c)&&decide (c<=90))
def VY(c:Int):Bool:=decide (48<=c)&&decide (c<=57)
def okB(b:ByteArray)(i:Nat):Bool:=We (Jm b i) || (decide (i≠0)&&(decide (Jm b i=95) || VY (Jm b i)))
def XM(b:ByteArray):Bool:=decide (1<=b.size)&&decide (b.size<=16)&&(List.range b.size).all (okB b)
theorem O1(b:ByteArray)(i:Nat):(!We (Jm b i)&&(decide ((i:Int)=0) || !decide (Jm b i=95)&& !VY (Jm b i)))= !okB b i:=by
 unfold okB
 have e:decide ((i:Int)=0)=decide (i=0):=decide_eq_decide.2 (by omega)
 rw[e,decide_not]
 cases We (Jm b i) <;> cases decide (i=0) <;> cases decide (Jm b i=95) <;> cases VY (Jm b i) <;> rfl
theorem OZ{b:ByteArray}(h:∀j,j<b.size->okB b j=true):(List.range b.size).all (okB b)=true:=by
 rw[VJ];intro j hj;exact h j (List.mem_range.1 hj)
theorem O0{b:ByteArray}{i:Nat}(hi:i<b.size)(h:okB b i=false):(List.range b.size).all (okB b)=false:=by
 rw[List.all_eq_false];exact⟨i,List.mem_range.2 hi,by simp [h]⟩
theorem OF{b:ByteArray}{i:Nat}(hi:i<b.size)(h:okB b i=false):XM b=false:=by
 unfold XM;rw[O0 hi h,Bool.and_false]
theorem Yj2{b:ByteArray}(h:∀j,j<b.size->okB b j=true):XM b=(decide (1<=(b.size:Int))&&decide ((b.size:Int)<=16)):=by
 unfold XM
 rw[OZ h,Bool.and_true,show decide (1<=(b.size:Int))=decide (1<=b.size)from decide_eq_decide.2 (by omega),show decide ((b.size:Int)<=16)=decide (b.size<=16)from decide_eq_decide.2 (by omega)]
def okR(b:ByteArray)(i:Nat):Bool:=We (Jm b i) || (VY (Jm b i) || decide (Jm b i=95))
theorem Ynj{b:ByteArray}(h:(decide ((b.size:Int)<1) || decide (16<(b.size:Int)) || !We (Jm b 0))=true):XM b=false:=by
 unfold XM
 by_cases h1:1<=b.size
 ·by_cases h2:b.size<=16
  ·have h3:We (Jm b 0)=false:=by
    rw[show decide ((b.size:Int)<1)=false from decide_eq_false (by omega),show decide (16<(b.size:Int))=false from decide_eq_false (by omega)]at h
    simpa using h
   rw[O0 (i:=0) (by omega) (by simp [okB,h3]),Bool.and_false]
  ·rw[decide_eq_false h2,Bool.and_false,Bool.false_and]
 ·rw[decide_eq_false h1];rfl
theorem Ynk{b:ByteArray}{i:Nat}(hi:i<b.size)(h:okR b i=false):XM b=false:=by
 refine OF hi ?_
 unfold okR at h
 unfold okB
 simp only[K5]at h
 rw[h.1,h.2.1,h.2.2]
 simp
theorem Ynm{b:ByteArray}(h:(decide ((b.size:Int)<1) || decide (16<(b.size:Int)) || !We (Jm b 0))=false)(ha:∀j,j<b.size->okR b j=true):XM b=true:=by
 simp only[K5,decide_eq_false_iff_not,Bool.not_eq_false']at h
 obtain⟨⟨h1,h2⟩,h3⟩:=h
 unfold XM
 rw[decide_eq_true (by omega),decide_eq_true (by omega),OZ fun j hj=>?_];rfl
 have:=ha j hj
 unfold okR at this
 unfold okB
 by_cases hj0:j=0
 ·subst hj0;rw[h3];rfl
 ·rw[decide_eq_true hj0,Bool.true_and]
  revert this
  cases We (Jm b j) <;> cases VY (Jm b j) <;> cases decide (Jm b j=95) <;> simp
theorem O5(b:ByteArray)(i:Nat):(!We (Jm b i)&& !VY (Jm b i)&& !decide (Jm b i=95))= !okR b i:=by
 unfold okR
 cases We (Jm b i) <;> cases decide (Jm b i=95) <;> cases VY (Jm b i) <;> rfl
theorem C0(b:ByteArray)(i:Nat):0<=Jm b i/\Jm b i<=255:=by
 unfold Jm
 have h:=UInt8.toNat_lt (b.data.toList.getD i 0)
 omega
set_option maxRecDepth 100000 in
theorem Yjh{c:Int}(h0:0<=c)(h1:c<=255):(decide (97<=JR .or .u8 c 32)&&decide (JR .or .u8 c 32<=122))=We c:=by
 have key:∀n:Fin 256,(decide (97<=JR .or .u8 ((n.val:Nat):Int) 32)&&decide (JR .or .u8 ((n.val:Nat):Int) 32<=122))=We ((n.val:Nat):Int):=by decide
 have:=key ⟨c.toNat,by omega⟩
 have e:((c.toNat:Nat):Int)=c:=by omega
 simp only[e]at this
 exact this
def Yc2:VF:={ ntmps:=11,res:=[.tmp 2],body:=
 (ZR [u1 2 .mov [.cn (.bool false)]]
 (ZR [Zm 3 0,
 u1 4 (.bit .or) [.tm 3,.cn (.int .u8 32)],
 u1 5 (.cmp .geq) [.tm 4,.cn (.int .u8 97)],
 Zm 6 5,
 Zg 7 6 true 0,
 u2 8 6 true (.bit .or) [.tm 7,.cn (.int .u8 32)],
 u2 9 6 true (.cmp .leq) [.tm 8,.cn (.int .u8 122)],
 u1 10 .and [.tm 6,.tm 9],
 Zm 2 10]
 .ret))}
theorem Ypj:Yn Yb Tryz.f139=some Yc2:=by kernel_rfl
def Yc3:VF:={ ntmps:=9,res:=[.tmp 2],body:=
 (ZR [u1 2 .mov [.cn (.bool false)]]
 (ZR [Zm 3 0,
 u1 4 (.cmp .geq) [.tm 3,.cn (.int .u8 48)],
 Zm 5 4,
 Zg 6 5 true 0,
 u2 7 5 true (.cmp .leq) [.tm 6,.cn (.int .u8 57)],
 u1 8 .and [.tm 5,.tm 7],
 Zm 2 8]
 .ret))}
theorem Ypl:Yn Yb Tryz.f140=some Yc3:=by kernel_rfl
def v97:VF:=⟨17,[.tmp 2],(ZR [u1 2 .mov [.cn (.bool false)]] (ZR [Zm 3 0,u1 4 (.cmp .geq) [.tm 3,.cn (.int .u8 97)],Zm 5 4,Zg 6 5 true 0,u2 7 5 true (.cmp .leq) [.tm 6,.cn (.int .u8 122)],u1 8 .and [.tm 5,.tm 7],Zm 9 8,Zg 10 9 false 0,u2 11 9 false (.cmp .geq) [.tm 10,.cn (.int .u8 65)],Zg 12 9 false 11,Zg 13 12 true 0,u2 14 12 true (.cmp .leq) [.tm 13,.cn (.int .u8 90)],u2 15 9 false .and [.tm 12,.tm 14],u1 16 .or [.tm 9,.tm 15],Zm 2 16] .ret))⟩
theorem YqR:Yn Yb Tryz.f97=some v97:=by kernel_rfl
def v98:VF:=⟨9,[.tmp 2],(ZR [u1 2 .mov [.cn (.bool false)]] (ZR [Zm 3 0,u1 4 (.cmp .geq) [.tm 3,.cn (.int .u8 48)],Zm 5 4,Zg 6 5 true 0,u2 7 5 true (.cmp .leq) [.tm 6,.cn (.int .u8 57)],u1 8 .and [.tm 5,.tm 7],Zm 2 8] .ret))⟩
theorem YqS:Yn Yb Tryz.f98=some v98:=by kernel_rfl
def YcJ:VF:={ ntmps:=38,res:=[.tmp 2],body:=
 (ZR [u1 2 .mov [.cn (.bool false)]]
 (.seq (ZR [Zm 5 0,
 u1 6 .lenStr [.tm 5],
 Zi 7 0]
 (.block 0 (.loop (ZR [Zr 8 .lss 7 6]
 (.seq (ZC 8 .skip
  (.exit 0))
 (.seq (.block 1 (ZR [Zm 9 7,
 Zm 3 9]
 (ZR [Zm 10 0,
 Zm 11 3,
 u1 12 .idxStr [.tm 10,.tm 11],
 Zm 4 12]
 (ZR [Zm 13 4,
 Zc 14 139 13,
 u1 15 .not [.tm 14],
 Zm 16 15,
 Zg 17 16 true 3,
 u2 18 16 true (.cmp .eql) [.tm 17,.cn (.int .i64 0)],
 Zg 19 16 true 18,
 Zg 20 19 false 4,
 u2 21 19 false (.cmp .neq) [.tm 20,.cn (.int .u8 95)],
 Zg 22 19 false 21,
 Zg 23 22 true 4,
 u2 24 22 true (.call 140) [.tm 23],
 u2 25 22 true .not [.tm 24],
 u2 26 19 false .and [.tm 22,.tm 25],
 u2 27 16 true .or [.tm 19,.tm 26],
 u1 28 .and [.tm 16,.tm 27]]
 (ZC 28 (ZR [u1 2 .mov [.cn (.bool false)]]
 .ret)
  .skip)))))
 (.region [Zp 29 7 1,
 Zm 7 29])))))))
 (ZR [Zm 30 0,
 u1 31 .lenStr [.tm 30],
 Zq 32 .geq 31 1,
 Zm 33 32,
 Zg 34 33 true 0,
 u2 35 33 true .lenStr [.tm 34],
 u2 36 33 true (.cmp .leq) [.tm 35,.cn (.int .i64 16)],
 u1 37 .and [.tm 33,.tm 36],
 Zm 2 37]
 .ret)))}
theorem YoY:Yn Yb Tryz.f115=some YcJ:=by kernel_rfl
def v60:VF:=⟨42,[.tmp 2],(ZR [u1 2 .mov [.cn (.bool false)]] (.seq (ZR [Zm 4 0,u1 5 .lenStr [.tm 4],Zq 6 .lss 5 1,Zm 7 6,Zg 8 7 false 0,u2 9 7 false .lenStr [.tm 8],u2 10 7 false (.cmp .gtr) [.tm 9,.cn (.int .i64 16)],u1 11 .or [.tm 7,.tm 10],Zm 12 11,Zg 13 12 false 0,u2 14 12 false .idxStr [.tm 13,.cn (.int .i64 0)],u2 15 12 false (.call 97) [.tm 14],u2 16 12 false .not [.tm 15],u1 17 .or [.tm 12,.tm 16]] (ZC 17 (ZR [u1 2 .mov [.cn (.bool false)]] .ret) .skip)) (.seq (ZR [Zi 3 0] (.block 0 (.loop (.seq (ZR [Zm 18 3,Zm 19 0,u1 20 .lenStr [.tm 19],Zr 21 .lss 18 20] (ZC 21 .skip (.exit 0))) (.seq (.block 1 (ZR [Zm 24 0,Zm 25 3,u1 26 .idxStr [.tm 24,.tm 25],Zc 27 97 26,u1 28 .not [.tm 27],Zm 29 28,Zg 30 29 true 0,Zg 31 29 true 3,u2 32 29 true .idxStr [.tm 30,.tm 31],u2 33 29 true (.call 98) [.tm 32],u2 34 29 true .not [.tm 33],u1 35 .and [.tm 29,.tm 34],Zm 36 35,Zg 37 36 true 0,Zg 38 36 true 3,u2 39 36 true .idxStr [.tm 37,.tm 38],u2 40 36 true (.cmp .neq) [.tm 39,.cn (.int .u8 95)],u1 41 .and [.tm 36,.tm 40]] (ZC 41 (ZR [u1 2 .mov [.cn (.bool false)]] .ret) .skip))) (.region [Zm 22 3,Zp 23 22 1,Zm 3 23])))))) (ZR [u1 2 .mov [.cn (.bool true)]] .ret))))⟩
theorem Yqe:Yn Yb Tryz.f60=some v60:=by kernel_rfl
def letC:Ctr:={ alias:=false,of:=fun l=>match l with
 | [.int .u8 c]=> .pre (0<=c/\c<=255) (.fin (.bool (We c)) [])
 |_=>noC}
def digC:Ctr:={ alias:=false,of:=fun l=>match l with
 | [.int .u8 c]=> .fin (.bool (VY c)) []
 |_=>noC}
def NM0:Env:=mkE [] []
theorem NX:YD Yb NM0:=eo (by kernel_rfl) trivial trivial
theorem Yjg:letC.ok Yb 139:=by
 refine Yy Tryz.func139 Ypj NX 100 letC fun args k h=>⟨args,?_⟩
 simp only[letC]at h
 split at h
 ·refine⟨by simp [leL,le],?_⟩
  dsimp only[Yc2,go_sem,reduceIte,Ya]
  simp only[Yd,Ya,Ye,reduceCtorEq,Yc]
  obtain⟨⟨h0,h1⟩,h⟩:=h
  have h:k _ []:=h
  rw[<-Yjh h0 h1]at h
  exact QF h
 ·exact h.1.elim
theorem Ygj:digC.ok Yb 140:=by
 refine Yy Tryz.func140 Ypl NX 100 digC fun args k h=>⟨args,?_⟩
 simp only[digC]at h
 split at h
 ·refine⟨by simp [leL,le],?_⟩
  dsimp only[Yc3,go_sem,reduceIte,Ya]
  simp only[Yd,Ya,Ye,reduceCtorEq,Yc]
  have h:k _ []:=h
  unfold VY at h
  exact QF h
 ·exact h.1.elim
theorem Yni:letC.ok Yb 97:=by
 refine Yy Tryz.func97 YqR NX 100 letC fun args k h=>⟨args,?_⟩
 simp only[letC]at h
 split at h
 ·refine⟨by simp [leL,le],?_⟩
  dsimp only[v97,go_sem,reduceIte,Ya]
  simp only[Yd,Ya,Ye,reduceCtorEq,Yc]
  obtain⟨⟨h0,h1⟩,h⟩:=h
  have h:k _ []:=h
  unfold We at h
  exact⟨fun a b=>by rw[a,decide_eq_true b];rfl,QF h⟩
 ·exact h.1.elim
theorem YmV:digC.ok Yb 98:=by
 refine Yy Tryz.func98 YqS NX 100 digC fun args k h=>⟨args,?_⟩
 simp only[digC]at h
 split at h
 ·refine⟨by simp [leL,le],?_⟩
  dsimp only[v98,go_sem,reduceIte,Ya]
  simp only[Yd,Ya,Ye,reduceCtorEq,Yc]
  have h:k _ []:=h
  unfold VY at h
  exact QF h
 ·exact h.1.elim
def nameC:Ctr:={ alias:=false,of:=fun l=>match l with
 | [.val (.string b)]=> .pre (b.size<=9223372036854775807) (.fin (.bool (XM b)) [])
 |_=>noC}
def NM1:Env:=mkE [(139,letC),(140,digC)] []
theorem YdN:YD Yb NM1:=eo (by kernel_rfl) ⟨⟨Yjg,_,Tryz.func139,rfl,rfl⟩,⟨Ygj,_,Tryz.func140,rfl,rfl⟩,trivial⟩ trivial
theorem Yj1:nameC.ok Yb 115:=by
 refine Yy Tryz.func115 YoY YdN 200 nameC fun args k h=>⟨args,?_⟩
 simp only[nameC]at h
 split at h
 ·rename_i b
  refine⟨by simp [leL,le,bnd],?_⟩
  obtain⟨hb,h⟩:=h
  have h:k _ []:=h
  dsimp only[YcJ,go_sem,reduceIte,Ya]
  simp only[Yd,Ya,Ye,reduceCtorEq,Yc]
  refine Loop.keep [0,4,0,0] Nat (fun i=>[(7,.int .i64 i)]) (fun _=>[]) [] (fun i=>i<=b.size/\∀j,j<i->okB b j=true) (fun i=>b.size-i) ?_ ?_
  ·refine⟨0,⟨JJ _,fun j h=>by omega⟩,?_⟩
   dsimp only[go_sem,reduceIte,Ya]
   simp only[Yf]
   simp
  ·rintro i ⟨hi,ha⟩
   dsimp only[NM1,Yk,letC,digC,go_sem,reduceIte,Ya]
   simp only[Yd,Ya,Ye,reduceCtorEq,Yc,Yj]
   refine⟨fun hlt=>⟨⟨by omega,hlt⟩,C0 b i,fun a c=>by rw[a,decide_eq_false c];rfl,fun a c=>by rw[a,decide_eq_false c];rfl,fun hc=>?_,fun hc=>?_⟩,fun hge=>?_⟩
   ·rw[O1]at hc
    rw[OF (by omega:i<b.size) (by simpa using hc)]at h
    exact QF h
   ·rw[O1]at hc
    refine⟨i+1,⟨by omega,fun j hj=>?_⟩,by omega,?_⟩
    ·rcases YY j i with h'|h'
     ·exact ha j h'
     ·obtain rfl:j=i:=by omega
      simpa using hc
    ·simp only[Yf]
     exact FR (by omega:i<b.size) (by omega)
   ·obtain rfl:i=b.size:=by omega
    rw[Yj2 ha]at h
    exact QF h
 ·exact h.1.elim
def NM2:Env:=mkE [(97,letC),(98,digC)] []
theorem YdO:YD Yb NM2:=eo (by kernel_rfl) ⟨⟨Yni,_,Tryz.func97,rfl,rfl⟩,⟨YmV,_,Tryz.func98,rfl,rfl⟩,trivial⟩ trivial
theorem Ynl:nameC.ok Yb 60:=by
 refine Yy Tryz.func60 Yqe YdO 200 nameC fun args k h=>⟨args,?_⟩
 simp only[nameC]at h
 split at h
 ·rename_i b
  refine⟨by simp [leL,le,bnd],?_⟩
  obtain⟨hb,h⟩:=h
  have h:k _ []:=h
  dsimp only[v60,NM2,Yk,letC,digC,go_sem,reduceIte,Ya]
  simp only[Yd,Ya,Ye,reduceCtorEq,Yc,show Xs 0=0 from rfl]
  have hpos:(decide ((b.size:Int)<1) || decide (16<(b.size:Int)))=false->0<(b.size:Int):=fun h=>by
   simp only[K5,decide_eq_false_iff_not]at h;omega
  refine⟨fun h=>⟨by omega,hpos h⟩,fun _=>C0 b 0,fun hc=>?_,fun hc=>?_⟩
  ·rw[Ynj hc]at h;exact QF h
  refine Loop.keep [0,2] Nat (fun i=>[(3,.int .i64 i)]) (fun _=>[]) [] (fun i=>i<=b.size/\∀j,j<i->okR b j=true) (fun i=>b.size-i) ?_ ?_
  ·refine⟨0,⟨JJ _,fun j h=>by omega⟩,?_⟩
   dsimp only[go_sem,reduceIte,Ya]
   simp only[Yf]
   simp
  ·rintro i ⟨hi,ha⟩
   dsimp only[NM2,Yk,letC,digC,go_sem,reduceIte,Ya]
   simp only[Yd,Ya,Ye,reduceCtorEq,Yc,Yj]
   refine⟨fun hlt=>⟨⟨by omega,hlt⟩,C0 b i,fun _=>⟨by omega,hlt⟩,fun _=>⟨by omega,hlt⟩,fun hc2=>?_,fun hc2=>?_⟩,fun hge=>?_⟩
   ·rw[O5]at hc2
    rw[Ynk (by omega:i<b.size) (by simpa using hc2)]at h
    exact QF h
   ·rw[O5]at hc2
    refine⟨i+1,⟨by omega,fun j hj=>?_⟩,by omega,?_⟩
    ·rcases YY j i with h'|h'
     ·exact ha j h'
     ·obtain rfl:j=i:=by omega
      simpa using hc2
    ·simp only[Yf]
     exact FR (by omega:i<b.size) (by omega)
   ·obtain rfl:i=b.size:=by omega
    rw[Ynm hc ha]at h
    exact QF h
 ·exact h.1.elim
def YcI:VF:={ ntmps:=12,res:=[.tmp 4],body:=
 (ZR [Zi 4 0]
 (.seq (.block 0 (.loop (.seq (ZR [Zm 5 1,
 Zq 6 .neq 5 0]
 (ZC 6 .skip
  (.exit 0)))
 (.block 1 (.draw [] [Zu 7 1,
 Zu 8 0,
 Zu 9 1,
 w1 10 .rem [.tm 8,.tm 9],
 Zu 0 7,
 Zu 1 10])))))
 (ZR [Zm 11 0,
 Zm 4 11]
 .ret)))}
theorem YoX:Yn Yb Tryz.f114=some YcI:=by kernel_rfl
def v79:VF:=⟨90,[.tmp 2],(ZR [u1 1 .box [.tm 0],Zi 2 0] (.seq (ZR [Za 7 2 1,Zf 8 1 7,Zq 9 .lss 8 0,Zm 10 9,Zj 11 10 false 2 1,Zh 12 10 false 1 11,u2 13 10 false (.cmp .gtr) [.tm 12,.cn (.int .i64 11)],u1 14 .or [.tm 10,.tm 13]] (ZC 14 (ZR [Zi 2 2] .ret) .skip)) (ZR [u1 3 .mov [.cn (.bool true)],Zi 4 1] (.seq (ZR [Za 15 3 1,Zt 16 24 15,Zi 17 0] (.block 0 (.loop (ZR [Zq 18 .lss 17 12] (.seq (ZC 18 .skip (.exit 0)) (.seq (.block 1 (ZR [u1 19 (.index true 12 2) [.tm 16,.tm 17],u1 6 (.alloc Z2) [],Zs 2 6 19] (.seq (ZR [Za 20 1 6,Zf 21 1 20,Zq 22 .lss 21 1,Zm 23 22,Zj 24 23 false 1 6,Zh 25 23 false 1 24,u2 26 23 false (.cmp .gtr) [.tm 25,.cn (.int .i64 24)],u1 27 .or [.tm 23,.tm 26],Zm 28 27,Zj 29 28 false 0 6,Zh 30 28 false 1 29,Zj 31 28 false 1 6,Zh 32 28 false 1 31,u2 33 28 false (.ari .mul) [.cn (.int .i64 (-2)),.tm 32],u2 34 28 false (.cmp .lss) [.tm 30,.tm 33],u1 35 .or [.tm 28,.tm 34],Zm 36 35,Zj 37 36 false 0 6,Zh 38 36 false 1 37,Zj 39 36 false 1 6,Zh 40 36 false 1 39,u2 41 36 false (.ari .mul) [.cn (.int .i64 2),.tm 40],u2 42 36 false (.cmp .gtr) [.tm 38,.tm 41],u1 43 .or [.tm 36,.tm 42]] (ZC 43 (ZR [Zi 2 2] .ret) .skip)) (ZR [Zm 44 3,Zm 45 44,Zj 46 45 true 0 6,Zh 47 45 true 1 46,Zj 48 45 true 0 6,Zh 49 45 true 1 48,u2 50 45 true .neg [.tm 49],u2 51 45 true .max [.tm 47,.tm 50],Zj 52 45 true 1 6,Zh 53 45 true 1 52,u2 54 45 true (.call 114) [.tm 51,.tm 53],u2 55 45 true (.cmp .eql) [.tm 54,.cn (.int .i64 1)],u1 56 .and [.tm 45,.tm 55],Zm 3 56] (ZR [Zm 57 4,Zq 58 .leq 57 120] (ZC 58 (.draw [] [Zu 59 4,Zu 60 4,Zy 61 1 6,Zv 62 1 61,Zy 65 1 6,Zv 66 1 65,Zz 63 114 60 62,w1 64 .quo [.tm 59,.tm 63],w1 67 (.ari .mul) [.tm 64,.tm 66],Zu 4 67]) .skip)))))) (.region [Zp 68 17 1,Zm 17 68]))))))) (.seq (.block 2 (ZR [Za 70 0 1,Zf 71 1 70,Zc 72 115 71,u1 73 .not [.tm 72],Zm 74 73,Zg 75 74 false 3,u2 76 74 false .not [.tm 75],u1 77 .or [.tm 74,.tm 76],Zm 78 77,Zj 79 78 false 2 1,Zh 80 78 false 1 79,Zj 81 78 false 3 1,u2 82 78 false (.idxArr 12 2) [.tm 81,.tm 80],Zj 83 78 false 0 82,Zh 84 78 false 1 83,u2 85 78 false (.cmp .neq) [.tm 84,.cn (.int .i64 0)],u1 86 .or [.tm 78,.tm 85],Zm 69 86] (ZC 69 (ZR [Zi 2 6] .ret) (ZR [Zm 88 4,Zq 89 .gtr 88 120,Zm 87 89] (ZC 87 (ZR [Zi 2 7] .ret) .skip))))) (ZR [Zi 2 0] .ret))))))⟩
theorem Yqx:Yn Yb Tryz.f79=some v79:=by kernel_rfl
structure Tm where
 nm:ByteArray
 syn:Bool
 wolf:Int
 p:Nat->Int×Int
def XJ(p:Nat->Int×Int):List SV:=[.int .i64 (p 0).1,.int .i64 (p 0).2,.int .i64 (p 1).1,.int .i64 (p 1).2,.int .i64 (p 2).1,.int .i64 (p 2).2,.int .i64 (p 3).1,.int .i64 (p 3).2,.int .i64 (p 4).1,.int .i64 (p 4).2,.int .i64 (p 5).1,.int .i64 (p 5).2,.int .i64 (p 6).1,.int .i64 (p 6).2,.int .i64 (p 7).1,.int .i64 (p 7).2,.int .i64 (p 8).1,.int .i64 (p 8).2,.int .i64 (p 9).1,.int .i64 (p 9).2,.int .i64 (p 10).1,.int .i64 (p 10).2,.int .i64 (p 11).1,.int .i64 (p 11).2]
def YZ(T:Tm):List SV:= .val (.string T.nm):: .bool T.syn:: .int .i64 T.wolf::XJ T.p
theorem Uk{i:Nat}(h:i<12):i=0\/i=1\/i=2\/i=3\/i=4\/i=5\/i=6\/i=7\/i=8\/i=9\/i=10\/i=11:=by omega
theorem Eu(p:Nat->Int×Int){i:Nat}(h:i<12):YP 2 (YF (i*2) (XJ p))=[.int .i64 (p i).1,.int .i64 (p i).2]:=by
 rcases Uk h with rfl|rfl|rfl|rfl|rfl|rfl|rfl|rfl|rfl|rfl|rfl|rfl <;> rfl
theorem TD(T:Tm){i:Nat}(h:i<12):YP 1 (YF (3+Kw (i:Int) 2) (YZ T))=[.int .i64 (T.p i).1]:=by
 rcases Uk h with rfl|rfl|rfl|rfl|rfl|rfl|rfl|rfl|rfl|rfl|rfl|rfl <;> rfl
theorem TE(T:Tm){i:Nat}(h:i<12):1<=YK (YF (3+Kw (i:Int) 2) (YZ T)):=by
 rcases Uk h with rfl|rfl|rfl|rfl|rfl|rfl|rfl|rfl|rfl|rfl|rfl|rfl <;> exact KC rfl
theorem KU(T:Tm)(m:Nat):Jl m (YZ T):=by simp [YZ,XJ,Jl,bnd]
def XU(x:Int×Int):Bool:=decide (x.2<1) || decide (24<x.2) || decide (x.1< -2*x.2) || decide (2*x.2<x.1)
def UG(x:Int×Int):Nat:=YI x.1.natAbs x.2.toNat
def WY(T:Tm)(i:Nat):Bool:=(List.range i).all fun j=>decide (UG (T.p j)=1)
def YT(T:Tm):Nat->Nat
 |0=>1
 |i+1=>if YT T i<=120 then YT T i/YI (YT T i) (T.p i).2.toNat*(T.p i).2.toNat else YT T i
def CU(T:Tm):Bool:=(List.range 12).any fun i=>XU (T.p i)
def Ke(T:Tm):Int:=
 if T.wolf<0\/11<T.wolf then 2 else if CU T=true then 2
 else if XM T.nm=false\/WY T 12=false\/(T.p T.wolf.toNat).1≠0 then 6 else if 120<YT T 12 then 7 else 0
theorem HN{x:Int×Int}(h:XU x=false):(1<=x.2/\x.2<=24)/\ -2*x.2<=x.1/\x.1<=2*x.2:=by
 simp only[XU,K5,decide_eq_false_iff_not]at h;omega
theorem HJ{T:Tm}:∀{i:Nat},(∀j,j<i->XU (T.p j)=false)->1<=YT T i/\YT T i<=2880
 |0,_=>⟨Yt _,by simp [YT]⟩
 |i+1,h=>by
  have ih:=HJ (i:=i) fun j hj=>h j (by omega)
  have hb:=HN (h i (by omega))
  rw[YT]
  split
  ·rename_i hle
   have hg:1<=YI (YT T i) (T.p i).2.toNat:=Nat.gcd_pos_of_pos_left _ (by omega)
   have h1:YT T i/YI (YT T i) (T.p i).2.toNat<=120:=Yh (XD _ _) hle
   have h2:1<=YT T i/YI (YT T i) (T.p i).2.toNat:=Nat.div_pos (Nat.gcd_le_left _ (by omega)) hg
   have h3:(T.p i).2.toNat<=24:=by omega
   have h4:1<=(T.p i).2.toNat:=by omega
   have:=YX h1 h3
   have:=YX h2 h4
   omega
  ·exact ih
theorem Sj(x:Int×Int):(decide (x.2<1) || decide (24<x.2) || decide (x.1<IntKind.i64.wrap (-2*x.2)) || decide (IntKind.i64.wrap (2*x.2)<x.1))=XU x:=by
 unfold XU
 by_cases h1:x.2<1
 ·rw[decide_eq_true h1];simp
 ·by_cases h2:24<x.2
  ·rw[decide_eq_true h2];simp
  ·rw[Yg (-2*x.2) (by omega),Yg (2*x.2) (by omega)]
theorem Yjv(T:Tm)(i:Nat):WY T (i+1)=(WY T i&&decide (UG (T.p i)=1)):=by
 unfold WY;rw[List.range_succ,List.all_append];simp
theorem Df{T:Tm}{i:Nat}(hi:i<12)(h:XU (T.p i)=true):CU T=true:=List.any_eq_true.2 ⟨i,List.mem_range.2 hi,h⟩
theorem Sg{T:Tm}(h:∀i,i<12->XU (T.p i)=false):CU T=false:=List.any_eq_false.2 fun i hi=>by rw[h i (List.mem_range.1 hi)];decide
def tgcdC:Ctr:={ alias:=false,of:=fun l=>match l with
 | [.int .i64 a,.int .i64 b]=> .ex Nat fun x=> .ex Nat fun y=> .pre (a=x/\b=y/\x<=9223372036854775807/\y<=9223372036854775807) (.fin (.int .i64 (YI x y)) [])
 |_=>noC}
def TG0:Env:=mkE [] []
theorem Yew:YD Yb TG0:=eo (by kernel_rfl) trivial trivial
theorem YoA:tgcdC.ok Yb 114:=by
 refine Yy Tryz.func114 YoX Yew 100 tgcdC fun args k h=>?_
 simp only[tgcdC]at h
 split at h
 ·rename_i a b
  obtain⟨x,y,⟨rfl,rfl,hx,hy⟩,h⟩:=h
  refine⟨[.int .i64 x,.int .i64 y],by simp [leL,le],?_⟩
  dsimp only[YcI,go_sem,reduceIte,Ya]
  simp only[Yd,Ya,Ye,reduceCtorEq,Yc]
  refine Loop.keep [4] (Nat×Nat) (fun s=>[(0,.int .i64 s.1),(1,.int .i64 s.2)]) (fun _=>[]) [] (fun s=>YI s.1 s.2=YI x y/\s.1<=9223372036854775807/\s.2<=9223372036854775807) (fun s=>s.2) ?_ ?_
  ·refine⟨(x,y),⟨rfl,hx,hy⟩,?_⟩
   dsimp only[go_sem,reduceIte,Ya]
   simp only[Yf]
  ·rintro⟨p,q⟩ ⟨he,hp,hq⟩
   dsimp only at he hp hq
   dsimp only[go_sem,reduceIte,Ya]
   simp only[Yd,Ya,Ye,reduceCtorEq,Yc]
   refine⟨fun hc=>⟨hc,(q,p%q),⟨?_,by simp only;omega,?_⟩,?_,?_⟩,fun hc=>Kb ?_⟩
   ·rw[<-he,Nat.gcd_comm p q]
    show YI q (p%q)=YI q p
    rw[Nat.gcd_comm q (p%q),<-Nat.gcd_rec]
   ·have:=Kj p (by omega:0<q)
    simp only;omega
   ·exact Kj p (by omega:0<q)
   ·have e:(p:Int).tmod q=((p%q:Nat):Int):=VI rfl rfl
    rw[e]
    simp only[Yf]
   ·obtain rfl:q=0:=by omega
    rw[Nat.gcd_zero_right]at he
    rw[he];exact h
 ·exact h.1.elim
def chkTmC:Ctr:={ alias:=false,of:=fun l=>match l with
 | [.agg cs]=> .ex Tm fun T=> .pre (cs=YZ T/\T.nm.size<=9223372036854775807) (.fin (.int .i64 (Ke T)) [])
 |_=>noC}
def TG1:Env:=mkE [(114,tgcdC),(115,nameC)] []
theorem Yex:YD Yb TG1:=eo (by kernel_rfl) ⟨⟨YoA,_,Tryz.func114,rfl,rfl⟩,⟨Yj1,_,Tryz.func115,rfl,rfl⟩,trivial⟩ trivial
theorem Yf3:chkTmC.ok Yb 79:=by
 refine Yy Tryz.func79 Yqx Yex 300 chkTmC fun args k h=>?_
 simp only[chkTmC]at h
 split at h
 ·rename_i cs
  obtain⟨T,⟨rfl,hnm⟩,h⟩:=h
  refine⟨[.agg (YZ T)],⟨YN _ (KU T _),trivial⟩,?_⟩
  have h:k (.int .i64 (Ke T)) []:=h
  dsimp only[v79,YZ,XJ,TG1,Yk,tgcdC,nameC,go_sem,reduceIte,Ya]
  simp only[Yd,Ya,Ye,reduceCtorEq,Yc]
  refine⟨rfl,fun hb=>?_,fun hb=>?_⟩
  ·rw[Ke,if_pos (by simpa using hb)]at h;exact Kb h
  have hw:0<=T.wolf/\T.wolf<=11:=by simp only[K5,decide_eq_false_iff_not]at hb;omega
  rw[Ke,if_neg (by omega)]at h
  refine Loop.keep [1,0,13] Nat (fun i=>[(3,.bool (WY T i)),(4,.int .i64 (YT T i:Nat)),(17,.int .i64 i)]) (fun _=>[]) [] (fun i=>i<=12/\∀j,j<i->XU (T.p j)=false) (fun i=>12-i) ?_ ?_
  ·refine⟨0,⟨by omega,fun j hj=>by omega⟩,?_⟩
   dsimp only[go_sem,reduceIte,Ya]
   simp only[Yf]
   exact⟨by decide,rfl,rfl,rfl⟩
  ·rintro i ⟨hi,hall⟩
   obtain⟨r1,r2⟩:=HJ hall
   dsimp only[TG1,Yk,tgcdC,nameC,Yj,go_sem,reduceIte,Ya]
   simp only[Yd,Ya,Ye,reduceCtorEq,Yc]
   refine⟨fun hlt=>?_,fun hge=>?_⟩
   ·have hi12:i<12:=by omega
    have e:=Eu T.p hi12
    simp only[XJ]at e
    rw[e]
    dsimp only[TG1,Yk,tgcdC,nameC,Yj,go_sem,reduceIte,Ya]
    simp only[Yd,Ya,Ye,reduceCtorEq,Yc]
    simp only[Sj (T.p i)]
    refine⟨⟨by omega,by omega⟩,fun hb=>?_,fun hb=>?_⟩
    ·rw[if_pos (Df hi12 hb)]at h;exact Kb h
    ·obtain⟨⟨x1,x2⟩,x3,x4⟩:=HN hb
     have hsn:(T.p i).2=((T.p i).2.toNat:Int):=by omega
     have hall':∀j,j<i+1->XU (T.p j)=false:=fun j hj=>by
      rcases YY j i with h1|h1
      ·exact hall j h1
      ·obtain rfl:j=i:=by omega
       exact hb
     have hlow:(WY T i&&decide ((((T.p i).1.natAbs).gcd (T.p i).2.toNat:Int)=1))=WY T (i+1):=by
      rw[Yjv];congr 1
      exact decide_eq_decide.2 (by unfold UG;omega)
     refine⟨(T.p i).1.natAbs,(T.p i).2.toNat,fun _=>⟨M0 _ (by omega),hsn,by omega,by omega⟩,fun hle=>⟨YT T i,(T.p i).2.toNat,⟨rfl,hsn,by omega,by omega⟩,?_,i+1,⟨by omega,hall'⟩,by omega,?_⟩,fun hgt=>⟨i+1,⟨by omega,hall'⟩,by omega,?_⟩⟩
     ·have:=Nat.gcd_pos_of_pos_left (T.p i).2.toNat (by omega:0<YT T i)
      omega
     ·have r3:=HJ hall'
      have ha:YT T (i+1)=YT T i/YI (YT T i) (T.p i).2.toNat*(T.p i).2.toNat:=by rw[YT,if_pos (by omega)]
      have e1:((YT T i:Nat):Int).tdiv ((YI (YT T i) (T.p i).2.toNat:Nat):Int)=((YT T i/YI (YT T i) (T.p i).2.toNat:Nat):Int):=Wq rfl rfl
      have hd:=XD (YT T i) (YI (YT T i) (T.p i).2.toNat)
      have e2:IntKind.i64.wrap ((YT T i/YI (YT T i) (T.p i).2.toNat:Nat):Int)=((YT T i/YI (YT T i) (T.p i).2.toNat:Nat):Int):=by
       generalize YT T i/YI (YT T i) (T.p i).2.toNat=q at hd
       exact Yg _ (by omega)
      have e3:((YT T i/YI (YT T i) (T.p i).2.toNat:Nat):Int)*(T.p i).2=(YT T (i+1):Nat):=by rw[ha,Qr,<-hsn]
      rw[e1,e2,e3,Yg (YT T (i+1):Int) (by omega),Yg ((i:Int)+1) (by omega)]
      simp only[Yf]
      exact⟨by decide,hlow,by simp⟩
     ·have ha:YT T (i+1)=YT T i:=by rw[YT,if_neg (by omega)]
      rw[ha,Yg ((i:Int)+1) (by omega)]
      simp only[Yf]
      exact⟨by decide,hlow,by simp⟩
   ·obtain rfl:i=12:=by omega
    rw[if_neg (by rw[Sg hall];decide)]at h
    obtain⟨w,hwe⟩:∃w:Nat,T.wolf=(w:Int):=⟨T.wolf.toNat,by omega⟩
    have hw12:w<12:=by omega
    have e:=TD T hw12
    have el:=TE T hw12
    simp only[YZ,XJ,hwe]at e el
    rw[hwe,Yj]at h
    simp only[KO,hwe]
    rw[e]
    dsimp only[TG1,Yk,tgcdC,nameC,Yj,go_sem,reduceIte,Ya]
    simp only[Yd,Ya,Ye,reduceCtorEq,Yc]
    refine⟨hnm,fun _=>⟨by omega,by omega⟩,fun _=>el,fun hc=>?_,fun hc=>?_⟩
    ·rw[if_pos (by simpa [or_assoc]using hc)]at h;exact Kb h
    ·rw[if_neg (by simpa [or_assoc,and_assoc]using hc)]at h
     refine⟨fun ha=>?_,fun ha=>?_⟩
     ·rw[if_pos (by omega)]at h;exact Kb h
     ·rw[if_neg (by omega)]at h;exact Kb h
 ·exact h.1.elim
def YcL:VF:={ ntmps:=58,res:=[.cell 2 true 84],body:=
 (ZR [u1 2 (.allocArr 12 7 Z84) []]
 (ZR [u1 10 (.call 116) [.cn (.int .i64 531441),.cn (.int .i64 524288)],
 u1 3 (.alloc Z7) [],
 Zs 7 3 10]
 (.seq (ZR [Zm 11 0,
 u1 12 .nilCheck [.tm 11],
 Za 13 1 12,
 Zf 14 1 13]
 (ZC 14 (.region [u1 15 (.call 116) [.cn (.int .i64 81),.cn (.int .i64 80)],
 Zs 7 3 15])
  .skip))
 (ZR [u1 4 (.allocArr 12 7 Z84) []]
 (ZR [u1 16 (.call 116) [.cn (.int .i64 128),.cn (.int .i64 1)],
 u1 5 (.alloc Z7) [],
 Zs 7 5 16]
 (.seq (ZR [Zm 17 0,
 u1 18 .nilCheck [.tm 17],
 Za 19 3 18,
 Zt 20 24 19,
 Zi 21 0]
 (.block 0 (.loop (ZR [Zq 22 .lss 21 12]
 (.seq (ZC 22 .skip
  (.exit 0))
 (.seq (.block 1 (ZR [Zm 23 21,
 u1 24 (.index true 12 2) [.tm 20,.tm 21],
 u1 7 (.alloc Z2) [],
 Zm 6 23,
 Zs 2 7 24]
 (ZR [Zm 25 6,
 Zm 26 0,
 u1 27 .nilCheck [.tm 26],
 Za 28 2 27,
 Zf 29 1 28,
 Zr 30 .neq 25 29]
 (ZC 30 (ZR [Zt 32 7 3,
 Za 33 0 7,
 Zf 34 1 33,
 Za 35 1 7,
 Zf 36 1 35,
 u1 37 (.call 142) [.tm 32,.tm 34,.tm 36],
 Zm 31 37,
 Ze 38 0 31,
 Ze 39 1 31,
 u1 8 (.alloc Z7) [],
 Zs 7 8 38,
 Zm 9 39]
 (.seq (.draw [] [Zu 40 6,
 Zw 42 7 8,
 w1 41 (.call 116) [.cn (.int .i64 3),.cn (.int .i64 2)],
 Zz 43 143 41 42,
 w1 44 (.idxArr 12 7) [.tm 4,.tm 40],
 ZS 7 44 43])
 (.draw [] [Zw 45 7 5,
 Zu 46 6,
 w1 47 (.idxArr 12 7) [.tm 4,.tm 46],
 Zw 48 7 47,
 Zz 49 143 45 48,
 ZS 7 5 49])))
  .skip))))
 (.region [Zp 50 21 1,
 Zm 21 50])))))))
 (.seq (.draw [] [Zu 51 0,
 w1 52 .nilCheck [.tm 51],
 Zy 53 2 52,
 Zv 54 1 53,
 Zw 55 7 5,
 w1 56 (.idxArr 12 7) [.tm 4,.tm 54],
 ZS 7 56 55])
 (ZR [Zt 57 84 4,
 Zs 84 2 57]
 .ret))))))))}
theorem Yo0:Yn Yb Tryz.f117=some YcL:=by kernel_rfl
def v80:VF:=⟨25,[.cell 2 true 84],(ZR [u1 2 (.allocArr 12 7 Z84) []] (ZR [u1 3 (.allocArr 12 7 Z84) []] (ZR [u1 7 (.call 116) [.cn (.int .i64 1),.cn (.int .i64 1)],u1 4 (.alloc Z7) [],Zs 7 4 7] (.seq (ZR [Zm 8 0,Zc 9 117 8,Zi 10 0] (.block 0 (.loop (ZR [Zq 11 .lss 10 12] (.seq (ZC 11 .skip (.exit 0)) (.seq (.block 1 (ZR [Zm 12 10,u1 13 (.index true 12 7) [.tm 9,.tm 10],u1 6 (.alloc Z7) [],Zm 5 12,Zs 7 6 13] (ZR [Zm 14 5,u1 15 (.ari .mul) [.cn (.int .i64 7),.tm 14],u1 16 .rem [.tm 15,.cn (.int .i64 12)],Zt 17 7 4,Zc 18 118 17,u1 19 (.idxArr 12 7) [.tm 3,.tm 16],Zs 7 19 18] (.region [Zt 20 7 4,Zt 21 7 6,Zd 22 119 20 21,Zs 7 4 22])))) (.region [Zp 23 10 1,Zm 10 23]))))))) (ZR [Zt 24 84 3,Zs 84 2 24] .ret)))))⟩
theorem Yqz:Yn Yb Tryz.f80=some v80:=by kernel_rfl
def v45:VF:=⟨13,[.tmp 2,.tmp 3],(ZR [u1 1 .box [.tm 0],u1 2 .mov [.cn .nil],Zi 3 0] (.seq (ZR [Zt 6 27 1,Zc 7 79 6,Zm 4 7] (ZR [Zm 8 4,Zq 9 .neq 8 0] (ZC 9 (ZR [Zm 10 4,u1 2 .mov [.cn .nil],Zm 3 10] .ret) .skip))) (ZR [Zc 11 80 1,u1 5 (.allocArr 12 7 Z84) [],Zs 84 5 11] (ZR [u1 12 (.sliceArr 12 7 false false) [.tm 5],Zm 2 12,Zi 3 0] .ret))))⟩
theorem YpZ:Yn Yb Tryz.f45=some v45:=by kernel_rfl
def XI(L:Nat->Rt):List SV:=Yr (L 0)++(Yr (L 1)++(Yr (L 2)++(Yr (L 3)++(Yr (L 4)++(Yr (L 5)++(Yr (L 6)++(Yr (L 7)++(Yr (L 8)++(Yr (L 9)++(Yr (L 10)++(Yr (L 11)++[])))))))))))
theorem Ylg{get:Nat->List SV}:WA 12 0 get=get 0++(get 1++(get 2++(get 3++(get 4++(get 5++(get 6++(get 7++(get 8++(get 9++(get 10++(get 11++[]))))))))))):=rfl
attribute [go_sem] Ylg
theorem TC(L:Nat->Rt){i:Nat}(h:i<12):YP 7 (YF (i*7) (XI L))=Yr (L i):=by
 rcases Uk h with rfl|rfl|rfl|rfl|rfl|rfl|rfl|rfl|rfl|rfl|rfl|rfl <;> rfl
theorem Rs{k:Nat}(h:k<12):Jt 7 [SV.int .i64 0,SV.int .i64 0,SV.int .i64 0,SV.int .i64 0,SV.int .i64 0,SV.int .i64 0,SV.int .i64 0,SV.int .i64 0,SV.int .i64 0,SV.int .i64 0,SV.int .i64 0,SV.int .i64 0,SV.int .i64 0,SV.int .i64 0,SV.int .i64 0,SV.int .i64 0,SV.int .i64 0,SV.int .i64 0,SV.int .i64 0,SV.int .i64 0,SV.int .i64 0,SV.int .i64 0,SV.int .i64 0,SV.int .i64 0,SV.int .i64 0,SV.int .i64 0,SV.int .i64 0,SV.int .i64 0,SV.int .i64 0,SV.int .i64 0,SV.int .i64 0,SV.int .i64 0,SV.int .i64 0,SV.int .i64 0,SV.int .i64 0,SV.int .i64 0,SV.int .i64 0,SV.int .i64 0,SV.int .i64 0,SV.int .i64 0,SV.int .i64 0,SV.int .i64 0,SV.int .i64 0,SV.int .i64 0,SV.int .i64 0,SV.int .i64 0,SV.int .i64 0,SV.int .i64 0,SV.int .i64 0,SV.int .i64 0,SV.int .i64 0,SV.int .i64 0,SV.int .i64 0,SV.int .i64 0,SV.int .i64 0,SV.int .i64 0,SV.int .i64 0,SV.int .i64 0,SV.int .i64 0,SV.int .i64 0,SV.int .i64 0,SV.int .i64 0,SV.int .i64 0,SV.int .i64 0,SV.int .i64 0,SV.int .i64 0,SV.int .i64 0,SV.int .i64 0,SV.int .i64 0,SV.int .i64 0,SV.int .i64 0,SV.int .i64 0,SV.int .i64 0,SV.int .i64 0,SV.int .i64 0,SV.int .i64 0,SV.int .i64 0,SV.int .i64 0,SV.int .i64 0,SV.int .i64 0,SV.int .i64 0,SV.int .i64 0,SV.int .i64 0,SV.int .i64 0] k=Yr KW:=by
 rcases Uk h with rfl|rfl|rfl|rfl|rfl|rfl|rfl|rfl|rfl|rfl|rfl|rfl <;> rfl
theorem ZT{a b:Nat}(r:Rt):leL a b (Yr r) (Yr r):=YN _ ⟨trivial,trivial,trivial,trivial,trivial,trivial,trivial,trivial⟩
theorem XO(x:Rt):Rt.mk x.a x.b x.c x.d x.e x.f x.n=x:=rfl
def Wa(T:Tm):Rt:=if T.syn=true then(K1 81 80).1 else(K1 531441 524288).1
def WR(T:Tm)(i:Nat):Rt:=(KQ (K1 3 2).1 (Xm (Wa T) (T.p i).1 (T.p i).2).1 (-1)).1
def K6(T:Tm):Nat->Rt
 |0=>(K1 128 1).1
 |i+1=>if(i:Int)=T.wolf then K6 T i else(KQ (K6 T i) (WR T i) (-1)).1
def QI(T:Tm)(i k:Nat):Rt:=if k<i then(if(k:Int)=T.wolf then KW else WR T k)else KW
def ZN(T:Tm)(k:Nat):Rt:=if k=T.wolf.toNat then K6 T 12 else QI T 12 k
theorem EC(T:Tm)(j:Nat):(if j=T.wolf.toNat then [SV.int .i64 (K6 T 12).a,SV.int .i64 (K6 T 12).b,SV.int .i64 (K6 T 12).c,SV.int .i64 (K6 T 12).d,SV.int .i64 (K6 T 12).e,SV.int .i64 (K6 T 12).f,SV.int .i64 (K6 T 12).n]else [SV.int .i64 (QI T 12 j).a,SV.int .i64 (QI T 12 j).b,SV.int .i64 (QI T 12 j).c,SV.int .i64 (QI T 12 j).d,SV.int .i64 (QI T 12 j).e,SV.int .i64 (QI T 12 j).f,SV.int .i64 (QI T 12 j).n])=Yr (ZN T j):=by
 unfold ZN;split <;> rfl
theorem EB(T:Tm)(k:Nat):QI T 0 k=KW:=if_neg (J8 _)
theorem TB(L:Nat->Rt)(m:Nat):Jl m (XI L):=by simp [XI,Yr,Jl,bnd]
theorem CD{k:SV->List HO->Prop}{al:Bool}{hp:List HO}{L:Nat->Rt}(h:k (.agg (XI L)) []):Jz al k (.agg (XI L)) hp:=
 Kv (show k _ []from h) (JG (.agg (XI L)) (TB L _)) (fun _=>by simp [Y3,Y5,XI,Yr])
theorem Ez{T:Tm}{i:Nat}(h:¬(i:Int)=T.wolf):QI T (i+1) i=WR T i:=by
 unfold QI;rw[if_pos (by omega),if_neg h]
theorem Bl{T:Tm}{i k:Nat}(h:¬k=i):QI T (i+1) k=QI T i k:=by
 unfold QI
 by_cases h1:k<i
 ·rw[if_pos h1,if_pos (by omega)]
 ·rw[if_neg h1,if_neg (by omega)]
theorem EA{T:Tm}{i k:Nat}(h:(i:Int)=T.wolf):QI T (i+1) k=QI T i k:=by
 by_cases hk:k=i
 ·subst hk;unfold QI;rw[if_pos (by omega),if_pos h,if_neg (by omega)]
 ·exact Bl hk
def fifC:Ctr:={ alias:=false,of:=fun l=>match l with
 | [.xp _ cs]=> .ex Tm fun T=> .pre (cs=YZ T/\Ke T=0) (.fin (.agg (XI (ZN T))) [])
 |_=>noC}
theorem Eb{T:Tm}(h:Ke T=0):(0<=T.wolf/\T.wolf<=11)/\(∀i,i<12->XU (T.p i)=false):=by
 unfold Ke at h
 split at h
 ·cases h
 ·split at h
  ·cases h
  ·rename_i h1 h2
   refine⟨by omega,fun i hi=>?_⟩
   cases hb:XU (T.p i)with
   |false=>rfl
   |true=>exact absurd (Df hi hb) h2
def mc1:Ctr:=m2C 1
def mcm:Ctr:=m2C (-1)
def TH0:Env:=mkE [(116,wholeC),(143,mcm),(119,mc1),(142,powRC),(118,folC)] []
theorem Yey:YD Yb TH0:=eo (by kernel_rfl) ⟨⟨Ydy,_,Tryz.func116,rfl,rfl⟩,⟨YkO,_,Tryz.func143,rfl,rfl⟩,⟨Ycs,_,Tryz.func119,rfl,rfl⟩,⟨YkZ,_,Tryz.func142,rfl,rfl⟩,⟨TY,_,Tryz.func118,rfl,rfl⟩,trivial⟩ trivial
theorem Yg5:fifC.ok Yb 117:=by
 refine Yy Tryz.func117 Yo0 Yey 300 fifC fun args k h=>?_
 simp only[fifC]at h
 split at h
 ·rename_i tt cs
  obtain⟨T,⟨rfl,hT⟩,h⟩:=h
  refine⟨[.xp tt (YZ T)],by simp only[Yf],?_⟩
  obtain⟨hw,hp⟩:=Eb hT
  dsimp only[YcL,YZ,XJ,Yr,XO,TH0,Yk,wholeC,mc1,mcm,m2C,powRC,folC,go_sem,reduceIte,Ya]
  simp only[Yd,Ya,Ye,reduceCtorEq,Yc]
  refine⟨fun hs=>?_,fun hs=>?_⟩
  ·have hC:Wa T=(K1 81 80).1:=if_pos hs
   obtain⟨C,hCe⟩:∃C,C=(K1 81 80).1:=⟨_,rfl⟩
   rw[<-hCe]at hC⊢
   clear hCe hs
   refine Loop.keep [0,1,0,0,0,14] Nat (fun i=>[(21,.int .i64 i)]) (fun i=>[(2,.own false 7 12 (fun k=>Yr (QI T i k))),(3,.box (Yr (K6 T i)))]) [] (fun i=>i<=12) (fun i=>12-i) ?_ ?_
   ·refine⟨0,by omega,?_⟩
    dsimp only[Yr,go_sem,reduceIte,Ya]
    simp only[Yf]
    refine⟨⟨by decide,by decide,by decide,by decide,rfl⟩,fun k hk=>?_,rfl,rfl,rfl,rfl,rfl,rfl,rfl⟩
    rw[Rs hk,EB]
    exact ZT KW
   ·rintro i hi
    dsimp only[XO,TH0,Yk,wholeC,mc1,mcm,m2C,powRC,folC,Yr,Yj,go_sem,reduceIte,Ya]
    simp only[Yd,Ya,Ye,reduceCtorEq,Yc]
    refine⟨fun hlt=>?_,fun hge=>?_⟩
    ·have hi12:i<12:=by omega
     have e:=Eu T.p hi12
     simp only[XJ]at e
     rw[e]
     dsimp only[XO,TH0,Yk,wholeC,mc1,mcm,m2C,powRC,folC,Yr,Yj,go_sem,reduceIte,Ya]
     simp only[Yd,Ya,Ye,reduceCtorEq,Yc]
     have hF:(KQ (K1 3 2).1 (Xm C (T.p i).1 (T.p i).2).1 (-1)).1=WR T i:=by rw[WR,hC]
     simp only[if_true,XO,hF]
     dsimp only[XO,TH0,Yk,wholeC,mc1,mcm,m2C,powRC,folC,Yr,Yj,go_sem,reduceIte,Ya]
     simp only[Yd,Ya,Ye,reduceCtorEq,Yc]
     refine⟨⟨by omega,by omega⟩,fun hne=>⟨by decide,by decide,⟨by omega,by omega⟩,hi12,⟨by omega,by omega⟩,hi12,i+1,by omega,by omega,?_⟩,fun heq=>⟨i+1,by omega,by omega,?_⟩⟩
     ·have hR:K6 T (i+1)=(KQ (K6 T i) (WR T i) (-1)).1:=by rw[K6,if_neg hne]
      rw[hR,Yg ((i:Int)+1) (by omega)]
      simp only[Yf]
      refine⟨⟨by decide,by decide,by decide,by decide,by simp⟩,fun k hk=>?_⟩
      split
      ·rename_i hki
       subst hki
       rw[Ez hne]
       exact ZT _
      ·rename_i hki
       rw[Bl hki]
       exact ZT _
     ·have hR:K6 T (i+1)=K6 T i:=by rw[K6,if_pos heq]
      rw[hR,Yg ((i:Int)+1) (by omega)]
      simp only[Yf]
      refine⟨⟨by decide,by decide,by decide,by decide,by simp⟩,fun k hk=>?_⟩
      rw[EA heq]
      exact⟨rfl,rfl,rfl,rfl,rfl,rfl,rfl⟩
    ·obtain rfl:i=12:=by omega
     simp only[EC]
     dsimp only[Yr,go_sem,reduceIte,Ya]
     simp only[Yd,Ya,Ye,reduceCtorEq,Yc]
     exact⟨⟨by omega,by omega⟩,by omega,by decide,CD (L:=ZN T) h⟩
  ·have hC:Wa T=(K1 531441 524288).1:=if_neg (by rw[hs];decide)
   obtain⟨C,hCe⟩:∃C,C=(K1 531441 524288).1:=⟨_,rfl⟩
   rw[<-hCe]at hC⊢
   clear hCe hs
   refine Loop.keep [0,1,0,0,0,14] Nat (fun i=>[(21,.int .i64 i)]) (fun i=>[(2,.own false 7 12 (fun k=>Yr (QI T i k))),(3,.box (Yr (K6 T i)))]) [] (fun i=>i<=12) (fun i=>12-i) ?_ ?_
   ·refine⟨0,by omega,?_⟩
    dsimp only[Yr,go_sem,reduceIte,Ya]
    simp only[Yf]
    refine⟨⟨by decide,by decide,by decide,by decide,rfl⟩,fun k hk=>?_,rfl,rfl,rfl,rfl,rfl,rfl,rfl⟩
    rw[Rs hk,EB]
    exact ZT KW
   ·rintro i hi
    dsimp only[XO,TH0,Yk,wholeC,mc1,mcm,m2C,powRC,folC,Yr,Yj,go_sem,reduceIte,Ya]
    simp only[Yd,Ya,Ye,reduceCtorEq,Yc]
    refine⟨fun hlt=>?_,fun hge=>?_⟩
    ·have hi12:i<12:=by omega
     have e:=Eu T.p hi12
     simp only[XJ]at e
     rw[e]
     dsimp only[XO,TH0,Yk,wholeC,mc1,mcm,m2C,powRC,folC,Yr,Yj,go_sem,reduceIte,Ya]
     simp only[Yd,Ya,Ye,reduceCtorEq,Yc]
     have hF:(KQ (K1 3 2).1 (Xm C (T.p i).1 (T.p i).2).1 (-1)).1=WR T i:=by rw[WR,hC]
     simp only[if_true,XO,hF]
     dsimp only[XO,TH0,Yk,wholeC,mc1,mcm,m2C,powRC,folC,Yr,Yj,go_sem,reduceIte,Ya]
     simp only[Yd,Ya,Ye,reduceCtorEq,Yc]
     refine⟨⟨by omega,by omega⟩,fun hne=>⟨by decide,by decide,⟨by omega,by omega⟩,hi12,⟨by omega,by omega⟩,hi12,i+1,by omega,by omega,?_⟩,fun heq=>⟨i+1,by omega,by omega,?_⟩⟩
     ·have hR:K6 T (i+1)=(KQ (K6 T i) (WR T i) (-1)).1:=by rw[K6,if_neg hne]
      rw[hR,Yg ((i:Int)+1) (by omega)]
      simp only[Yf]
      refine⟨⟨by decide,by decide,by decide,by decide,by simp⟩,fun k hk=>?_⟩
      split
      ·rename_i hki
       subst hki
       rw[Ez hne]
       exact ZT _
      ·rename_i hki
       rw[Bl hki]
       exact ZT _
     ·have hR:K6 T (i+1)=K6 T i:=by rw[K6,if_pos heq]
      rw[hR,Yg ((i:Int)+1) (by omega)]
      simp only[Yf]
      refine⟨⟨by decide,by decide,by decide,by decide,by simp⟩,fun k hk=>?_⟩
      rw[EA heq]
      exact⟨rfl,rfl,rfl,rfl,rfl,rfl,rfl⟩
    ·obtain rfl:i=12:=by omega
     simp only[EC]
     dsimp only[Yr,go_sem,reduceIte,Ya]
     simp only[Yd,Ya,Ye,reduceCtorEq,Yc]
     exact⟨⟨by omega,by omega⟩,by omega,by decide,CD (L:=ZN T) h⟩
 ·exact h.1.elim
theorem YbX(n:Nat)(L:Nat->Rt):X6 n (XI L)=XI L:=rfl
theorem YiD{a b:Nat}(L:Nat->Rt):leL a b (XI L) (XI L):=YN _ (TB L _)
def UQ(L:Nat->Rt)(i:Nat)(r:Rt):Nat->Rt:=fun k=>if k=i then r else L k
def Jq(T:Tm):Nat->(Nat->Rt)×Rt
 |0=>(fun _=>KW,(K1 1 1).1)
 |i+1=>(UQ (Jq T i).1 (7*i%12) (JF (Jq T i).2).1,(KQ (Jq T i).2 (ZN T i) 1).1)
def YR(T:Tm):Nat->Rt:=(Jq T 12).1
def notC:Ctr:={ alias:=false,of:=fun l=>match l with
 | [.xp _ cs]=> .ex Tm fun T=> .pre (cs=YZ T/\Ke T=0) (.fin (.agg (XI (YR T))) [])
 |_=>noC}
def TH1:Env:=mkE [(116,wholeC),(119,mc1),(118,folC),(117,fifC)] []
theorem Yez:YD Yb TH1:=eo (by kernel_rfl) ⟨⟨Ydy,_,Tryz.func116,rfl,rfl⟩,⟨Ycs,_,Tryz.func119,rfl,rfl⟩,⟨TY,_,Tryz.func118,rfl,rfl⟩,⟨Yg5,_,Tryz.func117,rfl,rfl⟩,trivial⟩ trivial
theorem Ykl:notC.ok Yb 80:=by
 refine Yy Tryz.func80 Yqz Yez 300 notC fun args k h=>?_
 simp only[notC]at h
 split at h
 ·rename_i tt cs
  obtain⟨T,⟨rfl,hT⟩,h⟩:=h
  refine⟨[.xp tt (YZ T)],by simp only[Yf],?_⟩
  dsimp only[v80,Yr,XO,TH1,Yk,wholeC,mc1,mcm,m2C,folC,fifC,go_sem,reduceIte,Ya]
  simp only[Yd,Ya,Ye,reduceCtorEq,Yc]
  refine⟨T,⟨rfl,hT⟩,?_⟩
  refine Loop.keep [2,0,0,4] Nat (fun i=>[(10,.int .i64 i)]) (fun i=>[(1,.own false 7 12 (fun k=>Yr ((Jq T i).1 k))),(2,.box (Yr (Jq T i).2))]) [] (fun i=>i<=12) (fun i=>12-i) ?_ ?_
  ·refine⟨0,by omega,?_⟩
   dsimp only[Yr,XI,go_sem,reduceIte,Ya]
   simp only[Yf]
   refine⟨⟨by decide,by decide,by decide,rfl⟩,fun k hk=>?_,rfl,rfl,rfl,rfl,rfl,rfl,rfl⟩
   rw[Rs hk]
   exact ZT KW
  ·rintro i hi
   dsimp only[Yr,Yj,XO,TH1,Yk,wholeC,mc1,mcm,m2C,folC,fifC,go_sem,reduceIte,Ya]
   simp only[Yd,Ya,Ye,reduceCtorEq,Yc]
   refine⟨fun hlt=>?_,fun hge=>?_⟩
   ·have hi12:i<12:=by omega
    have e7:(IntKind.i64.wrap (7*(i:Int))).tmod 12=((7*i%12:Nat):Int):=by
     rw[Yg _ (by omega),UX (by omega)];omega
    simp only[YbX,TC (ZN T) hi12,e7,Yj]
    dsimp only[Yr,Yj,XO,TH1,Yk,wholeC,mc1,mcm,m2C,folC,fifC,go_sem,reduceIte,Ya]
    simp only[Yd,Ya,Ye,reduceCtorEq,Yc]
    have hS:Jq T (i+1)=(UQ (Jq T i).1 (7*i%12) (JF (Jq T i).2).1,(KQ (Jq T i).2 (ZN T i) 1).1):=rfl
    refine⟨⟨by omega,by omega,rfl⟩,by decide,⟨by omega,by omega⟩,by omega,i+1,by omega,by omega,?_⟩
    rw[hS,Yg ((i:Int)+1) (by omega)]
    simp only[Yf]
    refine⟨⟨by decide,by decide,by decide,YiD _,by simp⟩,fun k hk=>?_⟩
    unfold UQ
    split
    ·exact ZT _
    ·exact ZT _
   ·obtain rfl:i=12:=by omega
    exact⟨by decide,CD (L:=YR T) h⟩
 ·exact h.1.elim
theorem QT(T:Tm):Jg (YZ T):=by simp [YZ,XJ,Jg,one];rfl
theorem YkH(L:Nat->Rt):Jg (XI L):=by simp [XI,Yr,Jg,one]
theorem Ye8{k:SV->List HO->Prop}{al:Bool}{hp:List HO}{e:Int}(h:k (.tup [.nil,.int .i64 e]) []):Jz al k (.tup [.nil,.int .i64 e]) hp:=
 Kv h (JG (.tup [.nil,.int .i64 e]) ⟨trivial,trivial,trivial⟩) (fun _=>by simp [Y3,Y5])
theorem Ye7{k:SV->List HO->Prop}{x:HO}{e:Int}{L:Nat->Rt}(h:k (.tup [.vs true false 12 7 (fun k=>Yr (L k)),.int .i64 e]) []):Jz false k (.tup [.own 1 0 12 7,.int .i64 e]) [x,.own false 7 12 (Jt 7 (X6 1 (XI L)))]:=by
 refine Kv h ?_ (fun _=>by simp [Y3,Y5,Yr])
 dsimp only[JT,go_sem,reduceIte,Ya]
 simp only[Yf]
 intro q hq
 rw[YbX,TC L hq]
 exact YW _
def NotC:Ctr:={ alias:=false,of:=fun l=>match l with
 | [.agg cs]=> .ex Tm fun T=> .pre (cs=YZ T/\T.nm.size<=9223372036854775807) (if Ke T≠0 then .fin (.tup [.nil,.int .i64 (Ke T)]) []else .fin (.tup [.vs true false 12 7 (fun k=>Yr (YR T k)),.int .i64 0]) [])
 |_=>noC}
def TH2:Env:=mkE [(79,chkTmC),(80,notC)] []
theorem YeA:YD Yb TH2:=eo (by kernel_rfl) ⟨⟨Yf3,_,Tryz.func79,rfl,rfl⟩,⟨Ykl,_,Tryz.func80,rfl,rfl⟩,trivial⟩ trivial
theorem Rz:NotC.ok Yb 45:=by
 refine Yy Tryz.func45 YpZ YeA 300 NotC fun args k h=>?_
 simp only[NotC]at h
 split at h
 ·rename_i cs
  obtain⟨T,⟨rfl,hnm⟩,h⟩:=h
  refine⟨[.agg (YZ T)],⟨YN _ (KU T _),trivial⟩,?_⟩
  dsimp only[v45,TH2,Yk,chkTmC,notC,go_sem,reduceIte,Ya]
  simp only[Yd,Ya,Ye,reduceCtorEq,Yc]
  refine⟨QT T,Yt 27,T,⟨rfl,hnm⟩,fun hc=>?_,fun hc=>⟨T,⟨rfl,hc⟩,⟨rfl,YkH _,by decide⟩,?_⟩⟩
  ·rw[if_pos hc]at h
   exact Ye8 (show k _ []from h)
  ·rw[if_neg (by rw[hc];decide)]at h
   exact Ye7 (show k _ []from h)
 ·exact h.1.elim
def v24:VF:=⟨9,[.tmp 2],(ZR [u1 2 .mov [.cn (.bool false)]] (ZR [Zm 3 0,Zq 4 .geq 3 (-20000),Zm 5 4,Zg 6 5 true 0,u2 7 5 true (.cmp .leq) [.tm 6,.cn (.int .i64 50000)],u1 8 .and [.tm 5,.tm 7],Zm 2 8] .ret))⟩
theorem Ydo:Yn Yb Tryz.f24=some v24:=by kernel_rfl
def v26:VF:=⟨9,[.cell 4 true 2],(ZR [u1 4 (.alloc Z2) []] (ZR [Zm 5 0,u1 6 (.ari .add) [.cn (.int .i64 273150),.tm 5],Zm 7 1,u1 8 (.build Z2 [(0,1),(1,1)]) [.tm 6,.tm 7],Zs 2 4 8] .ret))⟩
theorem Ydp:Yn Yb Tryz.f26=some v26:=by kernel_rfl
def v25:VF:=⟨26,[.cell 6 true 2],(ZR [u1 6 (.alloc Z2) []] (ZR [Zm 11 0,Zm 12 2,Zm 13 1,u1 14 (.call 47) [.tm 11,.tm 12,.tm 13],Zm 10 14,Ze 15 0 10,Ze 16 1 10,Ze 17 2 10,Zm 7 15,Zm 8 16,Zm 9 17] (.seq (ZR [Zm 18 8] (ZC 18 (ZR [Zm 19 7,Zm 20 7,u1 21 (.build Z2 [(0,1),(1,1)]) [.tm 19,.tm 20],Zs 2 6 21] .ret) .skip)) (ZR [Zm 22 7,Zm 23 7,Zp 24 23 1,u1 25 (.build Z2 [(0,1),(1,1)]) [.tm 22,.tm 24],Zs 2 6 25] .ret))))⟩
theorem YpI:Yn Yb Tryz.f25=some v25:=by kernel_rfl
def v8:VF:=⟨13,[.cell 2 true 2,.tmp 3],(ZR [u1 2 (.alloc Z2) [],Zi 3 0] (.seq (ZR [Zm 4 0,Zc 5 24 4,u1 6 .not [.tm 5]] (ZC 6 (ZR [u1 7 (.build Z2 []) [],Zs 2 2 7,Zi 3 2] .ret) .skip)) (ZR [Zm 8 0,u1 9 (.call 26) [.tm 8,.cn (.int .i64 1)],u1 10 (.call 26) [.cn (.int .i64 0),.cn (.int .i64 (-1))],u1 11 (.buildSlice 2 2 Z2 [(0,2),(2,2)]) [.tm 9,.tm 10],u1 12 (.call 25) [.cn (.int .i64 331300000),.cn (.int .i64 2),.tm 11],Zs 2 2 12,Zi 3 0] .ret)))⟩
theorem YqJ:Yn Yb Tryz.f8=some v8:=by kernel_rfl
def GI(s:Int)(l:List (Int×Int))(den:Int):Int×Int:=if(X3 s l den).2.1=true then((X3 s l den).1,(X3 s l den).1)else((X3 s l den).1,IntKind.i64.wrap ((X3 s l den).1+1))
def pspC:Ctr:={ alias:=false,of:=fun l=>match l with
 | [.int .i64 s,.int .i64 den,.vs _ _ n sz get]=> .ex (List (Int×Int)) fun l=> .pre (lsP 2 Yw n sz get l/\1<=n/\n<=1000000000000) (.fin (.agg [.int .i64 (GI s l den).1,.int .i64 (GI s l den).2]) [])
 |_=>noC}
def KG(t:Int):Bool:=decide (-20000<=t)&&decide (t<=50000)
def UR(t:Int):(Int×Int)×Int:=if KG t=true then(GI 331300000 [(273150+t,1),(273150, -1)] 2,0)else((0,0),2)
def speedC:Ctr:={ alias:=false,of:=fun l=>match l with
 | [.int .i64 t]=> .fin (.tup [.agg [.int .i64 (UR t).1.1,.int .i64 (UR t).1.2],.int .i64 (UR t).2]) []
 |_=>noC}
theorem HK{k:SV->List HO->Prop}{al:Bool}{hp:List HO}{x y:Int}(h:k (.agg [.int .i64 x,.int .i64 y]) []):Jz al k (.agg [.int .i64 x,.int .i64 y]) hp:=
 Kv (show k _ []from h) (JG (.agg [.int .i64 x,.int .i64 y]) ⟨trivial,trivial,trivial⟩) (fun _=>by simp [Y3,Y5])
theorem HL{k:SV->List HO->Prop}{al:Bool}{hp:List HO}{x y e:Int}(h:k (.tup [.agg [.int .i64 x,.int .i64 y],.int .i64 e]) []):Jz al k (.tup [.agg [.int .i64 x,.int .i64 y],.int .i64 e]) hp:=
 Kv (show k _ []from h) (JG (.tup [.agg [.int .i64 x,.int .i64 y],.int .i64 e]) ⟨⟨trivial,trivial,trivial⟩,trivial,trivial⟩) (fun _=>by simp [Y3,Y5])
def RP0:Env:=mkE [(47,prodC)] []
theorem Yec:YD Yb RP0:=eo (by kernel_rfl) ⟨⟨Yk1,_,Tryz.func47,rfl,rfl⟩,trivial⟩ trivial
theorem YaH:pspC.ok Yb 25:=by
 refine Yy Tryz.func25 YpI Yec 200 pspC fun args k h=>?_
 simp only[pspC]at h
 split at h
 ·rename_i s den tt z n sz get
  obtain⟨l,⟨⟨rfl,rfl,hg⟩,hn1,hn⟩,h⟩:=h
  refine⟨[.int .i64 s,.int .i64 den,.vs tt z l.length 2 (fun k=>Yw (l.getD k default))],⟨⟨rfl,rfl⟩,⟨rfl,rfl⟩,⟨id,rfl,rfl,rfl,hg⟩,trivial⟩,?_⟩
  dsimp only[v25,RP0,Yk,prodC,Yw,go_sem,reduceIte,Ya]
  simp only[Yd,Ya,Ye,reduceCtorEq,Yc]
  refine⟨l,⟨⟨rfl,rfl,fun k _=>YW _⟩,hn1,hn⟩,by decide,by decide,by decide,fun hc=>?_,fun hc=>?_⟩
  ·rw[GI,if_pos hc]at h;exact HK h
  ·rw[GI,if_neg (by rw[hc];decide)]at h;exact HK h
 ·exact h.1.elim
def RP1:Env:=mkE [(25,pspC)] [(24,v24),(26,v26)]
theorem Yed:YD Yb RP1:=eo (by kernel_rfl) ⟨⟨YaH,_,Tryz.func25,rfl,rfl⟩,trivial⟩ ⟨⟨_,Tryz.func24,Ydo,_,Tryz.func24,rfl,rfl⟩,⟨_,Tryz.func26,Ydp,_,Tryz.func26,rfl,rfl⟩,trivial⟩
theorem Yn5:speedC.ok Yb 8:=by
 refine Yy Tryz.func8 YqJ Yed 300 speedC fun args k h=>?_
 simp only[speedC]at h
 split at h
 ·rename_i t
  refine⟨[.int .i64 t],by simp [leL,le],?_⟩
  dsimp only[v8,RP1,Yk,v24,v26,pspC,go_sem,reduceIte,Ya]
  simp only[Yd,Ya,Ye,reduceCtorEq,Yc]
  refine⟨fun hc=>?_,fun hc=>⟨by decide,[(273150+t,1),(273150, -1)],?_,?_⟩⟩
  ·rw[UR,if_neg (show¬KG t=true from by rw[show KG t=false from hc];decide)]at h
   exact HL h
  ·rw[YS,decide_eq_true_eq,decide_eq_true_eq]at hc
   have e1:IntKind.i64.wrap (273150+t)=273150+t:=Yg _ (by omega)
   have e2:IntKind.i64.wrap (273150+0)=273150:=by decide
   rw[e1,e2]
   refine⟨rfl,rfl,fun k hk=>?_⟩
   match k,hk with
   |0,_=>exact YW _
   |1,_=>exact YW _
  ·rw[UR,if_pos (show KG t=true from hc)]at h
   exact HL h
 ·exact h.1.elim
def v30:VF:=⟨23,[.tmp 2],(ZR [u1 1 .box [.tm 0],Zi 2 0] (.seq (ZR [Za 3 0 1,Zf 4 1 3,Zq 5 .lss 4 100000,Zm 6 5,Zj 7 6 false 0 1,Zh 8 6 false 1 7,u2 9 6 false (.cmp .gtr) [.tm 8,.cn (.int .i64 1000000)],u1 10 .or [.tm 6,.tm 9],Zm 11 10,Zj 12 11 false 1 1,Zh 13 11 false 1 12,u2 14 11 false (.call 24) [.tm 13],u2 15 11 false .not [.tm 14],u1 16 .or [.tm 11,.tm 15],Zm 17 16,Zj 18 17 false 2 1,Zh 19 17 false 1 18,u2 20 17 false (.call 24) [.tm 19],u2 21 17 false .not [.tm 20],u1 22 .or [.tm 17,.tm 21]] (ZC 22 (ZR [Zi 2 2] .ret) .skip)) (ZR [Zi 2 0] .ret)))⟩
theorem YpL:Yn Yb Tryz.f30=some v30:=by kernel_rfl
def v46:VF:=⟨77,[.tmp 4,.tmp 5],(ZR [u1 4 .mov [.cn .nil],Zi 5 0] (.seq (.draw [(6,.box Z7)] [Zu 13 0,w1 14 .nilCheck [.tm 13],Zy 15 3 14,Zv 16 1 15,Zu 17 1,w1 18 .rem [.tm 17,.cn (.int .i64 12)],ZX 19 7 16 18,Zw 20 7 19,Zu 21 0,w1 22 .nilCheck [.tm 21],Zy 23 3 22,Zv 24 1 23,w1 25 (.idxAddr 7) [.tm 24,.cn (.int .i64 9)],Zw 26 7 25,Zz 27 81 20 26,Zu 12 27,ZE 28 0 12,ZE 29 1 12,ZS 7 6 28,Zu 7 29]) (ZR [Zt 31 7 6,Zc 32 82 31,Zm 30 32,Ze 33 0 30,Ze 34 1 30,Ze 35 2 30,Zm 8 33,Zm 9 34,Zm 10 35] (.seq (ZR [Zm 36 8,Zl 37 36,Zi 38 0] (.block 0 (.loop (ZR [Zr 39 .lss 38 37] (.seq (ZC 39 .skip (.exit 0)) (.seq (.block 1 (ZR [Zm 40 38,Zm 11 40] (.region [Zm 41 8,Zm 42 11,Zx 43 2 41 42,Za 44 1 43,Zf 45 1 44,u1 46 (.ari .mul) [.tm 45,.cn (.int .i64 2)],Zx 47 2 41 42,Za 48 1 47,Zs 1 48 46]))) (.region [Zp 49 38 1,Zm 38 49]))))))) (.seq (.draw [] [Zu 50 8,Zu 51 9,w1 52 (.ari .mul) [.cn (.int .i64 2),.tm 51],Zu 53 1,w1 54 .quo [.tm 53,.cn (.int .i64 12)],w1 55 (.ari .sub) [.tm 54,.cn (.int .i64 5)],w1 56 (.ari .mul) [.tm 52,.tm 55],w1 57 (.build Z2 [(0,1),(1,1)]) [.cn (.int .i64 2),.tm 56],Zu 58 0,w1 59 .nilCheck [.tm 58],Zy 60 0 59,Zy 61 2 60,Zv 62 1 61,Zu 63 9,Zu 65 0,w1 66 .nilCheck [.tm 65],Zy 67 0 66,Zy 68 1 67,Zv 69 1 68,Zu 70 9,w1 71 .neg [.tm 70],Zu 75 9,w1 76 (.ari .mul) [.cn (.int .i64 2),.tm 75],Zz 64 26 62 63,Zz 72 26 69 71,w1 73 (.buildSlice 2 3 Z2 [(0,2),(2,2),(4,2)]) [.tm 57,.tm 64,.tm 72],⟨u1 74 (.append 2 16 Z2) [.tm 50,.tm 73],[.tm 9,.tm 75,.tm 75,.tm 76]⟩,Zu 4 74,Zu 5 76]) .ret)))))⟩
theorem Yp0:Yn Yb Tryz.f46=some v46:=by kernel_rfl
def J0(a t0 t:Int):Int:=if a<100000\/1000000<a\/KG t0=false\/KG t=false then 2 else 0
def chkSC:Ctr:={ alias:=false,of:=fun l=>match l with
 | [.agg [.int .i64 a,.int .i64 t0,.int .i64 t]]=> .fin (.int .i64 (J0 a t0 t)) []
 |_=>noC}
def Wb(x:Int×Int):Int×Int:=(x.1,x.2*2)
def JW(L:Nat->Rt)(note:Int):Rt:=(KQ (L (note%12).toNat) (L 9) (-1)).1
def FM(r:Rt):List (Int×Int):=if Y4 r=0 then Yu r else []
def HA(r:Rt):Int:=if Y4 r=0 then r.n else 0
def ZW(L:Nat->Rt)(t0 t note:Int):List (Int×Int)×Int:=
 ((FM (JW L note)).map Wb++[(2,2*HA (JW L note)*(note/12-5)),(273150+t,HA (JW L note)),(273150+t0, -HA (JW L note))],2*HA (JW L note))
def XW(l:List (Int×Int))(i k:Nat):Int×Int:=if k<i then Wb (l.getD k default)else l.getD k default
theorem A4{r:Rt}(h:Y4 r=0):∀x,x∈Yu r-> -100000<=x.2/\x.2<=100000:=by
 obtain⟨_,h1,h2,h3,h4,h5,h6,_⟩:=VW h
 have key:∀(p n:Int),K3 n=false->∀x,x∈tm1 p n-> -100000<=x.2/\x.2<=100000:=fun p n hn x hx=>by
  unfold tm1 at hx
  split at hx
  ·cases hx
  ·rw[Jj]at hx;subst hx;exact QZ hn
 intro x hx
 simp only[Yu,Ky]at hx
 rcases hx with hx|hx|hx|hx|hx|hx
 ·exact key _ _ h1 x hx
 ·exact key _ _ h2 x hx
 ·exact key _ _ h3 x hx
 ·exact key _ _ h4 x hx
 ·exact key _ _ h5 x hx
 ·exact key _ _ h6 x hx
theorem Ycq{a b c d e f:Int}{k:Nat}(hk:k<3):YK (YP 2 (YF (k*2) [SV.int .i64 a,SV.int .i64 b,SV.int .i64 c,SV.int .i64 d,SV.int .i64 e,SV.int .i64 f]))=2/\Jg (YP 2 (YF (k*2) [SV.int .i64 a,SV.int .i64 b,SV.int .i64 c,SV.int .i64 d,SV.int .i64 e,SV.int .i64 f])):=by
 rcases(show k=0\/k=1\/k=2 by omega)with rfl|rfl|rfl <;> exact⟨rfl,trivial,trivial,trivial⟩
def termC:Ctr:={ alias:=false,of:=fun l=>match l with
 | [.xp _ [.int .i64 _,.int .i64 t0,.int .i64 t,.vs _ _ n sz get],.int .i64 note]=> .ex (Nat->Rt) fun L=> .pre ((n=12/\sz=7/\∀k,k<12->QK (get k) (Yr (L k)))/\(0<=note/\note<=139)/\KG t0=true/\KG t=true)
     (.fin (.tup [.vs true false (ZW L t0 t note).1.length 2 (fun k=>Yw ((ZW L t0 t note).1.getD k default)),.int .i64 (ZW L t0 t note).2]) [])
 |_=>noC}
def valdC:Ctr:={ alias:=false,of:=fun l=>match l with
 | [.int .i64 t]=> .fin (.bool (KG t)) []
 |_=> .pre False (.fin (.bool false) [])}
def TIv:Env:=mkE [] []
theorem RG:YD Yb TIv:=eo (by kernel_rfl) trivial trivial
theorem YqV:valdC.ok Yb 24:=by
 refine Yy Tryz.func24 Ydo RG 300 valdC fun args k h=>?_
 simp only[valdC]at h
 split at h
 ·rename_i t
  refine⟨[.int .i64 t],by simp [leL,le],?_⟩
  dsimp only[v24,go_sem,reduceIte,Ya]
  simp only[Yd,Ya,Ye,reduceCtorEq,Yc]
  exact QF h
 ·exact h.1.elim
def TI0:Env:=mkE [(24,valdC)] []
theorem YeB:YD Yb TI0:=eo (by kernel_rfl) ⟨⟨YqV,_,Tryz.func24,rfl,rfl⟩,trivial⟩ trivial
theorem C9:chkSC.ok Yb 30:=by
 refine Yy Tryz.func30 YpL YeB 300 chkSC fun args k h=>?_
 simp only[chkSC]at h
 split at h
 ·rename_i a t0 t
  refine⟨[.agg [.int .i64 a,.int .i64 t0,.int .i64 t]],by simp [leL,le],?_⟩
  dsimp only[v30,TI0,Yk,valdC,go_sem,reduceIte,Ya]
  simp only[Yd,Ya,Ye,reduceCtorEq,Yc]
  have h:k (.int .i64 (J0 a t0 t)) []:=h
  refine⟨fun hc=>?_,fun hc=>?_⟩
  ·rw[J0,if_pos (by simpa [or_assoc]using hc)]at h;exact Kb h
  ·rw[J0,if_neg (by simpa [or_assoc,and_assoc]using hc)]at h;exact Kb h
 ·exact h.1.elim
def warmC:Ctr:={ alias:=false,of:=fun l=>match l with
 | [.int .i64 t,.int .i64 num]=> .pre (KG t=true) (.fin (.agg [.int .i64 (273150+t),.int .i64 num]) [])
 |_=>noC}
theorem QL{t:Int}(h:KG t=true): -20000<=t/\t<=50000:=by simpa [KG]using h
theorem Ydx:warmC.ok Yb 26:=by
 refine Yy Tryz.func26 Ydp RG 300 warmC fun args k h=>?_
 simp only[warmC]at h
 split at h
 ·rename_i t num
  obtain⟨ht,h⟩:=h
  have ht:=QL ht
  refine⟨[.int .i64 t,.int .i64 num],by simp [leL,le],?_⟩
  dsimp only[v26,go_sem,reduceIte,Ya]
  simp only[Yd,Ya,Ye,reduceCtorEq,Yc]
  rw[Yg (273150+t) (by omega)]
  exact HK h
 ·exact h.1.elim
def TI1:Env:=mkE [(81,Vr),(82,trmC),(26,warmC)] []
theorem YeC:YD Yb TI1:=eo (by kernel_rfl) ⟨⟨Tg,_,Tryz.func81,rfl,rfl⟩,⟨Yct,_,Tryz.func82,rfl,rfl⟩,⟨Ydx,_,Tryz.func26,rfl,rfl⟩,trivial⟩ trivial
theorem Yoz:termC.ok Yb 46:=by
 refine Yy Tryz.func46 Yp0 YeC 600 termC fun args k h=>?_
 simp only[termC]at h
 split at h
 ·rename_i tt a t0 t tv zv n sz get note
  obtain⟨L,⟨⟨rfl,rfl,hg⟩,hn,h0,h1⟩,h⟩:=h
  refine⟨[.xp tt [.int .i64 a,.int .i64 t0,.int .i64 t,.vs tv zv 12 7 (fun k=>Yr (L k))],.int .i64 note],?_,?_⟩
  ·simp only[BL,BM,Lj,BN,and_true,true_and]
   exact⟨id,⟨rfl,rfl⟩,⟨rfl,rfl⟩,⟨rfl,rfl⟩,⟨id,rfl,rfl,rfl,hg⟩,trivial⟩
  dsimp only[v46,XO,TI1,Yk,Vr,Jp,trmC,Yr,warmC,go_sem,reduceIte,Ya]
  simp only[Yd,Ya,Ye,reduceCtorEq,Yc]
  obtain⟨m,rfl⟩:∃m:Nat,note=(m:Int):=⟨note.toNat,by omega⟩
  have em:(m:Int).tmod 12=((m%12:Nat):Int):=by rw[UX (by omega)];omega
  simp only[em,Yj]
  obtain⟨r,hr⟩:∃r,r=JW L m:=⟨_,rfl⟩
  have hr':(KQ (L (m%12)) (L (Xs 9)) (-1)).1=r:=by rw[hr,JW,show((m:Int)%12).toNat=m%12 by omega];rfl
  simp only[hr']
  refine⟨by decide,⟨by omega,by omega⟩,by decide,by decide,by decide,?_⟩
  by_cases hc:Y4 r=0
  ·rw[if_neg (fun hh=>hh hc)]
   dsimp only[XO,TI1,Yk,Vr,Jp,trmC,Yr,warmC,go_sem,reduceIte,Ya]
   simp only[Yd,Ya,Ye,reduceCtorEq,Yc]
   intro z
   refine⟨by decide,by decide,by decide,?_⟩
   have hlen:=Uj r
   refine Loop.keep [0,0,2,0,2,0,27] Nat (fun i=>[(38,.int .i64 i)]) (fun i=>[(2,.own z 2 (Yu r).length (fun k=>Yw (XW (Yu r) i k)))]) [] (fun i=>i<=(Yu r).length) (fun i=>(Yu r).length-i) ?_ ?_
   ·refine⟨0,JJ _,?_⟩
    dsimp only[Yw,go_sem,reduceIte,Ya]
    simp only[Yf]
    refine⟨⟨by decide,rfl⟩,fun k hk=>?_⟩
    rw[XW,if_neg (J8 _)]
    exact⟨rfl,rfl⟩
   ·rintro i hi
    dsimp only[XO,TI1,Yk,Vr,Jp,trmC,Yr,warmC,Yw,Yj,go_sem,reduceIte,Ya]
    simp only[Yd,Ya,Ye,reduceCtorEq,Yc]
    refine⟨fun hlt=>?_,fun hge=>?_⟩
    ·have hil:i<(Yu r).length:=by omega
     have hx:=A4 hc _ (KZ hil)
     have ei:XW (Yu r) i i=(Yu r).getD i default:=if_neg (ZA _)
     rw[ei,Yg (((Yu r).getD i default).2*2) (by omega),FR hil (by omega)]
     refine⟨⟨by omega,by omega⟩,hil,⟨by omega,by omega⟩,hil,i+1,by omega,by omega,?_⟩
     simp only[Yf]
     refine⟨by decide,fun k hk=>?_⟩
     by_cases hki:k=i
     ·subst hki
      rw[if_pos rfl,XW,if_pos (by omega)]
      exact⟨⟨rfl,rfl⟩,⟨rfl,rfl⟩,trivial⟩
     ·rw[if_neg hki]
      have:XW (Yu r) (i+1) k=XW (Yu r) i k:=by
       unfold XW
       by_cases h1:k<i
       ·rw[if_pos h1,if_pos (by omega)]
       ·rw[if_neg h1,if_neg (by omega)]
      rw[this]
      exact⟨⟨rfl,rfl⟩,⟨rfl,rfl⟩,trivial⟩
    ·obtain rfl:i=(Yu r).length:=by omega
     have hd:=XX hc
     have e1:IntKind.i64.wrap (2*r.n)=2*r.n:=Yg _ (by omega)
     have e2:IntKind.i64.wrap (IntKind.i64.wrap ((m:Int).tdiv 12)-5)=(m:Int)/12-5:=by
      rw[Wo (by omega),Yg ((m:Int)/12) (by omega),Yg _ (by omega)]
     have hm:=Jv (x:=2*r.n) (y:=(m:Int)/12-5) (X:=2000) (Y:=20) (by omega) (by omega)
     have e3:IntKind.i64.wrap (2*r.n*((m:Int)/12-5))=2*r.n*((m:Int)/12-5):=Yg _ (by omega)
     have e4:IntKind.i64.wrap (0-r.n)= -r.n:=by rw[Yg _ (by omega)];omega
     rw[e1,e2,e3,e4]
     refine⟨by decide,h1,h0,by decide,⟨by unfold Y8;omega,fun k hk=>Ycq hk⟩,?_⟩
     have hT:ZW L t0 t m=((Yu r).map Wb++[(2,2*r.n*((m:Int)/12-5)),(273150+t,r.n),(273150+t0, -r.n)],2*r.n):=by
      rw[ZW,<-hr,FM,if_pos hc,HA,if_pos hc]
     refine Kv (show k _ []from h) ?_ (fun _=>by simp [Y3,Y5,Yw])
     rw[hT]
     dsimp only[JT,go_sem,reduceIte,Ya]
     simp only[Yf]
     refine⟨by simp,by simp,fun q hq=>?_⟩
     by_cases h2:q<(Yu r).length
     ·simp only[if_pos h2,XW]
      rw[Bv (by simpa using h2),BV h2]
      exact YW _
     ·simp only[if_neg h2]
      rw[Bw (by simp;omega),VN]
      rcases(show q-(Yu r).length=0\/q-(Yu r).length=1\/q-(Yu r).length=2 by omega)with e|e|e <;> (rw[e];exact YW _)
  ·rw[if_pos hc]
   dsimp only[XO,TI1,Yk,Vr,Jp,trmC,Yr,warmC,go_sem,reduceIte,Ya]
   simp only[Yd,Ya,Ye,reduceCtorEq,Yc]
   refine⟨by decide,by decide,by decide,?_⟩
   refine Loop.keep [0,0,2,0,2,0,27] Nat (fun i=>[(38,.int .i64 i)]) (fun _=>[]) [] (fun i=>i=0) (fun i=>i) ?_ ?_
   ·refine⟨0,rfl,?_⟩
    dsimp only[go_sem,reduceIte,Ya]
    simp only[Yf]
    rfl
   ·rintro i rfl
    dsimp only[XO,TI1,Yk,Vr,Jp,trmC,Yr,warmC,Yw,Yj,go_sem,reduceIte,Ya]
    simp only[Yd,Ya,Ye,reduceCtorEq,Yc]
    have e2:IntKind.i64.wrap (IntKind.i64.wrap ((m:Int).tdiv 12)-5)=(m:Int)/12-5:=by
     rw[Wo (by omega),Yg ((m:Int)/12) (by omega),Yg _ (by omega)]
    have e3:IntKind.i64.wrap (IntKind.i64.wrap (2*0)*((m:Int)/12-5))=2*0*((m:Int)/12-5):=by
     rw[show IntKind.i64.wrap (2*0)=0 by decide,Int.mul_zero,Int.zero_mul];decide
    rw[e2,e3]
    refine⟨fun hh=>absurd hh (by decide),fun _=>⟨by decide,h1,h0,by decide,⟨by unfold Y8;omega,fun k hk=>Ycq hk⟩,?_⟩⟩
    have hT:ZW L t0 t m=([(2,2*0*((m:Int)/12-5)),(273150+t,0),(273150+t0, -0)],2*0):=by
     rw[ZW,<-hr,FM,if_neg hc,HA,if_neg hc];rfl
    refine Kv (show k _ []from h) ?_ (fun _=>by simp [Y3,Y5,Yw])
    rw[hT]
    dsimp only[JT,go_sem,reduceIte,Ya]
    simp only[Yf]
    refine⟨⟨by decide,rfl,fun q hq=>?_⟩,by decide⟩
    rw[show IntKind.i64.wrap (0-0)= -0 by decide]
    rcases(show q=0\/q=1\/q=2 by omega)with rfl|rfl|rfl <;> exact YW _
 ·exact h.1.elim
structure Rep (L:Int) (r:Rt) (a b c:Int):Prop where
 ok:Y4 r=0
 ha:r.a*L=a*r.n
 hb:r.b*L=b*r.n
 hc:r.c*L=c*r.n
 hd:r.d=0
 he:r.e=0
 hf:r.f=0
def sm(x:Int):Prop:= -100000<=x/\x<=100000
theorem EM{a b g:Nat}(hg:0<g)(ha:g∣a)(hb:g∣b):(a/g).gcd (b/g)=a.gcd b/g:=Nat.gcd_div ha hb
theorem PZ{x:Int}{g:Nat}:(x.tdiv g).natAbs=x.natAbs/g:=by
 rw[Int.natAbs_tdiv,Int.natAbs_natCast];rfl
theorem BO{x y n L:Int}(hn:1<=n)(hnL:n<=L)(h:x*L=y*n)(hy:sm y):sm x:=by
 have h2:x.natAbs*L.natAbs=y.natAbs*n.natAbs:=by rw[<-Int.natAbs_mul,h,Int.natAbs_mul]
 have h3:x.natAbs<=y.natAbs:=by
  refine Ki (c:=L.natAbs) ?_ (by omega)
  rw[h2]
  exact Yz _ (by omega)
 unfold sm at*
 omega
theorem Ly{L:Int}{x:Rt}{a b c:Int}(hL:1<=L/\L<=1000)(hn:1<=x.n)(ha:x.a*L=a*x.n)(hb:x.b*L=b*x.n)(hc:x.c*L=c*x.n)
 (hd:x.d=0)(he:x.e=0)(hf:x.f=0)(sa:sm a)(sb:sm b)(sc:sm c):(Jf x).2=0/\Rep L (Jf x).1 a b c:=by
 obtain⟨g,hg⟩:∃g,g=J3 x:=⟨_,rfl⟩
 have hg2:g=((x.n.toNat.gcd x.a.natAbs).gcd x.b.natAbs).gcd x.c.natAbs:=by
  rw[hg,J3,hd,he,hf];simp
 have dn:g∣x.n.toNat:=by rw[hg2];exact JY (WI ..) (JY (WI ..) (WI ..))
 have da:g∣x.a.natAbs:=by rw[hg2];exact JY (WI ..) (JY (WI ..) (Nat.gcd_dvd_right ..))
 have db:g∣x.b.natAbs:=by rw[hg2];exact JY (WI ..) (Nat.gcd_dvd_right ..)
 have dc:g∣x.c.natAbs:=by rw[hg2];exact Nat.gcd_dvd_right ..
 have g0:0<g:=Nat.pos_of_dvd_of_pos dn (by omega)
 have tn:x.n.tdiv g=((x.n.toNat/g:Nat):Int):=by
  rw[Wo (by omega)]
  obtain⟨m,hm⟩:∃m:Nat,x.n=m:=⟨x.n.toNat,by omega⟩
  rw[hm,Yj];rfl
 have mulg:∀{y:Int},g∣y.natAbs->y.tdiv g*g=y:=fun h=>Int.tdiv_mul_cancel (Int.dvd_natAbs.1 (Int.natCast_dvd_natCast.2 h))
 have mn:((x.n.toNat/g:Nat):Int)*g=x.n:=by
  have:=Nat.div_mul_cancel dn
  have e:((x.n.toNat/g*g:Nat):Int)=x.n:=by rw[this];omega
  rw[Qr]at e
  exact e
 obtain⟨n',hn'⟩:∃n',n'=x.n.toNat/g:=⟨_,rfl⟩
 rw[<-hn']at tn mn
 have n1:1<=n':=by
  rcases Jc n' with h|h
  ·rw[h]at mn;omega
  ·exact h
 have can:∀{y v:Int},g∣y.natAbs->y*L=v*x.n->y.tdiv g*L=v*n':=fun {y v} h1 h2=>by
  refine Int.eq_of_mul_eq_mul_right (a:=g) (by omega) ?_
  rw[Int.mul_right_comm,mulg h1,Int.mul_assoc,mn,h2]
 have ca:=can da ha
 have cb:=can db hb
 have cc:=can dc hc
 have hgcd:((n'.gcd (x.a.tdiv g).natAbs).gcd (x.b.tdiv g).natAbs).gcd (x.c.tdiv g).natAbs=1:=by
  rw[PZ,PZ,PZ,hn',EM g0 dn da,EM g0 (Nat.dvd_gcd dn da) db,EM g0 (Nat.dvd_gcd (Nat.dvd_gcd dn da) db) dc,<-hg2]
  exact Nat.div_self g0
 have hdv:n'∣L.toNat:=by
  have key:∀{y v:Int},y*L=v*n'->n'∣y.natAbs*L.toNat:=fun {y v} h=>by
   refine⟨v.natAbs,?_⟩
   have:=congrArg Int.natAbs h
   rw[Int.natAbs_mul,Int.natAbs_mul,Int.natAbs_natCast]at this
   rw[show L.toNat=L.natAbs by omega,this,Yl]
  have h1:n'∣n'*L.toNat:=Nat.dvd_mul_right ..
  have:=Nat.dvd_gcd (Nat.dvd_gcd (Nat.dvd_gcd h1 (key ca)) (key cb)) (key cc)
  rw[Nat.gcd_mul_right,Nat.gcd_mul_right,Nat.gcd_mul_right,hgcd,Y2]at this
  exact this
 have nL:n'<=L.toNat:=Nat.le_of_dvd (by omega) hdv
 have sa':=BO (n:=n') (L:=L) (by omega) (by omega) ca sa
 have sb':=BO (n:=n') (L:=L) (by omega) (by omega) cb sb
 have sc':=BO (n:=n') (L:=L) (by omega) (by omega) cc sc
 have eD:QP x (J3 x)=⟨x.a.tdiv g,x.b.tdiv g,x.c.tdiv g,0,0,0,n'⟩:=by
  rw[<-hg,QP,hd,he,hf,tn];simp
 have bad:∀{y:Int},sm y->K3 y=false:=fun h=>by
  simp only[K3,K5,decide_eq_false_iff_not];unfold sm at h;omega
 have hchk:Y4 (QP x (J3 x))=0:=by
  rw[eD,Y4,if_neg (by simp only;omega),if_neg,if_neg]
  ·simp only[J3,Yj,Int.natAbs_zero,Nat.gcd_zero_right]
   rw[hgcd];decide
  ·simp only[bad sa',bad sb',bad sc']
   decide
 unfold Jf
 rw[if_pos hchk]
 refine⟨rfl,hchk,?_,?_,?_,?_,?_,?_⟩ <;> rw[eD]
 ·exact ca
 ·exact cb
 ·exact cc
theorem Rep.n_rng{L:Int}{r:Rt}{a b c:Int}(h:Rep L r a b c):1<=r.n/\r.n<=1000:=(VW h.ok).1
theorem Hj{L s:Int}{x y:Rt}{a b c a' b' c':Int}(hL:1<=L/\L<=1000)(hx:Rep L x a b c)(hy:Rep L y a' b' c')(sa:sm (a+s*a'))(sb:sm (b+s*b'))(sc:sm (c+s*c')):
 (KQ x y s).2=0/\Rep L (KQ x y s).1 (a+s*a') (b+s*b') (c+s*c'):=by
 have nx:=hx.n_rng
 have ny:=hy.n_rng
 unfold KQ
 rw[if_neg (by rw[hx.ok];decide),if_neg (by rw[hy.ok];decide)]
 have key:∀{u v p q:Int},u*L=p*x.n->v*L=q*y.n->(u*y.n+s*v*x.n)*L=(p+s*q)*(x.n*y.n):=fun {u v p q} h1 h2=>by
  have e1:(u*y.n+s*v*x.n)*L=(u*L)*y.n+s*(v*L)*x.n:=by grind
  rw[e1,h1,h2];grind
 refine Ly hL ?_ (key hx.ha hy.ha) (key hx.hb hy.hb) (key hx.hc hy.hc) ?_ ?_ ?_ sa sb sc
 ·have:=Int.mul_pos (show 0<x.n by omega) (show 0<y.n by omega)
  exact this
 ·show x.d*y.n+s*y.d*x.n=0
  rw[hx.hd,hy.hd];simp
 ·show x.e*y.n+s*y.e*x.n=0
  rw[hx.he,hy.he];simp
 ·show x.f*y.n+s*y.f*x.n=0
  rw[hx.hf,hy.hf];simp
theorem IZ{n p q:Nat}(h1:1<=n)(h2:n<4611686018427387904)(hp:p<=q):(lN n p).1*2^(q-p)<=(lN n q).1/\(lN n q).2<=(lN n p).2*2^(q-p):=by
 unfold lN
 by_cases c:Qa (n:Int)=true
 ·rw[if_pos c,if_pos c]
  have e:lgK n*2^p*2^(q-p)=lgK n*2^q:=by
   rw[YA,<-Yo];congr 2;omega
  simp only
  rw[e];exact⟨Yt _,Yt _⟩
 ·rw[if_neg c,if_neg c]
  have hk:lgK n<62:=WX (by decide) h2
  have eM:(2:Nat)^(2*q+64)=2^(2*p+64)*2^(2*(q-p)):=by
   rw[<-Yo];congr 1;omega
  have eA:n*2^(2*q+64-lgK n)=2^(2*(q-p))*(n*2^(2*p+64-lgK n)):=by
   rw[show 2*q+64-lgK n=2*(q-p)+(2*p+64-lgK n)by omega,Yo,Jd]
  have:=EU (2^(2*p+64)) (2^(2*(q-p))) false (Jh _) (Jh _) (q-p) p (n*2^(2*p+64-lgK n)) (n*2^(2*p+64-lgK n)) (lgK n) _ _ (Yx eA.symm) (Yt _) (Yx eA)
  rw[<-eM,show p+(q-p)=q by omega]at this
  exact this
theorem G2(g:Nat->Nat)(c:Nat):∀l:List (Int×Int),upS (fun n=>g n*c) l=upS g l*c/\dnS (fun n=>g n*c) l=dnS g l*c
 | []=>by simp [upS,dnS]
 |x::l=>by
  obtain⟨a,b⟩:=G2 g c l
  rw[upS,dnS,upS,dnS,a,b]
  constructor
  ·split
   ·simp
   ·rw[YM,Vh]
  ·split
   ·rw[YM,Vh]
   ·simp
def hiN(n:Nat):Nat:=(lN n 2048).2
def loN(n:Nat):Nat:=(lN n 2048).1
def KB:Nat:=2^2048
def DD:Nat:=2^(2048-100)
def C48:Nat:=2^(2048-48)
theorem Ho{n:Nat}(h1:1<=n)(h2:n<4611686018427387904):2^loN n<=n^KB/\n^KB<=2^hiN n:=by
 have h:=MR (p:=2048) h1 h2
 unfold loN hiN KB
 exact h
theorem YaV{a b c:Nat}(h:a=b+c):(2:Nat)^a=2^b*2^c:=by rw[h,Yo]
theorem KB_is:KB=2^100*DD/\C48=2^52*DD:=by
 have e1:2048=100+(2048-100):=rfl
 have e2:2048-48=52+(2048-100):=rfl
 have h1:=YaV e1
 have h2:=YaV e2
 unfold KB C48 DD
 exact⟨h1,h2⟩
theorem MZ{n:Nat}(h:Qw 100 n):hiN n<=loN n+DD:=by
 unfold hiN loN DD
 exact h
theorem OG{n:Nat}(h:Qw 48 n):hiN n<=loN n+C48:=by
 unfold hiN loN C48
 exact h
theorem Yjm{n:Nat}(h1:1<=n)(h2:n<4611686018427387904):loN n<=hiN n/\hiN n<=64*KB:=by
 have h:=Lc (p:=2048) h1 h2
 unfold hiN loN KB
 exact h
theorem YdL:0<KB:=by
 have h:=Jh 2048
 unfold KB
 exact h
attribute [irreducible] KB DD C48
theorem Tc{l:List (Int×Int)}(hl:∀x,x∈l->okU x){p:Nat}{lo hi:Nat->Nat}(hlo:∀n,1<=n->n<4611686018427387904->lo n*2^p<=loN n)(hhi:∀n,1<=n->n<4611686018427387904->hiN n<=hi n*2^p)
 (h:upS hi l<dnS lo l):upS hiN l<dnS loN l:=by
 have a:=(G1 (g:=hiN) (h:=fun n=>hi n*2^p) hhi l hl).1
 have b:=(G1 (g:=fun n=>lo n*2^p) (h:=loN) hlo l hl).2
 rw[(G2 hi _ l).1]at a
 rw[(G2 lo _ l).2]at b
 have:=ZB h (Jh p)
 omega
theorem YnT{l:List (Int×Int)}(hl:∀x,x∈l->okU x)(hn:l.length<=20):∀(f p:Nat),1<=f->1<=p->p*2^f=4096->QU f l p= -1->upS hiN l<dnS loN l:=by
 intro f
 induction f with
 |zero=>intro p h;omega
 |succ f ih=>
  intro p _ hp1 hp
  have h1:=Jh f
  rw[YH]at hp
  have hp2:p<=2048:=by
   have:p*2<=p*(2^f*2):=Yz _ (by omega)
   omega
  have hs:=Yci (p:=p) hp2 hl (by omega)
  rw[QU,hs]
  dsimp only
  by_cases c1:dnS (fun n=>(lN n p).2) l<upS (fun n=>(lN n p).1) l
  ·rw[if_pos c1]
   exact fun h=>absurd h (by decide)
  ·rw[if_neg c1]
   by_cases c2:upS (fun n=>(lN n p).2) l<dnS (fun n=>(lN n p).1) l
   ·intro _
    exact Tc hl (p:=2048-p) (fun n a b=>(IZ a b hp2).1) (fun n a b=>(IZ a b hp2).2) c2
   ·rw[if_neg c2]
    rcases Jc f with h0|h0
    ·subst h0
     exact fun h=>absurd h (by rw[QU];decide)
    ·exact ih (2*p) h0 (by omega) (by rw[<-hp,Yl 2 p,YA,Yl 2])
theorem YnV{l:List (Int×Int)}(hl:∀x,x∈l->okU x)(hn:l.length<=20)(h:Qf l= -1):upS hiN l<dnS loN l:=by
 have hg:=Iq hl (by omega)
 unfold Qf at h
 by_cases c1:dnS (fun n=>(qN n).2) l<upS (fun n=>(qN n).1) l
 ·rw[if_pos c1]at hg
  rw[hg,if_pos rfl]at h
  exact absurd h (by decide)
 ·rw[if_neg c1]at hg
  by_cases c2:upS (fun n=>(qN n).2) l<dnS (fun n=>(qN n).1) l
  ·exact Tc hl (p:=2048-28) (fun n a b=>(I1 a b (by decide)).1) (fun n a b=>(I1 a b (by decide)).2) c2
  ·rw[if_neg c2]at hg
   rw[hg,if_neg (by decide)]at h
   by_cases c3:WG l=true
   ·rw[if_pos c3]at h
    exact absurd h (by decide)
   ·rw[if_neg c3]at h
    exact YnT hl hn 6 64 (by decide) (by decide) (by decide) h
theorem AR{l:List (Int×Int)}(hl:∀x,x∈l->okU x)(hn:l.length<=20):0<=Qf l↔dnS loN l<=upS hiN l:=by
 obtain⟨g1,g2,g3,g4⟩:=Yb1 hl hn
 constructor
 ·intro h
  refine XF fun hlt=>?_
  obtain⟨⟨a1,a2⟩,b1,b2⟩:=VG (K:=KB) (g:=loN) (h:=hiN) (fun n k1 k2=>Ho k1 k2) l hl
  have hP:=Vp a2 b1 hlt
  rcases g4 with e|e|e
  ·have:=g1 e;omega
  ·omega
  ·rcases g3 e with o|o
   ·have:=LX hl hn o;omega
   ·have:dnS loN l<=upS hiN l:=o.2
    omega
 ·intro h
  rcases g4 with e|e|e
  ·omega
  ·have:=YnV hl hn e;omega
  ·omega
theorem Cr{b:Nat}(e:Nat->Nat):∀{r:List Nat},(∀x,x∈r->YI b x=1)->YI b (PV e r)=1
 | [],_=>by simp [PV]
 |c::r,h=>by
  have h1:Nat.Coprime b c:=h c (KR ..)
  have h2:Nat.Coprime b (PV e r):=Cr e fun x hx=>h x (KX _ hx)
  exact Nat.Coprime.mul_right (Nat.Coprime.pow_right _ h1) h2
theorem Ng{b x y P P':Nat}(hb:2<=b)(h1:YI b P=1)(hP:0<P)(h:b^x*P=b^y*P'):y<=x:=by
 refine XF fun hlt=>?_
 obtain⟨d,rfl⟩:∃d,y=x+(d+1):=⟨y-x-1,by omega⟩
 rw[Yo,YA]at h
 have h2:=Nat.eq_of_mul_eq_mul_left (YB (by omega)) h
 have h3:b∣P:=by rw[h2,YH,Vh];exact Nat.dvd_mul_left ..
 have h4:b∣YI b P:=Nat.dvd_gcd (Nat.dvd_refl b) h3
 rw[h1]at h4
 have:=Nat.le_of_dvd (by decide) h4
 omega
theorem FY{e:Nat->Nat}:∀{r:List Nat},(∀x,x∈r->2<=x)->0<PV e r
 | [],_=>by simp [PV]
 |b::r,h=>Y1 (YB (by have:=h b (KR ..);omega)) (FY fun x hx=>h x (KX _ hx))
theorem FX{e e':Nat->Nat}:∀{r:List Nat},Cop r->(∀x,x∈r->2<=x)->PV e r=PV e' r->∀b,b∈r->e b=e' b
 | [],_,_,_,b,hb=>by cases hb
 |c::r,hc,h2,h,b,hb=>by
  obtain⟨g1,g2⟩:=List.pairwise_cons.1 hc
  have h2':∀x,x∈r->2<=x:=fun x hx=>h2 x (KX _ hx)
  have hc2:=h2 c (KR ..)
  rw[PV,PV]at h
  have l1:=Ng hc2 (Cr e g1) (FY h2') h
  have l2:=Ng hc2 (Cr e' g1) (FY h2') h.symm
  have he:e c=e' c:=Nat.le_antisymm l2 l1
  rw[he]at h
  have h3:=Nat.eq_of_mul_eq_mul_left (YB (by omega)) h
  rcases Kz.1 hb with rfl|hb
  ·exact he
  ·exact FX g2 h2' h3 b hb
theorem YkE{l:List (Int×Int)}(hl:∀x,x∈l->okU x)(hn:l.length<=20):WG l=true↔upP l=dnP l:=by
 refine⟨LX hl hn,fun h=>?_⟩
 have hT:∀x,x∈l->okT x:=fun x hx=>O8 (hl x hx)
 obtain⟨hc,hs⟩:=Sk hT hn
 have hr:=CV hT hn
 obtain⟨e1,e2⟩:=NZ hc (fun x hx=>(hr x hx).1) l fun x hx=>⟨hl x hx,hs x hx⟩
 rw[e1,e2]at h
 refine VJ.2 fun b hb=>decide_eq_true ?_
 have hb2:=hr b hb
 unfold X8
 rw[PP hb2.1 hb2.2 l 0 hl (by omega) (by omega) (by omega),FX hc (fun x hx=>(hr x hx).1) h b hb]
 omega
end Go.Proofs.YtlhmikjnholpnaaGreatDoor
set_option maxRecDepth 100000
namespace Go.Proofs.YtlhmikjnholpnaaGreatDoor.LS
theorem Sn(Q:Nat):∀n,Q^n*(Q+n)<=Q*(Q+1)^n
 |0=>by simp
 |n+1=>by
  have ih:=Sn Q n
  have h1:Q^(n+1)*(Q+(n+1))=Q*(Q^n*(Q+n))+Q*Q^n:=by
   rw[YH,<-Zk,Ka,Y0,Yl (Q^n) Q,YA]
  have h2:Q*(Q+1)^(n+1)=Q*(Q*(Q+1)^n)+Q*(Q+1)^n:=by
   rw[YH,Ka,Y0,Ka,Yl ((Q+1)^n) Q]
  have h3:=Yz Q (YG (show Q<=Q+1 by omega) n)
  have h4:=Yz Q ih
  omega
theorem CW(Q:Nat):∀n,(Q+1)^n*(Q+1-n)<=Q^n*(Q+1)
 |0=>by simp
 |n+1=>by
  have ih:=CW Q n
  rcases YY Q n with h|h
  ·have:Q+1-(n+1)=0:=by omega
   rw[this,ZD];exact JJ _
  ·obtain⟨r,rfl⟩:∃r,Q=n+r:=⟨Q-n,by omega⟩
   have e1:n+r+1-(n+1)=r:=by omega
   have e2:n+r+1-n=r+1:=by omega
   rw[e2]at ih
   rw[e1,YH,YH]
   have h1:=Yp (n+r) ih
   have h2:(n+r+1)*r<=(r+1)*(n+r):=by grind
   have h3:=Yz ((n+r+1)^n) h2
   grind
theorem Bo{a b c d e f:Nat}(hd:0<d)(h1:a*d<=c*b)(h2:c*f<=e*d):a*f<=e*b:=by
 refine Ki (c:=d) ?_ hd
 have k1:=Yp f h1
 have k2:=Yp b h2
 have e1:a*f*d=a*d*f:=by ac_rfl
 have e2:c*b*f=c*f*b:=by ac_rfl
 have e3:e*b*d=e*d*b:=by ac_rfl
 omega
theorem YgH(K:Nat)(hK:0<K):(K+1)^K*(K+1)^(K+1)<=(K+2)^(K+1)*K^K:=by
 have h:=CW (K*(K+2)) K
 have e0:K*(K+2)+1=(K+1)*(K+1):=by grind
 rw[e0,Yq,Yq]at h
 have e1:(K+1)*(K+1)-K=K*K+K+1:=by
  have:(K+1)*(K+1)=K*K+K+1+K:=by grind
  omega
 rw[e1]at h
 have h2:=Yp (K+2) h
 have h3:(K+1)*(K+1)*(K+1)<=(K*K+K+1)*(K+2):=by grind
 have h4:=Yz ((K+1)^K*(K+1)^K) h3
 rw[YH (K+1),YH (K+2)]
 refine Ki (c:=(K+1)*(K+1)) ?_ (Y1 (by omega) (by omega))
 generalize(K+1)^K=x at*
 generalize(K+2)^K=y at*
 generalize K^K=z at*
 generalize K+1=p at*
 generalize K*K+K+1=r at*
 generalize K+2=q at*
 have e2:x*(x*p)*(p*p)=x*x*(p*p*p):=by ac_rfl
 have e3:y*q*z*(p*p)=z*y*(p*p)*q:=by ac_rfl
 have e4:x*x*r*q=x*x*(r*q):=by ac_rfl
 omega
theorem YgG(n:Nat):(n+2)^(n+2)*n^(n+1)<=(n+1)^(n+1)*(n+1)^(n+2):=by
 rcases Jc n with rfl|hn
 ·decide
 have h:=Sn (n*(n+2)) (n+1)
 have e0:n*(n+2)+1=(n+1)*(n+1):=by grind
 rw[e0,Yq,Yq]at h
 have h2:=Yp (n+2) h
 have h3:n*(n+2)*(n+2)<=(n+1)*(n*(n+2)+(n+1)):=by grind
 have h4:=Yz ((n+1)^(n+1)*(n+1)^(n+1)) h3
 rw[YH (n+2) (n+1),YH (n+1) (n+1)]
 refine Ki (c:=n*(n+2)+(n+1)) ?_ (by omega)
 generalize(n+1)^(n+1)=x at*
 generalize(n+2)^(n+1)=y at*
 generalize n^(n+1)=z at*
 generalize n*(n+2)+(n+1)=r at*
 generalize n+1=p at*
 generalize n+2=q at*
 have e2:y*q*z*r=z*y*r*q:=by ac_rfl
 have e3:x*(x*p)*r=x*x*(p*r):=by ac_rfl
 have e4:n*q*(x*x)*q=x*x*(n*q*q):=by ac_rfl
 omega
theorem RQ(K:Nat)(hK:0<K):∀j,(K+1)^K*(K+j)^(K+j)<=(K+j+1)^(K+j)*K^K
 |0=>Yt _
 |j+1=>Bo (YB (show 0<K+j by omega)) (RQ K hK j) (YgH (K+j) (by omega))
theorem Sf(n:Nat)(hn:0<n):∀j,(n+j+1)^(n+j+1)*n^(n+1)<=(n+1)^(n+1)*(n+j)^(n+j+1)
 |0=>Yx rfl
 |j+1=>by
  refine Bo (YB (n:=n+j+1) (show 0<n+j by omega)) ?_ (Sf n hn j)
  have h:=YgG (n+j)
  have e1:n+(j+1)+1=n+j+2:=by omega
  have e2:n+(j+1)=n+j+1:=by omega
  rw[e1,e2]
  exact h
theorem ab(m:Nat):(m+1)^m*m^(m+1)<=(m+1)^(m+1)*m^m:=by
 rw[YH,YH]
 have h:=Yz ((m+1)^m*m^m) (show m<=m+1 by omega)
 generalize(m+1)^m=x at*
 generalize m^m=y at*
 have e1:x*(y*m)=x*y*m:=by ac_rfl
 have e2:x*(m+1)*y=x*y*(m+1):=by ac_rfl
 omega
theorem Tw(K n:Nat):(K+1)^K*n^(n+1)<=(n+1)^(n+1)*K^K:=by
 rcases Jc K with rfl|hK
 ·have:=YG (show n<=n+1 by omega) (n+1)
  simpa using this
 rcases Jc n with rfl|hn
 ·simp
 rcases Nat.le_total K n with h|h
 ·obtain⟨j,rfl⟩:∃j,n=K+j:=⟨n-K,by omega⟩
  exact Bo (YB (n:=K+j) (show 0<K+j by omega)) (RQ K hK j) (ab (K+j))
 ·obtain⟨j,rfl⟩:∃j,K=n+j:=⟨K-n,by omega⟩
  refine Bo (YB (n:=n+j+1) (show 0<n+j by omega)) (ab (n+j)) (Sf n hn j)
def A(L N:Nat):Nat->Nat->Nat
 |0,_=>0
 |d+1,s=>A L N d s*N+L/(d+1)*s^(d+1)
def Mul(L d:Nat):Prop:=∀i,i<d->L/(i+1)*(i+1)=L
theorem Mul.pred{L d:Nat}(h:Mul L (d+1)):Mul L d:=fun i hi=>h i (by omega)
theorem A_0(L N:Nat):∀d,A L N d 0=0
 |0=>rfl
 |d+1=>by rw[A,A_0 L N d,YH];simp
theorem Yat(s:Nat):∀d,(s+1)^(d+1)<=s^(d+1)+(d+1)*(s+1)^d
 |0=>by simp
 |d+1=>by
  have ih:=Yp (s+1) (Yat s d)
  have h:=YG (show s<=s+1 by omega) (d+1)
  rw[YH (s+1) (d+1),YH s (d+1)]
  have e:(s^(d+1)+(d+1)*(s+1)^d)*(s+1)=s^(d+1)*s+s^(d+1)+(d+1)*((s+1)^d*(s+1)):=by grind
  rw[YH (s+1) d]at*
  have e2:(d+1+1)*((s+1)^d*(s+1))=(d+1)*((s+1)^d*(s+1))+(s+1)^d*(s+1):=by grind
  omega
theorem Yap(s:Nat):∀d,s^(d+1)+(d+1)*s^d<=(s+1)^(d+1)
 |0=>by simp
 |d+1=>by
  have ih:=Yp (s+1) (Yap s d)
  rw[YH (s+1) (d+1),YH s (d+1)]
  have e:(s^(d+1)+(d+1)*s^d)*(s+1)=s^(d+1)*s+s^(d+1)+(d+1)*(s^d*s)+(d+1)*s^d:=by grind
  rw[YH s d]at*
  have e2:(d+1+1)*(s^d*s)=(d+1)*(s^d*s)+s^d*s:=by grind
  omega
theorem Rw(L v s:Nat):∀d,Mul L d->v*A L (v+s+1) d (s+1)+L*(s+1)^d<=v*A L (v+s+1) d s+L*(v+s+1)^d
 |0,_=>by simp [A]
 |d+1,hL=>by
  have ih:=Yp (v+s+1) (Rw L v s d hL.pred)
  have ht:=hL d (by omega)
  have hp:=Yz (v*(L/(d+1))) (Yat s d)
  rw[A,A,YH (v+s+1)]
  generalize A L (v+s+1) d (s+1)=x at*
  generalize A L (v+s+1) d s=y at*
  generalize L/(d+1)=t at*
  rw[YH (s+1)]at*
  generalize(s+1)^d=p at*
  generalize s^(d+1)=q at*
  generalize(v+s+1)^d=r at*
  have e1:v*t*(q+(d+1)*p)=v*t*q+v*p*(t*(d+1)):=by grind
  rw[e1,ht]at hp
  grind
theorem Ru(L w s:Nat):∀d,Mul L d->w*A L (w+s) d s+L*(w+s)^d<=w*A L (w+s) d (s+1)+L*s^d
 |0,_=>by simp [A]
 |d+1,hL=>by
  have ih:=Yp (w+s) (Ru L w s d hL.pred)
  have ht:=hL d (by omega)
  have hp:=Yz (w*(L/(d+1))) (Yap s d)
  rw[A,A,YH (w+s)]
  generalize A L (w+s) d (s+1)=x at*
  generalize A L (w+s) d s=y at*
  generalize L/(d+1)=t at*
  rw[YH s]at*
  generalize(s+1)^(d+1)=p at*
  generalize s^d=q at*
  generalize(w+s)^d=r at*
  have e1:w*t*(q*s+(d+1)*q)=w*t*(q*s)+w*q*(t*(d+1)):=by grind
  rw[e1,ht]at hp
  grind
theorem Cm(L N:Nat){s t:Nat}(h:s<=t):∀d,A L N d s<=A L N d t
 |0=>Yt _
 |d+1=>Nat.add_le_add (Yp _ (Cm L N h d)) (Yz _ (YG h _))
theorem YkG{K n a W:Nat}(h:(n+1)*a<=W):(K+1)^(K*a)*n^W<=(n+1)^W*K^(K*a):=by
 have h1:=YG (Tw K n) a
 rw[Yq,Yq,<-Ym,<-Ym,<-Ym,<-Ym]at h1
 obtain⟨r,rfl⟩:∃r,W=(n+1)*a+r:=⟨W-(n+1)*a,by omega⟩
 rw[Yo,Yo]
 have h2:=YX h1 (YG (show n<=n+1 by omega) r)
 refine Yh (Yx ?_) (Yh h2 (Yx ?_)) <;> ac_rfl
theorem YkD{K n a W:Nat}(hn:0<n)(h:W<=n*a):(n+1)^W*K^((K+1)*a)<=(K+1)^((K+1)*a)*n^W:=by
 have h1:=YG (Tw n K) a
 rw[Yq,Yq,<-Ym,<-Ym,<-Ym,<-Ym]at h1
 obtain⟨r,hr⟩:∃r,n*a=W+r:=⟨n*a-W,by omega⟩
 rw[hr,Yo,Yo]at h1
 have h2:=YG (show n<=n+1 by omega) r
 refine Ki (c:=n^r) ?_ (YB hn)
 have h3:=Yz ((n+1)^W*K^((K+1)*a)) h2
 refine Yh h3 (Yh (Yx ?_) (Yh h1 (Yx ?_))) <;> ac_rfl
theorem YbL(L K N d:Nat)(hL:Mul L d):∀s,s+1<=N->(K+1)^(K*A L N d s)*(N-1-s)^(L*N^d)<=(N-1)^(L*N^d)*K^(K*A L N d s)
 |0,_=>by rw[A_0];simp
 |s+1,hs=>by
  have ih:=YbL L K N d hL s (by omega)
  obtain⟨n,rfl⟩:∃n,N=n+s+2:=⟨N-s-2,by omega⟩
  have hu:=Rw L (n+1) s d hL
  rw[show n+1+s+1=n+s+2 by omega]at hu
  have hm:=Cm L (n+s+2) (show s<=s+1 by omega) d
  rw[show n+s+2-1-s=n+1 by omega]at ih
  rw[show n+s+2-1-(s+1)=n by omega]
  obtain⟨a,ha⟩:∃a,A L (n+s+2) d (s+1)=A L (n+s+2) d s+a:=⟨_,(Nat.add_sub_cancel' hm).symm⟩
  rw[ha,Ka]at hu
  have h1:=YkG (K:=K) (n:=n) (a:=a) (W:=L*(n+s+2)^d) (by omega)
  rw[ha,Ka,Yo,Yo]
  refine Ki (c:=(n+1)^(L*(n+s+2)^d)) ?_ (YB (by omega))
  have h2:=YX ih h1
  refine Yh (Yx ?_) (Yh h2 (Yx ?_)) <;> ac_rfl
theorem YbK(L K N d T S:Nat)(hL:Mul L d)(hS:S<N)(hT:L*S^d<=T*(N-S)):∀s,s<=S->(N+1)^(L*N^d)*K^((K+1)*(A L N d s+T*s))<=(K+1)^((K+1)*(A L N d s+T*s))*(N+1-s)^(L*N^d)
 |0,_=>by rw[A_0];simp
 |s+1,hs=>by
  have ih:=YbK L K N d T S hL hS hT s (by omega)
  obtain⟨n,rfl⟩:∃n,N=n+s:=⟨N-s,by omega⟩
  have hd:=Ru L n s d hL
  have hm:=Cm L (n+s) (show s<=s+1 by omega) d
  obtain⟨a,ha⟩:∃a,A L (n+s) d (s+1)=A L (n+s) d s+a:=⟨_,(Nat.add_sub_cancel' hm).symm⟩
  rw[ha,Ka]at hd
  have hp:L*s^d<=T*n:=Yh (Yz _ (YG (by omega) _)) (Yh hT (Yz _ (by omega)))
  rw[show n+s+1-s=n+1 by omega]at ih
  rw[show n+s+1-(s+1)=n by omega]
  have h1:=YkD (K:=K) (n:=n) (a:=a+T) (W:=L*(n+s)^d) (by omega) (by rw[Ka,Yl n T];omega)
  have e:A L (n+s) d (s+1)+T*(s+1)=A L (n+s) d s+T*s+(a+T):=by rw[ha,Ka];omega
  rw[e,Ka (K+1),Yo,Yo]
  refine Ki (c:=(n+1)^(L*(n+s)^d)) ?_ (YB (by omega))
  have h2:=YX ih h1
  refine Yh (Yx ?_) (Yh h2 (Yx ?_)) <;> ac_rfl
theorem Cl(L N M u:Nat):∀d,A L (N*M) d (u*M)=M^d*A L N d u
 |0=>by simp [A]
 |d+1=>by
  rw[A,A,Cl L N M u d,Yq]
  generalize A L N d u=x
  generalize L/(d+1)=t
  rw[YH M,Ka]
  congr 1 <;> ac_rfl
theorem lim{X Y W:Nat}(h:∀M,0<M->Y*M^W<=X*(M+1)^W):Y<=X:=by
 refine XF fun hlt=>?_
 have h1:=h (Y*W+W+1) (by omega)
 obtain⟨M,hM⟩:∃M,M=Y*W+W+1:=⟨_,rfl⟩
 rw[<-hM]at h1
 have h2:=CW M W
 have hp:0<M^W:=YB (by omega)
 have k1:=Yp (M+1-W) h1
 have k2:=Yz X h2
 have k3:Y*(M+1-W)<=X*(M+1):=by
  refine Vg (c:=M^W) ?_ hp
  refine Yh (Yx ?_) (Yh k1 (Yh (Yx ?_) (Yh k2 (Yx ?_)))) <;> ac_rfl
 have k4:=Yp (M+1) (show X+1<=Y from hlt)
 rw[Nat.mul_sub]at k3
 rw[YM]at k4
 have:Y*W<M+1:=by omega
 omega
theorem GP{a b n:Nat}(hn:0<n)(h:a^n<=b^n):a<=b:=(ZF (by omega)).1 h
theorem Ok{L K N d u:Nat}(hL:Mul L d)(hu:u<N):(K+1)^(K*A L N d u)*(N-u)^(L*N^d)<=N^(L*N^d)*K^(K*A L N d u):=by
 have h1:∀M,0<M->(K+1)^(K*A L N d u)*(N*M-1-u*M)^(L*N^d)<=(N*M-1)^(L*N^d)*K^(K*A L N d u):=fun M hM=>by
  have h:=YbL L K (N*M) d hL (u*M) (by have:=ZB hu hM;omega)
  rw[Cl]at h
  have e1:K*(M^d*A L N d u)=K*A L N d u*M^d:=by ac_rfl
  have e2:L*(N*M)^d=L*N^d*M^d:=by rw[Yq];ac_rfl
  rw[e1,e2,Ym _ _ (M^d),Ym _ _ (M^d),Ym _ _ (M^d),Ym _ _ (M^d),<-Yq,<-Yq]at h
  exact GP (YB hM) h
 refine lim (W:=L*N^d) fun M hM=>?_
 have h:=h1 (M+1) (by omega)
 obtain⟨v,rfl⟩:∃v,N=v+u+1:=⟨N-u-1,by omega⟩
 have e1:v+u+1-u=v+1:=by omega
 have e2:(v+u+1)*(M+1)-1-u*(M+1)=(v+1)*M+v:=by
  have:(v+u+1)*(M+1)=(v+1)*M+v+1+u*(M+1):=by grind
  omega
 rw[e2]at h
 rw[e1]
 have k1:((v+1)*M)^(L*(v+u+1)^d)<=((v+1)*M+v)^(L*(v+u+1)^d):=YG (by omega) _
 have k2:((v+u+1)*(M+1)-1)^(L*(v+u+1)^d)<=((v+u+1)*(M+1))^(L*(v+u+1)^d):=YG (by omega) _
 rw[Yq]at k1 k2
 generalize L*(v+u+1)^d=W at*
 have k3:=Yz ((K+1)^(K*A L (v+u+1) d u)) k1
 have k4:=Yp (K^(K*A L (v+u+1) d u)) k2
 refine Yh (Yx ?_) (Yh k3 (Yh h (Yh k4 (Yx ?_)))) <;> ac_rfl
theorem Oj{L K N d u t:Nat}(hL:Mul L (d+1))(hu:u<N)(ht:L*u^(d+1)<=t*(N-u)):N^(L*N^(d+1))*K^((K+1)*(A L N (d+1) u+t*u))<=(K+1)^((K+1)*(A L N (d+1) u+t*u))*(N-u)^(L*N^(d+1)):=by
 have h1:∀M,0<M->(N*M+1)^(L*N^(d+1))*K^((K+1)*(A L N (d+1) u+t*u))<=(K+1)^((K+1)*(A L N (d+1) u+t*u))*(N*M+1-u*M)^(L*N^(d+1)):=fun M hM=>by
  have h:=YbK L K (N*M) (d+1) (t*M^d) (u*M) hL (ZB hu hM) (by
   rw[<-Nat.sub_mul,Yq]
   have:=Yp (M^(d+1)) ht
   refine Yh (Yx ?_) (Yh this (Yx ?_))
   ·ac_rfl
   ·rw[YH];ac_rfl) (u*M) (Yt _)
  rw[Cl]at h
  have e1:(K+1)*(M^(d+1)*A L N (d+1) u+t*M^d*(u*M))=(K+1)*(A L N (d+1) u+t*u)*M^(d+1):=by
   have:t*M^d*(u*M)=M^(d+1)*(t*u):=by rw[YH];ac_rfl
   rw[this,<-Ka];ac_rfl
  have e2:L*(N*M)^(d+1)=L*N^(d+1)*M^(d+1):=by rw[Yq];ac_rfl
  rw[e1,e2,Ym _ _ (M^(d+1)),Ym _ _ (M^(d+1)),Ym _ _ (M^(d+1)),Ym _ _ (M^(d+1)),<-Yq,<-Yq]at h
  exact GP (YB hM) h
 refine lim (W:=L*N^(d+1)) fun M hM=>?_
 have h:=h1 M hM
 obtain⟨v,rfl⟩:∃v,N=v+u+1:=⟨N-u-1,by omega⟩
 have e1:v+u+1-u=v+1:=by omega
 have e2:(v+u+1)*M+1-u*M=(v+1)*M+1:=by
  have:(v+u+1)*M=(v+1)*M+u*M:=by grind
  omega
 rw[e2]at h
 rw[e1]
 generalize(K+1)*(A L (v+u+1) (d+1) u+t*u)=e at*
 have k1:((v+u+1)*M)^(L*(v+u+1)^(d+1))<=((v+u+1)*M+1)^(L*(v+u+1)^(d+1)):=YG (by omega) _
 have k2:((v+1)*M+1)^(L*(v+u+1)^(d+1))<=((v+1)*(M+1))^(L*(v+u+1)^(d+1)):=YG (by rw[Ka];omega) _
 rw[Yq]at k1 k2
 generalize L*(v+u+1)^(d+1)=W at*
 have k3:=Yp (K^e) k1
 have k4:=Yz ((K+1)^e) k2
 refine Yh (Yx ?_) (Yh k3 (Yh h (Yh k4 (Yx ?_)))) <;> ac_rfl
end Go.Proofs.YtlhmikjnholpnaaGreatDoor.LS
set_option maxRecDepth 100000
namespace Go.Proofs.YtlhmikjnholpnaaGreatDoor.LS
def Lo(B x y l:Nat):Prop:=(B*B+1)^(B*l)*y<=x*(B*B)^(B*l)
def Hi(B x y h:Nat):Prop:=x*(B*B)^(B*h)<=(B*B+1)^(B*h)*y
theorem Lo.mul{B x y l x' y' l':Nat}(h:Lo B x y l)(h':Lo B x' y' l'):Lo B (x*x') (y*y') (l+l'):=by
 unfold Lo at*
 rw[Ka,Yo,Yo]
 refine Yh (Yx ?_) (Yh (YX h h') (Yx ?_)) <;> ac_rfl
theorem Hi.mul{B x y l x' y' l':Nat}(h:Hi B x y l)(h':Hi B x' y' l'):Hi B (x*x') (y*y') (l+l'):=by
 unfold Hi at*
 rw[Ka,Yo,Yo]
 refine Yh (Yx ?_) (Yh (YX h h') (Yx ?_)) <;> ac_rfl
theorem Lo.cancel{B x y l z:Nat}(hz:0<z)(h:Lo B (x*z) (y*z) l):Lo B x y l:=by
 unfold Lo at*
 refine Ki (c:=z) ?_ hz
 refine Yh (Yx ?_) (Yh h (Yx ?_)) <;> ac_rfl
theorem Hi.cancel{B x y l z:Nat}(hz:0<z)(h:Hi B (x*z) (y*z) l):Hi B x y l:=by
 unfold Hi at*
 refine Ki (c:=z) ?_ hz
 refine Yh (Yx ?_) (Yh h (Yx ?_)) <;> ac_rfl
theorem Lo.mono{B x y l l':Nat}(hB:0<B)(h:Lo B x y l)(hl:l'<=l):Lo B x y l':=by
 unfold Lo at*
 obtain⟨r,rfl⟩:∃r,l=l'+r:=⟨l-l',by omega⟩
 rw[Ka,Yo,Yo]at h
 have h2:=YG (show B*B<=B*B+1 by omega) (B*r)
 have hp:0<(B*B)^(B*r):=YB (Y1 hB hB)
 refine Ki (c:=(B*B)^(B*r)) ?_ hp
 have h3:=Yz ((B*B+1)^(B*l')*y) h2
 refine Yh h3 (Yh (Yx ?_) (Yh h (Yx ?_))) <;> ac_rfl
theorem Hi.mono{B x y l l':Nat}(hB:0<B)(h:Hi B x y l)(hl:l<=l'):Hi B x y l':=by
 unfold Hi at*
 obtain⟨r,rfl⟩:∃r,l'=l+r:=⟨l'-l,by omega⟩
 rw[Ka,Yo,Yo]
 have h2:=YG (show B*B<=B*B+1 by omega) (B*r)
 have h3:=YX h h2
 refine Yh (Yx ?_) (Yh h3 (Yx ?_)) <;> ac_rfl
theorem Lo.half{B x y l m:Nat}(hB:0<B)(h:Lo B (x*x) (y*y) l)(hm:2*m<=l):Lo B x y m:=by
 have h:=Lo.mono hB h hm
 unfold Lo at*
 generalize B*B=K at*
 refine GP (n:=2) (by decide) ?_
 rw[show B*(2*m)=B*m*2 by ac_rfl,Ym _ _ 2,Ym _ _ 2]at h
 rw[Yq,Yq,Nat.pow_two x,Nat.pow_two y]
 exact h
theorem Hi.half{B x y l m:Nat}(hB:0<B)(h:Hi B (x*x) (y*y) l)(hm:l<=2*m):Hi B x y m:=by
 have h:=Hi.mono hB h hm
 unfold Hi at*
 generalize B*B=K at*
 refine GP (n:=2) (by decide) ?_
 rw[show B*(2*m)=B*m*2 by ac_rfl,Ym _ _ 2,Ym _ _ 2]at h
 rw[Yq,Yq,Nat.pow_two x,Nat.pow_two y]
 exact h
theorem Lo.one(B:Nat):Lo B 1 1 0:=by unfold Lo;simp
theorem Hi.one(B:Nat):Hi B 1 1 0:=by unfold Hi;simp
theorem Bk:∀d,∃L,0<L/\Mul L d
 |0=>⟨1,by decide,fun i hi=>absurd hi (J8 _)⟩
 |d+1=>by
  obtain⟨L,h0,h⟩:=Bk d
  refine⟨L*(d+1),Y1 h0 (by omega),fun i hi=>?_⟩
  have hd:(i+1)∣L*(d+1):=by
   rcases YY i d with h1|h1
   ·exact JY ⟨L/(i+1),by rw[Yl];exact(h i h1).symm⟩ (Nat.dvd_mul_right _ _)
   ·obtain rfl:i=d:=by omega
    exact Nat.dvd_mul_left _ _
  exact Nat.div_mul_cancel hd
theorem Yjn{B L N d u l:Nat}(hB:0<B)(h0:0<L)(hL:Mul L d)(hu:u<N)(h:l*(L*N^d)<=B*A L N d u):Lo B N (N-u) l:=by
 have h1:=Ok (K:=B*B) hL hu
 have hW:0<L*N^d:=Y1 h0 (YB (by omega))
 obtain⟨r,hr⟩:∃r,B*B*A L N d u=B*l*(L*N^d)+r:=by
  have:=Yz B h
  refine⟨B*B*A L N d u-B*l*(L*N^d),?_⟩
  rw[YA,YA]at*
  omega
 rw[hr,Yo,Yo]at h1
 generalize L*N^d=W at*
 unfold Lo
 refine GP hW ?_
 have hK:0<B*B:=Y1 hB hB
 generalize B*B=K at*
 rw[Yq,Yq,<-Ym,<-Ym]
 have h2:=YG (show K<=K+1 by omega) r
 have hp:0<K^r:=YB hK
 refine Ki (c:=K^r) ?_ hp
 have h3:=Yz ((K+1)^(B*l*W)*(N-u)^W) h2
 refine Yh h3 (Yh (Yx ?_) (Yh h1 (Yx ?_))) <;> ac_rfl
theorem YhD{B L N d u t l:Nat}(hB:0<B)(h0:0<L)(hL:Mul L (d+1))(hu:u<N)(ht:L*u^(d+1)<=t*(N-u))(h:B*(A L N (d+1) u+t*u)<=l*(L*N^(d+1)))(hl:l<=B):Hi B N (N-u) (l+1):=by
 have h1:=Oj (K:=B*B) hL hu ht
 have hW:0<L*N^(d+1):=Y1 h0 (YB (by omega))
 generalize A L N (d+1) u+t*u=a at*
 generalize L*N^(d+1)=W at*
 have ha:a<=B*W:=by
  have k1:1*a<=B*a:=Yp a hB
  have k2:=Yp W hl
  omega
 obtain⟨r,hr⟩:∃r,B*(l+1)*W=(B*B+1)*a+r:=by
  have k1:=Yz B h
  have e1:B*(l+1)*W=B*(l*W)+B*W:=by rw[Ka,Y0,YM,YA]
  have e2:(B*B+1)*a=B*(B*a)+a:=by rw[YM,Y2,YA]
  exact⟨B*(l+1)*W-(B*B+1)*a,by omega⟩
 unfold Hi
 refine GP hW ?_
 generalize B*B=K at*
 rw[Yq,Yq,<-Ym,<-Ym,hr,Yo,Yo]
 have h2:=YG (show K<=K+1 by omega) r
 have h3:=YX h1 h2
 refine Yh (Yx ?_) (Yh h3 (Yx ?_)) <;> ac_rfl
def S(B N:Nat):Nat->Nat
 |0=>0
 |d+1=>S B N d+B/N^(d+1)/(d+1)
end Go.Proofs.YtlhmikjnholpnaaGreatDoor.LS
set_option maxRecDepth 100000
namespace Go.Proofs.YtlhmikjnholpnaaGreatDoor.LS
def G(B N:Nat):Nat->Nat->Nat
 |0,y=>y
 |k+1,y=>G B N k ((B/(k+1)+y)/N)
theorem Ry(B L N:Nat):∀k y,Mul L k->G B N k y*(L*N^k)<=B*A L N k 1+L*y
 |0,y,_=>by simp [G,A,Yl]
 |k+1,y,hL=>by
  have ih:=Yp N (Ry B L N k ((B/(k+1)+y)/N) hL.pred)
  have ht:=hL k (by omega)
  have h1:=Yz L (XE (B/(k+1)+y) N)
  have h2:=Yz (L/(k+1)) (XE B (k+1))
  rw[G,A,Nat.one_pow,Y0]
  generalize(B/(k+1)+y)/N=z at*
  generalize B/(k+1)=q at*
  generalize A L N k 1=a at*
  generalize L/(k+1)=t at*
  have e1:G B N k z*(L*N^(k+1))=G B N k z*(L*N^k)*N:=by rw[YH];ac_rfl
  have e2:t*(q*(k+1))=t*(k+1)*q:=by ac_rfl
  rw[e2,ht]at h2
  rw[e1]
  grind
theorem Rx(B L N:Nat)(hN:2<=N):∀k y,Mul L k->B*A L N k 1+L*(y+2)<=(G B N k y+2)*(L*N^k)
 |0,y,_=>by simp [G,A,Yl]
 |k+1,y,hL=>by
  have ih:=Yp N (Rx B L N hN k ((B/(k+1)+y)/N) hL.pred)
  have ht:=hL k (by omega)
  have h1:B/(k+1)+y+1<=(B/(k+1)+y)/N*N+N:=by
   have:=KP (B/(k+1)+y) N
   have:=Kj (B/(k+1)+y) (show 0<N by omega)
   rw[Yl ((B/(k+1)+y)/N)];omega
  have h2:B<=(B/(k+1)+1)*(k+1):=by
   have:=KP B (k+1)
   have:=Kj B (show 0<k+1 by omega)
   rw[YM,Y2,Yl (B/(k+1))];omega
  rw[G,A,Nat.one_pow,Y0]
  generalize(B/(k+1)+y)/N=z at*
  generalize B/(k+1)=q at*
  generalize A L N k 1=a at*
  have k2:=Yz (L/(k+1)) h2
  generalize L/(k+1)=t at*
  have e1:(G B N k z+2)*(L*N^(k+1))=(G B N k z+2)*(L*N^k)*N:=by rw[YH];ac_rfl
  have e2:t*((q+1)*(k+1))=t*(k+1)*(q+1):=by ac_rfl
  rw[e2,ht]at k2
  rw[e1]
  have k1:=Yz L (show q+1+y+2<=(z+2)*N by grind)
  generalize(G B N k z+2)*(L*N^k)=g at*
  grind
theorem G_is{B N d:Nat}(hB:0<B)(hN:2<=N)(hz:B<=N^(d+1))(hs:G B N (d+1) 0+3<=B):Lo B N (N-1) (G B N (d+1) 0)/\Hi B N (N-1) (G B N (d+1) 0+4):=by
 obtain⟨L,h0,hL⟩:=Bk (d+1)
 have h1:=Ry B L N (d+1) 0 hL
 have h2:=Rx B L N hN (d+1) 0 hL
 rw[ZD,KO]at h1
 refine⟨Yjn hB h0 hL (by omega) h1,YhD (t:=L) (l:=G B N (d+1) 0+3) hB h0 hL (by omega) ?_ ?_ hs⟩
 ·rw[Nat.one_pow];exact Yz _ (by omega)
 ·have h3:B*L<=L*N^(d+1):=by rw[Yl];exact Yz _ hz
  rw[Y0,Ka,show G B N (d+1) 0+3=G B N (d+1) 0+2+1 by omega,YM (G B N (d+1) 0+2),Y2]
  omega
def hor(B N:Nat)(n:Nat):Nat->Nat:=
 Nat.rec (fun y=>y) (fun k ih y=>(fun b=>ih
  (Jb (Kg (Jb B (Kg b 1)) (Jb (Kg (Jb B (Kg b 2)) (Jb (Kg (Jb B (Kg b 3)) (Jb (Kg (Jb B (Kg b 4))
  (Jb (Kg (Jb B (Kg b 5)) (Jb (Kg (Jb B (Kg b 6)) (Jb (Kg (Jb B (Kg b 7)) (Jb (Kg (Jb B (Kg b 8)) y) N)) N)) N)) N)) N)) N)) N)) N)) (K2 8 k)) n
theorem Iz(B N:Nat):∀n y,hor B N n y=G B N (8*n) y
 |0,_=>rfl
 |n+1,y=>by
  have h:hor B N (n+1) y=hor B N n ((B/(8*n+1)+(B/(8*n+2)+(B/(8*n+3)+(B/(8*n+4)+(B/(8*n+5)+(B/(8*n+6)+(B/(8*n+7)+(B/(8*n+8)+y)/N)/N)/N)/N)/N)/N)/N)/N):=rfl
  rw[h,Iz B N n]
  rfl
def ser(B d N:Nat)(κ:Nat->Bool):Bool:=(fun y=>Bool.casesOn (Y7 B (KI N (K2 8 d))) false (Bool.casesOn (Y7 (Kg y 4) B) false (κ y))) (hor B N d 0)
theorem YbM{B d N:Nat}{κ:Nat->Bool}(hB:2<=B)(hN:2<=N)(h:ser B d N κ=true):∃y,Lo B N (N-1) y/\Hi B N (N-1) (y+4)/\κ y=true:=by
 have h:Bool.casesOn (motive:=fun _=>Bool) (Y7 B (N^(8*d))) false (Bool.casesOn (Y7 (hor B N d 0+4) B) false (κ (hor B N d 0)))=true:=h
 cases h1:Y7 B (N^(8*d))with
 |false=>rw[h1]at h;cases h
 |true=>
  rw[h1]at h
  have h:Bool.casesOn (motive:=fun _=>Bool) (Y7 (hor B N d 0+4) B) false (κ (hor B N d 0))=true:=h
  cases h2:Y7 (hor B N d 0+4) B with
  |false=>rw[h2]at h;cases h
  |true=>
   rw[h2]at h
   have h1:=KC h1
   have h2:=KC h2
   rw[Iz]at h2 h
   obtain⟨e,he⟩:∃e,8*d=e+1:=by
    cases d with
    |zero=>rw[ZD,Jk]at h1;omega
    |succ d=>exact⟨8*d+7,by omega⟩
   rw[he]at h1 h2 h
   obtain⟨a,b⟩:=G_is (by omega) hN h1 (by omega)
   exact⟨_,a,b,h⟩
def St(B a la lb e:Nat):Prop:=(Lo B a 1 la/\Hi B a 1 (la+e))/\Lo B (a+1) 1 lb/\Hi B (a+1) 1 (lb+e)
def Two(B l2:Nat):Prop:=Lo B 2 1 l2/\Hi B 2 1 (l2+4)
theorem Yek{B a la lb e l2 y:Nat}(hB:0<B)(ha:1<=a)(h:St B a la lb e)(h2:Two B l2)(hy:Lo B ((2*a+1)*(2*a+1)) ((2*a+1)*(2*a+1)-1) y/\Hi B ((2*a+1)*(2*a+1)) ((2*a+1)*(2*a+1)-1) (y+4)):
 Lo B (2*a+1) 1 ((la+lb+(l2+l2)+y)/2)/\Hi B (2*a+1) 1 ((la+lb+(l2+l2)+y)/2+(e+7)):=by
 have e1:(2*a+1)*(2*a+1)-1=2*2*a*(a+1):=by
  have:(2*a+1)*(2*a+1)=2*2*a*(a+1)+1:=by grind
  omega
 rw[e1]at hy
 have hz:0<2*2*a*(a+1):=Y1 (Y1 (by decide) ha) (by omega)
 constructor
 ·have k:=Lo.mul (Lo.mul (Lo.mul h.1.1 h.2.1) (Lo.mul h2.1 h2.1)) hy.1
  have k2:Lo B ((2*a+1)*(2*a+1)*(2*2*a*(a+1))) (1*(2*2*a*(a+1))) (la+lb+(l2+l2)+y):=by
   unfold Lo at*
   refine Yh (Yx ?_) (Yh k (Yx ?_))
   ·simp only[Y2,Y0]
   ·ac_rfl
  exact Lo.half hB (Lo.cancel hz k2) (by omega)
 ·have k:=Hi.mul (Hi.mul (Hi.mul h.1.2 h.2.2) (Hi.mul h2.2 h2.2)) hy.2
  have k2:Hi B ((2*a+1)*(2*a+1)*(2*2*a*(a+1))) (1*(2*2*a*(a+1))) (la+e+(lb+e)+(l2+4+(l2+4))+(y+4)):=by
   unfold Hi at*
   refine Yh (Yx ?_) (Yh k (Yx ?_))
   ·ac_rfl
   ·simp only[Y2,Y0]
  exact Hi.half hB (Hi.cancel hz k2) (by omega)
theorem Tb{B a l e l2:Nat}(hB:0<B)(h:Lo B a 1 l/\Hi B a 1 (l+e))(h2:Two B l2):Lo B (2*a) 1 (l+l2)/\Hi B (2*a) 1 (l+l2+(e+7)):=by
 have k1:=Lo.mul h.1 h2.1
 have k2:=Hi.mul h.2 h2.2
 rw[Yl a 2]at k1 k2
 exact⟨k1,Hi.mono hB k2 (by omega)⟩
theorem St_l{B a la lb e l2 lm:Nat}(hB:0<B)(h:St B a la lb e)(h2:Two B l2)(hm:Lo B (2*a+1) 1 lm/\Hi B (2*a+1) 1 (lm+(e+7))):St B (2*a) (la+l2) lm (e+7):=⟨Tb hB h.1 h2,hm⟩
theorem St_r{B a la lb e l2 lm:Nat}(hB:0<B)(h:St B a la lb e)(h2:Two B l2)(hm:Lo B (2*a+1) 1 lm/\Hi B (2*a+1) 1 (lm+(e+7))):St B (2*a+1) lm (lb+l2) (e+7):=by
 have:=Tb hB h.2 h2
 exact⟨hm,this⟩
def Ek(B c l2:Nat)(f:Nat):Nat->Nat->(Nat->Nat->Nat->Bool)->Bool:=
 Nat.rec (fun _ _ _=>false) (fun _ ih s a κ=>Bool.casesOn (Y7 a 1)
  (ih (Nat.pred s) (Jb a 2) (fun la lb e=>(fun m=>ser B (Nat.succ (Jb c s)) (K2 m m) (fun y=>(fun lm=>(fun e=>Bool.casesOn (YJ (KS a 2) 0) (κ lm (Kg lb l2) e) (κ (Kg la l2) lm e)) (Kg e 7)) (Jb (Kg (Kg (Kg la lb) (Kg l2 l2)) y) 2))) (Nat.succ (K2 2 (Jb a 2)))))
  (κ 0 l2 4)) f
theorem Td{B c l2:Nat}(hB:2<=B)(h2:Two B l2):∀(f s a:Nat)(κ:Nat->Nat->Nat->Bool),1<=a->Ek B c l2 f s a κ=true->∃la lb e,St B a la lb e/\κ la lb e=true
 |0,_,_,_,_,h=>by cases h
 |f+1,s,a,κ,ha,h=>by
  have h:Bool.casesOn (motive:=fun _=>Bool) (Y7 a 1) (Ek B c l2 f (s-1) (a/2) (fun la lb e=>ser B (c/s+1) ((2*(a/2)+1)*(2*(a/2)+1)) (fun y=>Bool.casesOn (motive:=fun _=>Bool) (YJ (a%2) 0) (κ ((la+lb+(l2+l2)+y)/2) (lb+l2) (e+7)) (κ (la+l2) ((la+lb+(l2+l2)+y)/2) (e+7))))) (κ 0 l2 4)=true:=h
  cases hb:Y7 a 1 with
  |true=>
   rw[hb]at h
   have:=KC hb
   obtain rfl:a=1:=by omega
   refine⟨0,l2,4,⟨⟨Lo.one B,?_⟩,h2.1,h2.2⟩,h⟩
   exact Hi.mono (by omega) (Hi.one B) (by omega)
  |false=>
   rw[hb]at h
   have ha2:2<=a:=WJ fun hh=>by rw[Nat.ble_eq_true_of_le hh]at hb;cases hb
   obtain⟨la,lb,e,hs,h⟩:=Td hB h2 f _ _ _ (by omega) h
   have hN:2<=(2*(a/2)+1)*(2*(a/2)+1):=Yh (show 2<=3*1 by decide) (YX (by omega) (by omega))
   obtain⟨y,y1,y2,h⟩:=YbM hB hN h
   have hmid:=Yek (by omega) (show 1<=a/2 by omega) hs h2 ⟨y1,y2⟩
   generalize(la+lb+(l2+l2)+y)/2=lm at*
   cases hc:YJ (a%2) 0 with
   |true=>
    simp only[hc]at h
    have h0:=Jy hc
    have:=St_l (by omega) hs h2 hmid
    rw[show 2*(a/2)=a by omega]at this
    exact⟨_,_,_,this,h⟩
   |false=>
    simp only[hc]at h
    have h0:a%2≠0:=fun e=>by rw[e]at hc;cases hc
    have:=St_r (by omega) hs h2 hmid
    rw[show 2*(a/2)+1=a by omega]at this
    exact⟨_,_,_,this,h⟩
end Go.Proofs.YtlhmikjnholpnaaGreatDoor.LS
set_option maxRecDepth 100000
namespace Go.Proofs.YtlhmikjnholpnaaGreatDoor.LS
theorem Lo.pow{B x l:Nat}(h:Lo B x 1 l)(q:Nat):Lo B (x^q) 1 (l*q):=by
 unfold Lo at*
 have h2:=YG h q
 generalize B*B=K at*
 rw[Yq,Yq,Nat.one_pow,<-Ym,<-Ym,YA]at h2
 exact h2
theorem Hi.pow{B x l:Nat}(h:Hi B x 1 l)(q:Nat):Hi B (x^q) 1 (l*q):=by
 unfold Hi at*
 have h2:=YG h q
 generalize B*B=K at*
 rw[Yq,Yq,Nat.one_pow,<-Ym,<-Ym,YA]at h2
 exact h2
theorem cmp{B x y h l:Nat}(hB:0<B)(h1:Hi B x 1 h)(h2:Lo B y 1 l)(hl:h<=l):x<=y:=by
 have h2:=Lo.mono hB h2 hl
 unfold Lo Hi at*
 rw[Y0]at h1 h2
 exact Ki (Yh h1 h2) (YB (Y1 hB hB))
end Go.Proofs.YtlhmikjnholpnaaGreatDoor.LS
