/- Temperaments, walked: fifths, notes, Notes. -/
import Derived.Test.YtnfkhknfpaamoaaGreatDoorMgX25e
import Derived.Test.YtnfkhknfpaamoaaGreatDoorMgX25d
import Derived.LaidMore
import Derived.OpenShut
import Derived.Stop.Joined
import Derived.Deep.Slices
open And renaming intro->YC3
open Array renaming getElem?_eq_some_iff->YC7
open Bool renaming and_eq_true->YC0,false_eq_true->YDa,not_eq_true'->YDe,or_eq_false_iff->YDb,or_eq_true->YDm
open Int renaming toNat_natCast->YCY,toNat_of_nonneg->YDf
open Go.IntWalk renaming i64_in->YCW,u64_in->YDl
open List renaming length_append->YDo,length_cons->YDt,mem_append->YDu,mem_cons->YDc,mem_cons_of_mem->YC9,mem_cons_self->YC8
open Nat renaming div_lt_iff_lt_mul->YDd,gcd->YDw,le_refl->YC2,lt_or_ge->YC4,mod_lt->YDs,mul_comm->YDq,reduceAdd->YCS,reduceEqDiff->YCT,reduceLeDiff->YCU,zero_le->YDy
open Go.Proofs.Tryz renaming prog->YCX
set_option linter.all false
namespace Go.Proofs.YtnfkhknfpaamoaaGreatDoor
open Go Go.Vx
set_option maxRecDepth 100000
set_option maxHeartbeats 4000000
def v89:VF:=⟨58,[.cell 2 true 84],(ZR [u1 2 (.allocArr 12 7 [(.int .i64 0),(.int .i64 0),(.int .i64 0),(.int .i64 0),(.int .i64 0),(.int .i64 0),(.int .i64 0),(.int .i64 0),(.int .i64 0),(.int .i64 0),(.int .i64 0),(.int .i64 0),(.int .i64 0),(.int .i64 0),(.int .i64 0),(.int .i64 0),(.int .i64 0),(.int .i64 0),(.int .i64 0),(.int .i64 0),(.int .i64 0),(.int .i64 0),(.int .i64 0),(.int .i64 0),(.int .i64 0),(.int .i64 0),(.int .i64 0),(.int .i64 0),(.int .i64 0),(.int .i64 0),(.int .i64 0),(.int .i64 0),(.int .i64 0),(.int .i64 0),(.int .i64 0),(.int .i64 0),(.int .i64 0),(.int .i64 0),(.int .i64 0),(.int .i64 0),(.int .i64 0),(.int .i64 0),(.int .i64 0),(.int .i64 0),(.int .i64 0),(.int .i64 0),(.int .i64 0),(.int .i64 0),(.int .i64 0),(.int .i64 0),(.int .i64 0),(.int .i64 0),(.int .i64 0),(.int .i64 0),(.int .i64 0),(.int .i64 0),(.int .i64 0),(.int .i64 0),(.int .i64 0),(.int .i64 0),(.int .i64 0),(.int .i64 0),(.int .i64 0),(.int .i64 0),(.int .i64 0),(.int .i64 0),(.int .i64 0),(.int .i64 0),(.int .i64 0),(.int .i64 0),(.int .i64 0),(.int .i64 0),(.int .i64 0),(.int .i64 0),(.int .i64 0),(.int .i64 0),(.int .i64 0),(.int .i64 0),(.int .i64 0),(.int .i64 0),(.int .i64 0),(.int .i64 0),(.int .i64 0),(.int .i64 0)]) []] (ZR [u1 10 (.call 88) [.cn (.int .i64 531441),.cn (.int .i64 524288)],u1 3 (.alloc [(.int .i64 0),(.int .i64 0),(.int .i64 0),(.int .i64 0),(.int .i64 0),(.int .i64 0),(.int .i64 0)]) [],Zs 7 3 10] (.seq (ZR [Zm 11 0,u1 12 .nilCheck [.tm 11],Za 13 1 12,Zf 14 1 13] (ZC 14 (.region [u1 15 (.call 88) [.cn (.int .i64 81),.cn (.int .i64 80)],Zs 7 3 15]) .skip)) (ZR [u1 4 (.allocArr 12 7 [(.int .i64 0),(.int .i64 0),(.int .i64 0),(.int .i64 0),(.int .i64 0),(.int .i64 0),(.int .i64 0),(.int .i64 0),(.int .i64 0),(.int .i64 0),(.int .i64 0),(.int .i64 0),(.int .i64 0),(.int .i64 0),(.int .i64 0),(.int .i64 0),(.int .i64 0),(.int .i64 0),(.int .i64 0),(.int .i64 0),(.int .i64 0),(.int .i64 0),(.int .i64 0),(.int .i64 0),(.int .i64 0),(.int .i64 0),(.int .i64 0),(.int .i64 0),(.int .i64 0),(.int .i64 0),(.int .i64 0),(.int .i64 0),(.int .i64 0),(.int .i64 0),(.int .i64 0),(.int .i64 0),(.int .i64 0),(.int .i64 0),(.int .i64 0),(.int .i64 0),(.int .i64 0),(.int .i64 0),(.int .i64 0),(.int .i64 0),(.int .i64 0),(.int .i64 0),(.int .i64 0),(.int .i64 0),(.int .i64 0),(.int .i64 0),(.int .i64 0),(.int .i64 0),(.int .i64 0),(.int .i64 0),(.int .i64 0),(.int .i64 0),(.int .i64 0),(.int .i64 0),(.int .i64 0),(.int .i64 0),(.int .i64 0),(.int .i64 0),(.int .i64 0),(.int .i64 0),(.int .i64 0),(.int .i64 0),(.int .i64 0),(.int .i64 0),(.int .i64 0),(.int .i64 0),(.int .i64 0),(.int .i64 0),(.int .i64 0),(.int .i64 0),(.int .i64 0),(.int .i64 0),(.int .i64 0),(.int .i64 0),(.int .i64 0),(.int .i64 0),(.int .i64 0),(.int .i64 0),(.int .i64 0),(.int .i64 0)]) []] (ZR [u1 16 (.call 88) [.cn (.int .i64 128),.cn (.int .i64 1)],u1 5 (.alloc [(.int .i64 0),(.int .i64 0),(.int .i64 0),(.int .i64 0),(.int .i64 0),(.int .i64 0),(.int .i64 0)]) [],Zs 7 5 16] (.seq (ZR [Zm 17 0,u1 18 .nilCheck [.tm 17],Za 19 3 18,Zt 20 24 19,Zi 21 0] (.block 0 (.loop (ZR [Zq 22 .lss 21 12] (.seq (ZC 22 .skip (.exit 0)) (.seq (.block 1 (ZR [Zm 23 21,u1 24 (.index true 12 2) [.tm 20,.tm 21],Zn 7,Zm 6 23,Zs 2 7 24] (ZR [Zm 25 6,Zm 26 0,u1 27 .nilCheck [.tm 26],Za 28 2 27,Zf 29 1 28,Zr 30 .neq 25 29] (ZC 30 (ZR [Zt 32 7 3,Za 33 0 7,Zf 34 1 33,Za 35 1 7,Zf 36 1 35,u1 37 (.call 109) [.tm 32,.tm 34,.tm 36],Zm 31 37,Ze 38 0 31,Ze 39 1 31,u1 8 (.alloc [(.int .i64 0),(.int .i64 0),(.int .i64 0),(.int .i64 0),(.int .i64 0),(.int .i64 0),(.int .i64 0)]) [],Zs 7 8 38,Zm 9 39] (.seq (.draw [] [Zu 40 6,Zw 42 7 8,w1 41 (.call 88) [.cn (.int .i64 3),.cn (.int .i64 2)],Zz 43 110 41 42,w1 44 (.idxArr 12 7) [.tm 4,.tm 40],ZS 7 44 43]) (.draw [] [Zw 45 7 5,Zu 46 6,w1 47 (.idxArr 12 7) [.tm 4,.tm 46],Zw 48 7 47,Zz 49 110 45 48,ZS 7 5 49]))) .skip)))) (.region [Zp 50 21 1,Zm 21 50]))))))) (.seq (.draw [] [Zu 51 0,w1 52 .nilCheck [.tm 51],Zy 53 2 52,Zv 54 1 53,Zw 55 7 5,w1 56 (.idxArr 12 7) [.tm 4,.tm 54],ZS 7 56 55]) (ZR [Zt 57 84 4,Zs 84 2 57] .ret))))))))⟩
theorem YCA:Yg YCX Tryz.f89=some v89:=by kernel_rfl
def v63:VF:=⟨25,[.cell 2 true 84],(ZR [u1 2 (.allocArr 12 7 [(.int .i64 0),(.int .i64 0),(.int .i64 0),(.int .i64 0),(.int .i64 0),(.int .i64 0),(.int .i64 0),(.int .i64 0),(.int .i64 0),(.int .i64 0),(.int .i64 0),(.int .i64 0),(.int .i64 0),(.int .i64 0),(.int .i64 0),(.int .i64 0),(.int .i64 0),(.int .i64 0),(.int .i64 0),(.int .i64 0),(.int .i64 0),(.int .i64 0),(.int .i64 0),(.int .i64 0),(.int .i64 0),(.int .i64 0),(.int .i64 0),(.int .i64 0),(.int .i64 0),(.int .i64 0),(.int .i64 0),(.int .i64 0),(.int .i64 0),(.int .i64 0),(.int .i64 0),(.int .i64 0),(.int .i64 0),(.int .i64 0),(.int .i64 0),(.int .i64 0),(.int .i64 0),(.int .i64 0),(.int .i64 0),(.int .i64 0),(.int .i64 0),(.int .i64 0),(.int .i64 0),(.int .i64 0),(.int .i64 0),(.int .i64 0),(.int .i64 0),(.int .i64 0),(.int .i64 0),(.int .i64 0),(.int .i64 0),(.int .i64 0),(.int .i64 0),(.int .i64 0),(.int .i64 0),(.int .i64 0),(.int .i64 0),(.int .i64 0),(.int .i64 0),(.int .i64 0),(.int .i64 0),(.int .i64 0),(.int .i64 0),(.int .i64 0),(.int .i64 0),(.int .i64 0),(.int .i64 0),(.int .i64 0),(.int .i64 0),(.int .i64 0),(.int .i64 0),(.int .i64 0),(.int .i64 0),(.int .i64 0),(.int .i64 0),(.int .i64 0),(.int .i64 0),(.int .i64 0),(.int .i64 0),(.int .i64 0)]) []] (ZR [u1 3 (.allocArr 12 7 [(.int .i64 0),(.int .i64 0),(.int .i64 0),(.int .i64 0),(.int .i64 0),(.int .i64 0),(.int .i64 0),(.int .i64 0),(.int .i64 0),(.int .i64 0),(.int .i64 0),(.int .i64 0),(.int .i64 0),(.int .i64 0),(.int .i64 0),(.int .i64 0),(.int .i64 0),(.int .i64 0),(.int .i64 0),(.int .i64 0),(.int .i64 0),(.int .i64 0),(.int .i64 0),(.int .i64 0),(.int .i64 0),(.int .i64 0),(.int .i64 0),(.int .i64 0),(.int .i64 0),(.int .i64 0),(.int .i64 0),(.int .i64 0),(.int .i64 0),(.int .i64 0),(.int .i64 0),(.int .i64 0),(.int .i64 0),(.int .i64 0),(.int .i64 0),(.int .i64 0),(.int .i64 0),(.int .i64 0),(.int .i64 0),(.int .i64 0),(.int .i64 0),(.int .i64 0),(.int .i64 0),(.int .i64 0),(.int .i64 0),(.int .i64 0),(.int .i64 0),(.int .i64 0),(.int .i64 0),(.int .i64 0),(.int .i64 0),(.int .i64 0),(.int .i64 0),(.int .i64 0),(.int .i64 0),(.int .i64 0),(.int .i64 0),(.int .i64 0),(.int .i64 0),(.int .i64 0),(.int .i64 0),(.int .i64 0),(.int .i64 0),(.int .i64 0),(.int .i64 0),(.int .i64 0),(.int .i64 0),(.int .i64 0),(.int .i64 0),(.int .i64 0),(.int .i64 0),(.int .i64 0),(.int .i64 0),(.int .i64 0),(.int .i64 0),(.int .i64 0),(.int .i64 0),(.int .i64 0),(.int .i64 0),(.int .i64 0)]) []] (ZR [u1 7 (.call 88) [.cn (.int .i64 1),.cn (.int .i64 1)],u1 4 (.alloc [(.int .i64 0),(.int .i64 0),(.int .i64 0),(.int .i64 0),(.int .i64 0),(.int .i64 0),(.int .i64 0)]) [],Zs 7 4 7] (.seq (ZR [Zm 8 0,Zc 9 89 8,Zi 10 0] (.block 0 (.loop (ZR [Zq 11 .lss 10 12] (.seq (ZC 11 .skip (.exit 0)) (.seq (.block 1 (ZR [Zm 12 10,u1 13 (.index true 12 7) [.tm 9,.tm 10],u1 6 (.alloc [(.int .i64 0),(.int .i64 0),(.int .i64 0),(.int .i64 0),(.int .i64 0),(.int .i64 0),(.int .i64 0)]) [],Zm 5 12,Zs 7 6 13] (ZR [Zm 14 5,u1 15 (.ari .mul) [.cn (.int .i64 7),.tm 14],u1 16 .rem [.tm 15,.cn (.int .i64 12)],Zt 17 7 4,Zc 18 90 17,u1 19 (.idxArr 12 7) [.tm 3,.tm 16],Zs 7 19 18] (.region [Zt 20 7 4,Zt 21 7 6,Zd 22 91 20 21,Zs 7 4 22])))) (.region [Zp 23 10 1,Zm 10 23]))))))) (ZR [Zt 24 84 3,Zs 84 2 24] .ret)))))⟩
theorem YCc:Yg YCX Tryz.f63=some v63:=by kernel_rfl
def v29:VF:=⟨13,[.tmp 2,.tmp 3],(ZR [u1 1 .box [.tm 0],u1 2 .mov [.cn .nil],Zi 3 0] (.seq (ZR [Zt 6 27 1,Zc 7 62 6,Zm 4 7] (ZR [Zm 8 4,Zq 9 .neq 8 0] (ZC 9 (ZR [Zm 10 4,u1 2 .mov [.cn .nil],Zm 3 10] .ret) .skip))) (ZR [Zc 11 63 1,u1 5 (.allocArr 12 7 [(.int .i64 0),(.int .i64 0),(.int .i64 0),(.int .i64 0),(.int .i64 0),(.int .i64 0),(.int .i64 0),(.int .i64 0),(.int .i64 0),(.int .i64 0),(.int .i64 0),(.int .i64 0),(.int .i64 0),(.int .i64 0),(.int .i64 0),(.int .i64 0),(.int .i64 0),(.int .i64 0),(.int .i64 0),(.int .i64 0),(.int .i64 0),(.int .i64 0),(.int .i64 0),(.int .i64 0),(.int .i64 0),(.int .i64 0),(.int .i64 0),(.int .i64 0),(.int .i64 0),(.int .i64 0),(.int .i64 0),(.int .i64 0),(.int .i64 0),(.int .i64 0),(.int .i64 0),(.int .i64 0),(.int .i64 0),(.int .i64 0),(.int .i64 0),(.int .i64 0),(.int .i64 0),(.int .i64 0),(.int .i64 0),(.int .i64 0),(.int .i64 0),(.int .i64 0),(.int .i64 0),(.int .i64 0),(.int .i64 0),(.int .i64 0),(.int .i64 0),(.int .i64 0),(.int .i64 0),(.int .i64 0),(.int .i64 0),(.int .i64 0),(.int .i64 0),(.int .i64 0),(.int .i64 0),(.int .i64 0),(.int .i64 0),(.int .i64 0),(.int .i64 0),(.int .i64 0),(.int .i64 0),(.int .i64 0),(.int .i64 0),(.int .i64 0),(.int .i64 0),(.int .i64 0),(.int .i64 0),(.int .i64 0),(.int .i64 0),(.int .i64 0),(.int .i64 0),(.int .i64 0),(.int .i64 0),(.int .i64 0),(.int .i64 0),(.int .i64 0),(.int .i64 0),(.int .i64 0),(.int .i64 0),(.int .i64 0)]) [],Zs 84 5 11] (ZR [u1 12 (.sliceArr 12 7 false false) [.tm 5],Zm 2 12,Zi 3 0] .ret))))⟩
theorem YBM:Yg YCX Tryz.f29=some v29:=by kernel_rfl
def YcJ(L:Nat->Rt):List SV:=encR (L 0)++(encR (L 1)++(encR (L 2)++(encR (L 3)++(encR (L 4)++(encR (L 5)++(encR (L 6)++(encR (L 7)++(encR (L 8)++(encR (L 9)++(encR (L 10)++(encR (L 11)++[])))))))))))
theorem YAB{get:Nat->List SV}:YeL 12 0 get=get 0++(get 1++(get 2++(get 3++(get 4++(get 5++(get 6++(get 7++(get 8++(get 9++(get 10++(get 11++[]))))))))))):=rfl
attribute [go_sem] YAB
theorem Yj9(L:Nat->Rt){i:Nat}(h:i<12):Yt 7 (Yl (i*7) (YcJ L))=encR (L i):=by
 rcases Yfl h with rfl|rfl|rfl|rfl|rfl|rfl|rfl|rfl|rfl|rfl|rfl|rfl <;> rfl
theorem Yrq{k:Nat}(h:k<12):YaO 7 [SV.int .i64 0,SV.int .i64 0,SV.int .i64 0,SV.int .i64 0,SV.int .i64 0,SV.int .i64 0,SV.int .i64 0,SV.int .i64 0,SV.int .i64 0,SV.int .i64 0,SV.int .i64 0,SV.int .i64 0,SV.int .i64 0,SV.int .i64 0,SV.int .i64 0,SV.int .i64 0,SV.int .i64 0,SV.int .i64 0,SV.int .i64 0,SV.int .i64 0,SV.int .i64 0,SV.int .i64 0,SV.int .i64 0,SV.int .i64 0,SV.int .i64 0,SV.int .i64 0,SV.int .i64 0,SV.int .i64 0,SV.int .i64 0,SV.int .i64 0,SV.int .i64 0,SV.int .i64 0,SV.int .i64 0,SV.int .i64 0,SV.int .i64 0,SV.int .i64 0,SV.int .i64 0,SV.int .i64 0,SV.int .i64 0,SV.int .i64 0,SV.int .i64 0,SV.int .i64 0,SV.int .i64 0,SV.int .i64 0,SV.int .i64 0,SV.int .i64 0,SV.int .i64 0,SV.int .i64 0,SV.int .i64 0,SV.int .i64 0,SV.int .i64 0,SV.int .i64 0,SV.int .i64 0,SV.int .i64 0,SV.int .i64 0,SV.int .i64 0,SV.int .i64 0,SV.int .i64 0,SV.int .i64 0,SV.int .i64 0,SV.int .i64 0,SV.int .i64 0,SV.int .i64 0,SV.int .i64 0,SV.int .i64 0,SV.int .i64 0,SV.int .i64 0,SV.int .i64 0,SV.int .i64 0,SV.int .i64 0,SV.int .i64 0,SV.int .i64 0,SV.int .i64 0,SV.int .i64 0,SV.int .i64 0,SV.int .i64 0,SV.int .i64 0,SV.int .i64 0,SV.int .i64 0,SV.int .i64 0,SV.int .i64 0,SV.int .i64 0,SV.int .i64 0,SV.int .i64 0] k=encR YaC:=by
 rcases Yfl h with rfl|rfl|rfl|rfl|rfl|rfl|rfl|rfl|rfl|rfl|rfl|rfl <;> rfl
theorem Ybg{a b:Nat}(r:Rt):leL a b (encR r) (encR r):=Yc _ ⟨trivial,trivial,trivial,trivial,trivial,trivial,trivial,trivial⟩
theorem Yaq(x:Rt):Rt.mk x.a x.b x.c x.d x.e x.f x.n=x:=rfl
def Ypu(T:Tm):Rt:=if T.syn=true then(ofRF 81 80).1 else(ofRF 531441 524288).1
def fifR(T:Tm)(i:Nat):Rt:=(Ybe (ofRF 3 2).1 (pwrF (Ypu T) (T.p i).1 (T.p i).2).1 (-1)).1
def Ybk(T:Tm):Nat->Rt
 |0=>(ofRF 128 1).1
 |i+1=>if(i:Int)=T.wolf then Ybk T i else(Ybe (Ybk T i) (fifR T i) (-1)).1
def fifL(T:Tm)(i k:Nat):Rt:=if k<i then(if(k:Int)=T.wolf then YaC else fifR T k)else YaC
def YcL(T:Tm)(k:Nat):Rt:=if k=T.wolf.toNat then Ybk T 12 else fifL T 12 k
theorem YpH(T:Tm)(j:Nat):(if j=T.wolf.toNat then [SV.int .i64 (Ybk T 12).a,SV.int .i64 (Ybk T 12).b,SV.int .i64 (Ybk T 12).c,SV.int .i64 (Ybk T 12).d,SV.int .i64 (Ybk T 12).e,SV.int .i64 (Ybk T 12).f,SV.int .i64 (Ybk T 12).n]else [SV.int .i64 (fifL T 12 j).a,SV.int .i64 (fifL T 12 j).b,SV.int .i64 (fifL T 12 j).c,SV.int .i64 (fifL T 12 j).d,SV.int .i64 (fifL T 12 j).e,SV.int .i64 (fifL T 12 j).f,SV.int .i64 (fifL T 12 j).n])=encR (YcL T j):=by
 unfold YcL;split <;> rfl
theorem YtV(T:Tm)(k:Nat):fifL T 0 k=YaC:=if_neg (Nat.not_lt_zero _)
theorem Yj8(L:Nat->Rt)(m:Nat):bndL m (YcJ L):=by simp [YcJ,encR,bndL,bnd]
theorem YoS{k:SV->List HO->Prop}{al:Bool}{hp:List HO}{L:Nat->Rt}(h:k (.agg (YcJ L)) []):YB al k (.agg (YcJ L)) hp:=
 YE (show k _ []from h) (YA (.agg (YcJ L)) (Yj8 L _)) (fun _=>by simp [Ym,Yp,YcJ,encR])
theorem YpG{T:Tm}{i:Nat}(h:¬(i:Int)=T.wolf):fifL T (i+1) i=fifR T i:=by
 unfold fifL;rw[if_pos (by omega),if_neg h]
theorem YlB{T:Tm}{i k:Nat}(h:¬k=i):fifL T (i+1) k=fifL T i k:=by
 unfold fifL
 by_cases h1:k<i
 . rw[if_pos h1,if_pos (by omega)]
 . rw[if_neg h1,if_neg (by omega)]
theorem YtU{T:Tm}{i k:Nat}(h:(i:Int)=T.wolf):fifL T (i+1) k=fifL T i k:=by
 by_cases hk:k=i
 . subst hk;unfold fifL;rw[if_pos (by omega),if_pos h,if_neg (by omega)]
 . exact YlB hk
def fifC:Ctr:={ alias:=false,of:=fun l=>match l with
 | [.xp _ cs]=> .ex Tm fun T=> .pre (cs=encT T/\Ybs T=0) (.fin (.agg (YcJ (YcL T))) [])
 |_=>noC}
theorem Yu8{T:Tm}(h:Ybs T=0):(0<=T.wolf/\T.wolf<=11)/\(∀i,i<12->badT (T.p i)=false):=by
 unfold Ybs at h
 split at h
 . cases h
 . split at h
   . cases h
   . rename_i h1 h2
     refine⟨by omega,fun i hi=>?_⟩
     cases hb:badT (T.p i)with
     |false=>rfl
     |true=>exact absurd (Yo1 hi hb) h2
def mc1:Ctr:=m2C 1
def mcm:Ctr:=m2C (-1)
def TH0:Env:={ ct:=fun n=>match n with|88=>some wholeC|110=>some mcm|91=>some mc1|109=>some powRC|90=>some folC|_=>none,fn:=fun _=>none,meth:=fun _ _=>none}
theorem Ycc:TH0.ct 88=some wholeC:=rfl
theorem Ybr:TH0.ct 110=some mcm:=rfl
theorem Yce:TH0.ct 91=some mc1:=rfl
theorem Ybq:TH0.ct 109=some powRC:=rfl
theorem Ycd:TH0.ct 90=some folC:=rfl
theorem YyA:Yo YCX TH0:=by
 refine⟨fun f c h=>?_,fun f vf h=>?_,(fun _ _ _ h=>by cases h),by kernel_rfl,(fun _ h=>by cases h)⟩
 . simp only[TH0]at h
   split at h
   . cases h;exact⟨Yrl,Tryz.f88,Tryz.func88,by kernel_rfl,by kernel_rfl⟩
   . cases h;exact⟨ovr_c,Tryz.f110,Tryz.func110,by kernel_rfl,by kernel_rfl⟩
   . cases h;exact⟨YBA,Tryz.f91,Tryz.func91,by kernel_rfl,by kernel_rfl⟩
   . cases h;exact⟨pow_c,Tryz.f109,Tryz.func109,by kernel_rfl,by kernel_rfl⟩
   . cases h;exact⟨Yzx,Tryz.f90,Tryz.func90,by kernel_rfl,by kernel_rfl⟩
   . cases h
 . cases h
theorem fif_c:fifC.ok YCX 89:=by
 refine Yb Tryz.func89 YCA YyA 300 fifC fun args k h=>?_
 simp only[fifC]at h
 split at h
 . rename_i tt cs
   obtain⟨T,⟨rfl,hT⟩,h⟩:=h
   refine⟨[.xp tt (encT T)],by simp only[Ya],?_⟩
   obtain⟨hw,hp⟩:=Yu8 hT
   dsimp only[v89,encT,encP,encR,Yaq,Ycc,Ybr,Yce,Ybq,Ycd,wholeC,mc1,mcm,m2C,powRC,folC,go_sem,reduceIte,YCS]
   simp only[Yd,YCS,YCU,reduceCtorEq,YCT]
   refine⟨fun hs=>?_,fun hs=>?_⟩
   . have hC:Ypu T=(ofRF 81 80).1:=if_pos hs
     obtain⟨C,hCe⟩:∃C,C=(ofRF 81 80).1:=⟨_,rfl⟩
     rw[<-hCe]at hC⊢
     clear hCe hs
     refine Loop.keep [0,1,0,0,0,14] Nat (fun i=>[(21,.int .i64 i)]) (fun i=>[(2,.own false 7 12 (fun k=>encR (fifL T i k))),(3,.box (encR (Ybk T i)))]) [] (fun i=>i<=12) (fun i=>12-i) ?_ ?_
     . refine⟨0,by omega,?_⟩
       dsimp only[encR,go_sem,reduceIte,YCS]
       simp only[Ya]
       refine⟨⟨by decide,by decide,by decide,by decide,rfl⟩,fun k hk=>?_,rfl,rfl,rfl,rfl,rfl,rfl,rfl⟩
       rw[Yrq hk,YtV]
       exact Ybg YaC
     . rintro i hi
       dsimp only[Yaq,Ycc,Ybr,Yce,Ybq,Ycd,wholeC,mc1,mcm,m2C,powRC,folC,encR,YCY,go_sem,reduceIte,YCS]
       simp only[Yd,YCS,YCU,reduceCtorEq,YCT]
       refine⟨fun hlt=>?_,fun hge=>?_⟩
       . have hi12:i<12:=by omega
         have e:=YiD T.p hi12
         simp only[encP]at e
         rw[e]
         dsimp only[Yaq,Ycc,Ybr,Yce,Ybq,Ycd,wholeC,mc1,mcm,m2C,powRC,folC,encR,YCY,go_sem,reduceIte,YCS]
         simp only[Yd,YCS,YCU,reduceCtorEq,YCT]
         have hF:(Ybe (ofRF 3 2).1 (pwrF C (T.p i).1 (T.p i).2).1 (-1)).1=fifR T i:=by rw[fifR,hC]
         simp only[if_true,Yaq,hF]
         dsimp only[Yaq,Ycc,Ybr,Yce,Ybq,Ycd,wholeC,mc1,mcm,m2C,powRC,folC,encR,YCY,go_sem,reduceIte,YCS]
         simp only[Yd,YCS,YCU,reduceCtorEq,YCT]
         refine⟨⟨by omega,by omega⟩,fun hne=>⟨by decide,by decide,⟨by omega,by omega⟩,hi12,⟨by omega,by omega⟩,hi12,i+1,by omega,by omega,?_⟩,fun heq=>⟨i+1,by omega,by omega,?_⟩⟩
         . have hR:Ybk T (i+1)=(Ybe (Ybk T i) (fifR T i) (-1)).1:=by rw[Ybk,if_neg hne]
           rw[hR,YCW ((i:Int)+1) (by omega)]
           simp only[Ya]
           refine⟨⟨by decide,by decide,by decide,by decide,by simp⟩,fun k hk=>?_⟩
           split
           . rename_i hki
             subst hki
             rw[YpG hne]
             exact Ybg _
           . rename_i hki
             rw[YlB hki]
             exact Ybg _
         . have hR:Ybk T (i+1)=Ybk T i:=by rw[Ybk,if_pos heq]
           rw[hR,YCW ((i:Int)+1) (by omega)]
           simp only[Ya]
           refine⟨⟨by decide,by decide,by decide,by decide,by simp⟩,fun k hk=>?_⟩
           rw[YtU heq]
           exact⟨rfl,rfl,rfl,rfl,rfl,rfl,rfl⟩
       . obtain rfl:i=12:=by omega
         simp only[YpH]
         dsimp only[encR,go_sem,reduceIte,YCS]
         simp only[Yd,YCS,YCU,reduceCtorEq,YCT]
         exact⟨⟨by omega,by omega⟩,by omega,by decide,YoS (L:=YcL T) h⟩
   . have hC:Ypu T=(ofRF 531441 524288).1:=if_neg (by rw[hs];decide)
     obtain⟨C,hCe⟩:∃C,C=(ofRF 531441 524288).1:=⟨_,rfl⟩
     rw[<-hCe]at hC⊢
     clear hCe hs
     refine Loop.keep [0,1,0,0,0,14] Nat (fun i=>[(21,.int .i64 i)]) (fun i=>[(2,.own false 7 12 (fun k=>encR (fifL T i k))),(3,.box (encR (Ybk T i)))]) [] (fun i=>i<=12) (fun i=>12-i) ?_ ?_
     . refine⟨0,by omega,?_⟩
       dsimp only[encR,go_sem,reduceIte,YCS]
       simp only[Ya]
       refine⟨⟨by decide,by decide,by decide,by decide,rfl⟩,fun k hk=>?_,rfl,rfl,rfl,rfl,rfl,rfl,rfl⟩
       rw[Yrq hk,YtV]
       exact Ybg YaC
     . rintro i hi
       dsimp only[Yaq,Ycc,Ybr,Yce,Ybq,Ycd,wholeC,mc1,mcm,m2C,powRC,folC,encR,YCY,go_sem,reduceIte,YCS]
       simp only[Yd,YCS,YCU,reduceCtorEq,YCT]
       refine⟨fun hlt=>?_,fun hge=>?_⟩
       . have hi12:i<12:=by omega
         have e:=YiD T.p hi12
         simp only[encP]at e
         rw[e]
         dsimp only[Yaq,Ycc,Ybr,Yce,Ybq,Ycd,wholeC,mc1,mcm,m2C,powRC,folC,encR,YCY,go_sem,reduceIte,YCS]
         simp only[Yd,YCS,YCU,reduceCtorEq,YCT]
         have hF:(Ybe (ofRF 3 2).1 (pwrF C (T.p i).1 (T.p i).2).1 (-1)).1=fifR T i:=by rw[fifR,hC]
         simp only[if_true,Yaq,hF]
         dsimp only[Yaq,Ycc,Ybr,Yce,Ybq,Ycd,wholeC,mc1,mcm,m2C,powRC,folC,encR,YCY,go_sem,reduceIte,YCS]
         simp only[Yd,YCS,YCU,reduceCtorEq,YCT]
         refine⟨⟨by omega,by omega⟩,fun hne=>⟨by decide,by decide,⟨by omega,by omega⟩,hi12,⟨by omega,by omega⟩,hi12,i+1,by omega,by omega,?_⟩,fun heq=>⟨i+1,by omega,by omega,?_⟩⟩
         . have hR:Ybk T (i+1)=(Ybe (Ybk T i) (fifR T i) (-1)).1:=by rw[Ybk,if_neg hne]
           rw[hR,YCW ((i:Int)+1) (by omega)]
           simp only[Ya]
           refine⟨⟨by decide,by decide,by decide,by decide,by simp⟩,fun k hk=>?_⟩
           split
           . rename_i hki
             subst hki
             rw[YpG hne]
             exact Ybg _
           . rename_i hki
             rw[YlB hki]
             exact Ybg _
         . have hR:Ybk T (i+1)=Ybk T i:=by rw[Ybk,if_pos heq]
           rw[hR,YCW ((i:Int)+1) (by omega)]
           simp only[Ya]
           refine⟨⟨by decide,by decide,by decide,by decide,by simp⟩,fun k hk=>?_⟩
           rw[YtU heq]
           exact⟨rfl,rfl,rfl,rfl,rfl,rfl,rfl⟩
       . obtain rfl:i=12:=by omega
         simp only[YpH]
         dsimp only[encR,go_sem,reduceIte,YCS]
         simp only[Yd,YCS,YCU,reduceCtorEq,YCT]
         exact⟨⟨by omega,by omega⟩,by omega,by decide,YoS (L:=YcL T) h⟩
 . exact h.1.elim
theorem Yq3(n:Nat)(L:Nat->Rt):YbK n (YcJ L)=YcJ L:=rfl
theorem YpY{a b:Nat}(L:Nat->Rt):leL a b (YcJ L) (YcJ L):=Yc _ (Yj8 L _)
def YwS(L:Nat->Rt)(i:Nat)(r:Rt):Nat->Rt:=fun k=>if k=i then r else L k
def notL(T:Tm):Nat->(Nat->Rt)×Rt
 |0=>(fun _=>YaC,(ofRF 1 1).1)
 |i+1=>(YwS (notL T i).1 (7*i%12) (Yfq (notL T i).2).1,(Ybe (notL T i).2 (YcL T i) 1).1)
def YaS(T:Tm):Nat->Rt:=(notL T 12).1
def notC:Ctr:={ alias:=false,of:=fun l=>match l with
 | [.xp _ cs]=> .ex Tm fun T=> .pre (cs=encT T/\Ybs T=0) (.fin (.agg (YcJ (YaS T))) [])
 |_=>noC}
def TH1:Env:={ ct:=fun n=>match n with|88=>some wholeC|91=>some mc1|90=>some folC|89=>some fifC|_=>none,fn:=fun _=>none,meth:=fun _ _=>none}
theorem YhP:TH1.ct 88=some wholeC:=rfl
theorem YhS:TH1.ct 91=some mc1:=rfl
theorem YhR:TH1.ct 90=some folC:=rfl
theorem YhQ:TH1.ct 89=some fifC:=rfl
theorem YyB:Yo YCX TH1:=by
 refine⟨fun f c h=>?_,fun f vf h=>?_,(fun _ _ _ h=>by cases h),by kernel_rfl,(fun _ h=>by cases h)⟩
 . simp only[TH1]at h
   split at h
   . cases h;exact⟨Yrl,Tryz.f88,Tryz.func88,by kernel_rfl,by kernel_rfl⟩
   . cases h;exact⟨YBA,Tryz.f91,Tryz.func91,by kernel_rfl,by kernel_rfl⟩
   . cases h;exact⟨Yzx,Tryz.f90,Tryz.func90,by kernel_rfl,by kernel_rfl⟩
   . cases h;exact⟨fif_c,Tryz.f89,Tryz.func89,by kernel_rfl,by kernel_rfl⟩
   . cases h
 . cases h
theorem not_c:notC.ok YCX 63:=by
 refine Yb Tryz.func63 YCc YyB 300 notC fun args k h=>?_
 simp only[notC]at h
 split at h
 . rename_i tt cs
   obtain⟨T,⟨rfl,hT⟩,h⟩:=h
   refine⟨[.xp tt (encT T)],by simp only[Ya],?_⟩
   dsimp only[v63,encR,Yaq,YhP,YhS,YhR,YhQ,wholeC,mc1,mcm,m2C,folC,fifC,go_sem,reduceIte,YCS]
   simp only[Yd,YCS,YCU,reduceCtorEq,YCT]
   refine⟨T,⟨rfl,hT⟩,?_⟩
   refine Loop.keep [2,0,0,4] Nat (fun i=>[(10,.int .i64 i)]) (fun i=>[(1,.own false 7 12 (fun k=>encR ((notL T i).1 k))),(2,.box (encR (notL T i).2))]) [] (fun i=>i<=12) (fun i=>12-i) ?_ ?_
   . refine⟨0,by omega,?_⟩
     dsimp only[encR,YcJ,go_sem,reduceIte,YCS]
     simp only[Ya]
     refine⟨⟨by decide,by decide,by decide,rfl⟩,fun k hk=>?_,rfl,rfl,rfl,rfl,rfl,rfl,rfl⟩
     rw[Yrq hk]
     exact Ybg YaC
   . rintro i hi
     dsimp only[encR,YCY,Yaq,YhP,YhS,YhR,YhQ,wholeC,mc1,mcm,m2C,folC,fifC,go_sem,reduceIte,YCS]
     simp only[Yd,YCS,YCU,reduceCtorEq,YCT]
     refine⟨fun hlt=>?_,fun hge=>?_⟩
     . have hi12:i<12:=by omega
       have e7:(IntKind.i64.wrap (7*(i:Int))).tmod 12=((7*i%12:Nat):Int):=by
         rw[YCW _ (by omega),Int.tmod_eq_emod_of_nonneg (by omega)];omega
       simp only[Yq3,Yj9 (YcL T) hi12,e7,YCY]
       dsimp only[encR,YCY,Yaq,YhP,YhS,YhR,YhQ,wholeC,mc1,mcm,m2C,folC,fifC,go_sem,reduceIte,YCS]
       simp only[Yd,YCS,YCU,reduceCtorEq,YCT]
       have hS:notL T (i+1)=(YwS (notL T i).1 (7*i%12) (Yfq (notL T i).2).1,(Ybe (notL T i).2 (YcL T i) 1).1):=rfl
       refine⟨⟨by omega,by omega,rfl⟩,by decide,⟨by omega,by omega⟩,by omega,i+1,by omega,by omega,?_⟩
       rw[hS,YCW ((i:Int)+1) (by omega)]
       simp only[Ya]
       refine⟨⟨by decide,by decide,by decide,YpY _,by simp⟩,fun k hk=>?_⟩
       unfold YwS
       split
       . exact Ybg _
       . exact Ybg _
     . obtain rfl:i=12:=by omega
       exact⟨by decide,YoS (L:=YaS T) h⟩
 . exact h.1.elim
theorem YbH(T:Tm):ones (encT T):=by simp [encT,encP,ones,one];rfl
theorem Ywa(L:Nat->Rt):ones (YcJ L):=by simp [YcJ,encR,ones,one]
theorem Yy5{k:SV->List HO->Prop}{al:Bool}{hp:List HO}{e:Int}(h:k (.tup [.nil,.int .i64 e]) []):YB al k (.tup [.nil,.int .i64 e]) hp:=
 YE h (YA (.tup [.nil,.int .i64 e]) ⟨trivial,trivial,trivial⟩) (fun _=>by simp [Ym,Yp])
theorem YuJ{k:SV->List HO->Prop}{x:HO}{e:Int}{L:Nat->Rt}(h:k (.tup [.vs true false 12 7 (fun k=>encR (L k)),.int .i64 e]) []):YB false k (.tup [.own 1 0 12 7,.int .i64 e]) [x,.own false 7 12 (YaO 7 (YbK 1 (YcJ L)))]:=by
 refine YE h ?_ (fun _=>by simp [Ym,Yp,encR])
 dsimp only[expo,go_sem,reduceIte,YCS]
 simp only[Ya]
 intro q hq
 rw[Yq3,Yj9 L hq]
 exact Ye _
def NotC:Ctr:={ alias:=false,of:=fun l=>match l with
 | [.agg cs]=> .ex Tm fun T=> .pre (cs=encT T/\T.nm.size<=9223372036854775807) (if Ybs T≠0 then .fin (.tup [.nil,.int .i64 (Ybs T)]) []else .fin (.tup [.vs true false 12 7 (fun k=>encR (YaS T k)),.int .i64 0]) [])
 |_=>noC}
def TH2:Env:={ ct:=fun n=>match n with|62=>some chkTmC|63=>some notC|_=>none,fn:=fun _=>none,meth:=fun _ _=>none}
theorem YrO:TH2.ct 62=some chkTmC:=rfl
theorem YrP:TH2.ct 63=some notC:=rfl
theorem YyC:Yo YCX TH2:=by
 refine⟨fun f c h=>?_,fun f vf h=>?_,(fun _ _ _ h=>by cases h),by kernel_rfl,(fun _ h=>by cases h)⟩
 . simp only[TH2]at h
   split at h
   . cases h;exact⟨Ypl,Tryz.f62,Tryz.func62,by kernel_rfl,by kernel_rfl⟩
   . cases h;exact⟨not_c,Tryz.f63,Tryz.func63,by kernel_rfl,by kernel_rfl⟩
   . cases h
 . cases h
theorem Yuy:NotC.ok YCX 29:=by
 refine Yb Tryz.func29 YBM YyC 300 NotC fun args k h=>?_
 simp only[NotC]at h
 split at h
 . rename_i cs
   obtain⟨T,⟨rfl,hnm⟩,h⟩:=h
   refine⟨[.agg (encT T)],⟨Yc _ (Yu T _),trivial⟩,?_⟩
   dsimp only[v29,YrO,YrP,chkTmC,notC,go_sem,reduceIte,YCS]
   simp only[Yd,YCS,YCU,reduceCtorEq,YCT]
   refine⟨YbH T,YC2 27,T,⟨rfl,hnm⟩,fun hc=>?_,fun hc=>⟨T,⟨rfl,hc⟩,⟨rfl,Ywa _,by decide⟩,?_⟩⟩
   . rw[if_pos hc]at h
     exact Yy5 (show k _ []from h)
   . rw[if_neg (by rw[hc];decide)]at h
     exact YuJ (show k _ []from h)
 . exact h.1.elim
def v47:VF:=⟨9,[.tmp 2],(ZR [u1 2 .mov [.cn (.bool false)]] (ZR [Zm 3 0,Zq 4 .geq 3 (-20000),Zm 5 4,Zg 6 5 true 0,u2 7 5 true (.cmp .leq) [.tm 6,.cn (.int .i64 50000)],u1 8 .and [.tm 5,.tm 7],Zm 2 8] .ret))⟩
theorem YB2:Yg YCX Tryz.f47=some v47:=by kernel_rfl
def v49:VF:=⟨9,[.cell 4 true 2],(ZR [Zn 4] (ZR [Zm 5 0,u1 6 (.ari .add) [.cn (.int .i64 273150),.tm 5],Zm 7 1,u1 8 (.build [(.int .i64 0),(.int .i64 0)] [(0,1),(1,1)]) [.tm 6,.tm 7],Zs 2 4 8] .ret))⟩
theorem YB4:Yg YCX Tryz.f49=some v49:=by kernel_rfl
def v48:VF:=⟨26,[.cell 6 true 2],(ZR [Zn 6] (ZR [Zm 11 0,Zm 12 2,Zm 13 1,u1 14 (.call 78) [.tm 11,.tm 12,.tm 13],Zm 10 14,Ze 15 0 10,Ze 16 1 10,Ze 17 2 10,Zm 7 15,Zm 8 16,Zm 9 17] (.seq (ZR [Zm 18 8] (ZC 18 (ZR [Zm 19 7,Zm 20 7,u1 21 (.build [(.int .i64 0),(.int .i64 0)] [(0,1),(1,1)]) [.tm 19,.tm 20],Zs 2 6 21] .ret) .skip)) (ZR [Zm 22 7,Zm 23 7,Zp 24 23 1,u1 25 (.build [(.int .i64 0),(.int .i64 0)] [(0,1),(1,1)]) [.tm 22,.tm 24],Zs 2 6 25] .ret))))⟩
theorem YB3:Yg YCX Tryz.f48=some v48:=by kernel_rfl
def pspF(s:Int)(l:List (Int×Int))(den:Int):Int×Int:=if(Yet s l den).2.1=true then((Yet s l den).1,(Yet s l den).1)else((Yet s l den).1,IntKind.i64.wrap ((Yet s l den).1+1))
def pspC:Ctr:={ alias:=false,of:=fun l=>match l with
 | [.int .i64 s,.int .i64 den,.vs _ _ n sz get]=> .ex (List (Int×Int)) fun l=> .pre (lsP 2 enc2 n sz get l/\1<=n/\n<=1000000000000) (.fin (.agg [.int .i64 (pspF s l den).1,.int .i64 (pspF s l den).2]) [])
 |_=>noC}
def Ycz(t:Int):Bool:=decide (-20000<=t)&&decide (t<=50000)
theorem YdD{k:SV->List HO->Prop}{al:Bool}{hp:List HO}{x y:Int}(h:k (.agg [.int .i64 x,.int .i64 y]) []):YB al k (.agg [.int .i64 x,.int .i64 y]) hp:=
 YE (show k _ []from h) (YA (.agg [.int .i64 x,.int .i64 y]) ⟨trivial,trivial,trivial⟩) (fun _=>by simp [Ym,Yp])
theorem YdE{k:SV->List HO->Prop}{al:Bool}{hp:List HO}{x y e:Int}(h:k (.tup [.agg [.int .i64 x,.int .i64 y],.int .i64 e]) []):YB al k (.tup [.agg [.int .i64 x,.int .i64 y],.int .i64 e]) hp:=
 YE (show k _ []from h) (YA (.tup [.agg [.int .i64 x,.int .i64 y],.int .i64 e]) ⟨⟨trivial,trivial,trivial⟩,trivial,trivial⟩) (fun _=>by simp [Ym,Yp])
def RP0:Env:={ ct:=fun n=>match n with|78=>some prodC|_=>none,fn:=fun _=>none,meth:=fun _ _=>none}
theorem YrG:RP0.ct 78=some prodC:=rfl
theorem Yyl:Yo YCX RP0:=by
 refine⟨fun f c h=>?_,fun f vf h=>?_,(fun _ _ _ h=>by cases h),by kernel_rfl,(fun _ h=>by cases h)⟩
 . simp only[RP0]at h
   split at h
   . cases h;exact⟨YAs,Tryz.f78,Tryz.func78,by kernel_rfl,by kernel_rfl⟩
   . cases h
 . cases h
theorem psp_c:pspC.ok YCX 48:=by
 refine Yb Tryz.func48 YB3 Yyl 200 pspC fun args k h=>?_
 simp only[pspC]at h
 split at h
 . rename_i s den tt z n sz get
   obtain⟨l,⟨⟨rfl,rfl,hg⟩,hn1,hn⟩,h⟩:=h
   refine⟨[.int .i64 s,.int .i64 den,.vs tt z l.length 2 (fun k=>enc2 (l.getD k default))],⟨⟨rfl,rfl⟩,⟨rfl,rfl⟩,⟨id,rfl,rfl,rfl,hg⟩,trivial⟩,?_⟩
   dsimp only[v48,YrG,prodC,enc2,go_sem,reduceIte]
   simp only[Yd,YCS,YCU,reduceCtorEq,YCT]
   refine⟨l,⟨⟨rfl,rfl,fun k _=>Ye _⟩,hn1,hn⟩,by decide,by decide,by decide,fun hc=>?_,fun hc=>?_⟩
   . rw[pspF,if_pos hc]at h;exact YdD h
   . rw[pspF,if_neg (by rw[hc];decide)]at h;exact YdD h
 . exact h.1.elim
def v61:VF:=⟨23,[.tmp 2],(ZR [u1 1 .box [.tm 0],Zi 2 0] (.seq (ZR [Za 3 0 1,Zf 4 1 3,Zq 5 .lss 4 100000,Zm 6 5,Zj 7 6 false 0 1,Zh 8 6 false 1 7,u2 9 6 false (.cmp .gtr) [.tm 8,.cn (.int .i64 1000000)],u1 10 .or [.tm 6,.tm 9],Zm 11 10,Zj 12 11 false 1 1,Zh 13 11 false 1 12,u2 14 11 false (.call 47) [.tm 13],u2 15 11 false .not [.tm 14],u1 16 .or [.tm 11,.tm 15],Zm 17 16,Zj 18 17 false 2 1,Zh 19 17 false 1 18,u2 20 17 false (.call 47) [.tm 19],u2 21 17 false .not [.tm 20],u1 22 .or [.tm 17,.tm 21]] (ZC 22 (ZR [Zi 2 2] .ret) .skip)) (ZR [Zi 2 0] .ret)))⟩
theorem YCa:Yg YCX Tryz.f61=some v61:=by kernel_rfl
def v51:VF:=⟨77,[.tmp 4,.tmp 5],(ZR [u1 4 .mov [.cn .nil],Zi 5 0] (.seq (.draw [(6,.box [(.int .i64 0),(.int .i64 0),(.int .i64 0),(.int .i64 0),(.int .i64 0),(.int .i64 0),(.int .i64 0)])] [Zu 13 0,w1 14 .nilCheck [.tm 13],Zy 15 3 14,Zv 16 1 15,Zu 17 1,w1 18 .rem [.tm 17,.cn (.int .i64 12)],ZX 19 7 16 18,Zw 20 7 19,Zu 21 0,w1 22 .nilCheck [.tm 21],Zy 23 3 22,Zv 24 1 23,w1 25 (.idxAddr 7) [.tm 24,.cn (.int .i64 9)],Zw 26 7 25,Zz 27 72 20 26,Zu 12 27,ZE 28 0 12,ZE 29 1 12,ZS 7 6 28,Zu 7 29]) (ZR [Zt 31 7 6,Zc 32 73 31,Zm 30 32,Ze 33 0 30,Ze 34 1 30,Ze 35 2 30,Zm 8 33,Zm 9 34,Zm 10 35] (.seq (ZR [Zm 36 8,Zl 37 36,Zi 38 0] (.block 0 (.loop (ZR [Zr 39 .lss 38 37] (.seq (ZC 39 .skip (.exit 0)) (.seq (.block 1 (ZR [Zm 40 38,Zm 11 40] (.region [Zm 41 8,Zm 42 11,Zx 43 2 41 42,Za 44 1 43,Zf 45 1 44,u1 46 (.ari .mul) [.tm 45,.cn (.int .i64 2)],Zx 47 2 41 42,Za 48 1 47,Zs 1 48 46]))) (.region [Zp 49 38 1,Zm 38 49]))))))) (.seq (.draw [] [Zu 50 8,Zu 51 9,w1 52 (.ari .mul) [.cn (.int .i64 2),.tm 51],Zu 53 1,w1 54 .quo [.tm 53,.cn (.int .i64 12)],w1 55 (.ari .sub) [.tm 54,.cn (.int .i64 5)],w1 56 (.ari .mul) [.tm 52,.tm 55],w1 57 (.build [(.int .i64 0),(.int .i64 0)] [(0,1),(1,1)]) [.cn (.int .i64 2),.tm 56],Zu 58 0,w1 59 .nilCheck [.tm 58],Zy 60 0 59,Zy 61 2 60,Zv 62 1 61,Zu 63 9,Zu 65 0,w1 66 .nilCheck [.tm 65],Zy 67 0 66,Zy 68 1 67,Zv 69 1 68,Zu 70 9,w1 71 .neg [.tm 70],Zu 75 9,w1 76 (.ari .mul) [.cn (.int .i64 2),.tm 75],Zz 64 49 62 63,Zz 72 49 69 71,w1 73 (.buildSlice 2 3 [(.int .i64 0),(.int .i64 0)] [(0,2),(2,2),(4,2)]) [.tm 57,.tm 64,.tm 72],⟨u1 74 (.append 2 16 [(.int .i64 0),(.int .i64 0)]) [.tm 50,.tm 73],[.tm 9,.tm 75,.tm 75,.tm 76]⟩,Zu 4 74,Zu 5 76]) .ret)))))⟩
theorem YB5:Yg YCX Tryz.f51=some v51:=by kernel_rfl
def chkS(a t0 t:Int):Int:=if a<100000\/1000000<a\/Ycz t0=false\/Ycz t=false then 2 else 0
def chkSC:Ctr:={ alias:=false,of:=fun l=>match l with
 | [.agg [.int .i64 a,.int .i64 t0,.int .i64 t]]=> .fin (.int .i64 (chkS a t0 t)) []
 |_=>noC}
def dblT(x:Int×Int):Int×Int:=(x.1,x.2*2)
def YkD(L:Nat->Rt)(note:Int):Rt:=(Ybe (L (note%12).toNat) (L 9) (-1)).1
def trmL(r:Rt):List (Int×Int):=if chkR r=0 then Yz r else []
def trmD(r:Rt):Int:=if chkR r=0 then r.n else 0
def Ye1(L:Nat->Rt)(t0 t note:Int):List (Int×Int)×Int:=
 ((trmL (YkD L note)).map dblT++[(2,2*trmD (YkD L note)*(note/12-5)),(273150+t,trmD (YkD L note)),(273150+t0, -trmD (YkD L note))],2*trmD (YkD L note))
def dblA(l:List (Int×Int))(i k:Nat):Int×Int:=if k<i then dblT (l.getD k default)else l.getD k default
theorem Yn5{r:Rt}(h:chkR r=0):∀x,x∈Yz r-> -100000<=x.2/\x.2<=100000:=by
 obtain⟨_,h1,h2,h3,h4,h5,h6,_⟩:=Ylv h
 have key:∀(p n:Int),badN n=false->∀x,x∈tm1 p n-> -100000<=x.2/\x.2<=100000:=fun p n hn x hx=>by
   unfold tm1 at hx
   split at hx
   . cases hx
   . rw[List.mem_singleton]at hx;subst hx;exact Yeb hn
 intro x hx
 simp only[Yz,YDu]at hx
 rcases hx with hx|hx|hx|hx|hx|hx
 . exact key _ _ h1 x hx
 . exact key _ _ h2 x hx
 . exact key _ _ h3 x hx
 . exact key _ _ h4 x hx
 . exact key _ _ h5 x hx
 . exact key _ _ h6 x hx
theorem Yns{a b c d e f:Int}{k:Nat}(hk:k<3):lenL (Yt 2 (Yl (k*2) [SV.int .i64 a,SV.int .i64 b,SV.int .i64 c,SV.int .i64 d,SV.int .i64 e,SV.int .i64 f]))=2/\ones (Yt 2 (Yl (k*2) [SV.int .i64 a,SV.int .i64 b,SV.int .i64 c,SV.int .i64 d,SV.int .i64 e,SV.int .i64 f])):=by
 rcases(show k=0\/k=1\/k=2 by omega)with rfl|rfl|rfl <;> exact⟨rfl,trivial,trivial,trivial⟩
def termC:Ctr:={ alias:=false,of:=fun l=>match l with
 | [.xp _ [.int .i64 _,.int .i64 t0,.int .i64 t,.vs _ _ n sz get],.int .i64 note]=> .ex (Nat->Rt) fun L=> .pre ((n=12/\sz=7/\∀k,k<12->leXL (get k) (encR (L k)))/\(0<=note/\note<=139)/\Ycz t0=true/\Ycz t=true)
     (.fin (.tup [.vs true false (Ye1 L t0 t note).1.length 2 (fun k=>enc2 ((Ye1 L t0 t note).1.getD k default)),.int .i64 (Ye1 L t0 t note).2]) [])
 |_=>noC}
def valdC:Ctr:={ alias:=false,of:=fun l=>match l with
 | [.int .i64 t]=> .fin (.bool (Ycz t)) []
 |_=> .pre False (.fin (.bool false) [])}
def TIv:Env:={ ct:=fun _=>none,fn:=fun _=>none,meth:=fun _ _=>none}
theorem YoA:Yo YCX TIv:=by
 refine⟨fun f c h=>?_,fun f vf h=>?_,(fun _ _ _ h=>by cases h),by kernel_rfl,(fun _ h=>by cases h)⟩
 . cases h
 . cases h
theorem YCL:valdC.ok YCX 47:=by
 refine Yb Tryz.func47 YB2 YoA 300 valdC fun args k h=>?_
 simp only[valdC]at h
 split at h
 . rename_i t
   refine⟨[.int .i64 t],by simp [leL,le],?_⟩
   dsimp only[v47,go_sem,reduceIte,YCS]
   simp only[Yd,YCS,YCU,reduceCtorEq,YCT]
   exact Yw h
 . exact h.1.elim
def TI0:Env:={ ct:=fun n=>match n with|47=>some valdC|_=>none,fn:=fun _=>none,meth:=fun _ _=>none}
theorem YrQ:TI0.ct 47=some valdC:=rfl
theorem YyD:Yo YCX TI0:=by
 refine⟨fun f c h=>?_,fun f vf h=>?_,(fun _ _ _ h=>by cases h),by kernel_rfl,(fun _ h=>by cases h)⟩
 . simp only[TI0]at h
   split at h
   . cases h;exact⟨YCL,Tryz.f47,Tryz.func47,by kernel_rfl,by kernel_rfl⟩
   . cases h
 . cases h
theorem YtN:chkSC.ok YCX 61:=by
 refine Yb Tryz.func61 YCa YyD 300 chkSC fun args k h=>?_
 simp only[chkSC]at h
 split at h
 . rename_i a t0 t
   refine⟨[.agg [.int .i64 a,.int .i64 t0,.int .i64 t]],by simp [leL,le],?_⟩
   dsimp only[v61,YrQ,valdC,go_sem,reduceIte,YCS]
   simp only[Yd,YCS,YCU,reduceCtorEq,YCT]
   have h:k (.int .i64 (chkS a t0 t)) []:=h
   refine⟨fun hc=>?_,fun hc=>?_⟩
   . rw[chkS,if_pos (by simpa [or_assoc]using hc)]at h;exact Yj h
   . rw[chkS,if_neg (by simpa [or_assoc,and_assoc]using hc)]at h;exact Yj h
 . exact h.1.elim
def warmC:Ctr:={ alias:=false,of:=fun l=>match l with
 | [.int .i64 t,.int .i64 num]=> .pre (Ycz t=true) (.fin (.agg [.int .i64 (273150+t),.int .i64 num]) [])
 |_=>noC}
theorem Yts{t:Int}(h:Ycz t=true): -20000<=t/\t<=50000:=by simpa [Ycz]using h
theorem YCN:warmC.ok YCX 49:=by
 refine Yb Tryz.func49 YB4 YoA 300 warmC fun args k h=>?_
 simp only[warmC]at h
 split at h
 . rename_i t num
   obtain⟨ht,h⟩:=h
   have ht:=Yts ht
   refine⟨[.int .i64 t,.int .i64 num],by simp [leL,le],?_⟩
   dsimp only[v49,go_sem,reduceIte,YCS]
   simp only[Yd,YCS,YCU,reduceCtorEq,YCT]
   rw[YCW (273150+t) (by omega)]
   exact YdD h
 . exact h.1.elim
def TI1:Env:={ ct:=fun n=>match n with|72=>some Y5|73=>some trmC|49=>some warmC|_=>none,fn:=fun _=>none,meth:=fun _ _=>none}
theorem Yd2:TI1.ct 72=some Y5:=rfl
theorem Yd3:TI1.ct 73=some trmC:=rfl
theorem Yd1:TI1.ct 49=some warmC:=rfl
theorem YyE:Yo YCX TI1:=by
 refine⟨fun f c h=>?_,fun f vf h=>?_,(fun _ _ _ h=>by cases h),by kernel_rfl,(fun _ h=>by cases h)⟩
 . simp only[TI1]at h
   split at h
   . cases h;exact⟨YpA,Tryz.f72,Tryz.func72,by kernel_rfl,by kernel_rfl⟩
   . cases h;exact⟨Yw4,Tryz.f73,Tryz.func73,by kernel_rfl,by kernel_rfl⟩
   . cases h;exact⟨YCN,Tryz.f49,Tryz.func49,by kernel_rfl,by kernel_rfl⟩
   . cases h
 . cases h
theorem YBw:termC.ok YCX 51:=by
 refine Yb Tryz.func51 YB5 YyE 600 termC fun args k h=>?_
 simp only[termC]at h
 split at h
 . rename_i tt a t0 t tv zv n sz get note
   obtain⟨L,⟨⟨rfl,rfl,hg⟩,hn,h0,h1⟩,h⟩:=h
   refine⟨[.xp tt [.int .i64 a,.int .i64 t0,.int .i64 t,.vs tv zv 12 7 (fun k=>encR (L k))],.int .i64 note],?_,?_⟩
   . simp only[YfL,YiQ,YsU,YmT,and_true,true_and]
     exact⟨id,⟨rfl,rfl⟩,⟨rfl,rfl⟩,⟨rfl,rfl⟩,⟨id,rfl,rfl,rfl,hg⟩,trivial⟩
   dsimp only[v51,Yaq,Yd2,Yd3,Y5,Yb2,trmC,encR,Yd1,warmC,go_sem,reduceIte,YCS]
   simp only[Yd,YCS,YCU,reduceCtorEq,YCT]
   obtain⟨m,rfl⟩:∃m:Nat,note=(m:Int):=⟨note.toNat,by omega⟩
   have em:(m:Int).tmod 12=((m%12:Nat):Int):=by rw[Int.tmod_eq_emod_of_nonneg (by omega)];omega
   simp only[em,YCY]
   obtain⟨r,hr⟩:∃r,r=YkD L m:=⟨_,rfl⟩
   have hr':(Ybe (L (m%12)) (L (Int.toNat 9)) (-1)).1=r:=by rw[hr,YkD,show((m:Int)%12).toNat=m%12 by omega];rfl
   simp only[hr']
   refine⟨by decide,⟨by omega,by omega⟩,by decide,by decide,by decide,?_⟩
   by_cases hc:chkR r=0
   . rw[if_neg (fun hh=>hh hc)]
     dsimp only[Yaq,Yd2,Yd3,Y5,Yb2,trmC,encR,Yd1,warmC,go_sem,reduceIte,YCS]
     simp only[Yd,YCS,YCU,reduceCtorEq,YCT]
     intro z
     refine⟨by decide,by decide,by decide,?_⟩
     have hlen:=Ydt r
     refine Loop.keep [0,0,2,0,2,0,27] Nat (fun i=>[(38,.int .i64 i)]) (fun i=>[(2,.own z 2 (Yz r).length (fun k=>enc2 (dblA (Yz r) i k)))]) [] (fun i=>i<=(Yz r).length) (fun i=>(Yz r).length-i) ?_ ?_
     . refine⟨0,YDy _,?_⟩
       dsimp only[enc2,go_sem,reduceIte,YCS]
       simp only[Ya]
       refine⟨⟨by decide,rfl⟩,fun k hk=>?_⟩
       rw[dblA,if_neg (Nat.not_lt_zero _)]
       exact⟨rfl,rfl⟩
     . rintro i hi
       dsimp only[Yaq,Yd2,Yd3,Y5,Yb2,trmC,encR,Yd1,warmC,enc2,YCY,go_sem,reduceIte,YCS]
       simp only[Yd,YCS,YCU,reduceCtorEq,YCT]
       refine⟨fun hlt=>?_,fun hge=>?_⟩
       . have hil:i<(Yz r).length:=by omega
         have hx:=Yn5 hc _ (YK hil)
         have ei:dblA (Yz r) i i=(Yz r).getD i default:=if_neg (Nat.lt_irrefl _)
         rw[ei,YCW (((Yz r).getD i default).2*2) (by omega),Yfn hil (by omega)]
         refine⟨⟨by omega,by omega⟩,hil,⟨by omega,by omega⟩,hil,i+1,by omega,by omega,?_⟩
         simp only[Ya]
         refine⟨by decide,fun k hk=>?_⟩
         by_cases hki:k=i
         . subst hki
           rw[if_pos rfl,dblA,if_pos (by omega)]
           exact⟨⟨rfl,rfl⟩,⟨rfl,rfl⟩,trivial⟩
         . rw[if_neg hki]
           have:dblA (Yz r) (i+1) k=dblA (Yz r) i k:=by
             unfold dblA
             by_cases h1:k<i
             . rw[if_pos h1,if_pos (by omega)]
             . rw[if_neg h1,if_neg (by omega)]
           rw[this]
           exact⟨⟨rfl,rfl⟩,⟨rfl,rfl⟩,trivial⟩
       . obtain rfl:i=(Yz r).length:=by omega
         have hd:=Yee hc
         have e1:IntKind.i64.wrap (2*r.n)=2*r.n:=YCW _ (by omega)
         have e2:IntKind.i64.wrap (IntKind.i64.wrap ((m:Int).tdiv 12)-5)=(m:Int)/12-5:=by
           rw[Int.tdiv_eq_ediv_of_nonneg (by omega),YCW ((m:Int)/12) (by omega),YCW _ (by omega)]
         have hm:=Ya4 (x:=2*r.n) (y:=(m:Int)/12-5) (X:=2000) (Y:=20) (by omega) (by omega)
         have e3:IntKind.i64.wrap (2*r.n*((m:Int)/12-5))=2*r.n*((m:Int)/12-5):=YCW _ (by omega)
         have e4:IntKind.i64.wrap (0-r.n)= -r.n:=by rw[YCW _ (by omega)];omega
         rw[e1,e2,e3,e4]
         refine⟨by decide,h1,h0,by decide,⟨by unfold YW;omega,fun k hk=>Yns hk⟩,?_⟩
         have hT:Ye1 L t0 t m=((Yz r).map dblT++[(2,2*r.n*((m:Int)/12-5)),(273150+t,r.n),(273150+t0, -r.n)],2*r.n):=by
           rw[Ye1,<-hr,trmL,if_pos hc,trmD,if_pos hc]
         refine YE (show k _ []from h) ?_ (fun _=>by simp [Ym,Yp,enc2])
         rw[hT]
         dsimp only[expo,go_sem,reduceIte,YCS]
         simp only[Ya]
         refine⟨by simp,by simp,fun q hq=>?_⟩
         by_cases h2:q<(Yz r).length
         . simp only[if_pos h2,dblA]
           rw[Yal (by simpa using h2),Yqm h2]
           exact Ye _
         . simp only[if_neg h2]
           rw[Yam (by simp;omega),List.length_map]
           rcases(show q-(Yz r).length=0\/q-(Yz r).length=1\/q-(Yz r).length=2 by omega)with e|e|e <;> (rw[e];exact Ye _)
   . rw[if_pos hc]
     dsimp only[Yaq,Yd2,Yd3,Y5,Yb2,trmC,encR,Yd1,warmC,go_sem,reduceIte,YCS]
     simp only[Yd,YCS,YCU,reduceCtorEq,YCT]
     refine⟨by decide,by decide,by decide,?_⟩
     refine Loop.keep [0,0,2,0,2,0,27] Nat (fun i=>[(38,.int .i64 i)]) (fun _=>[]) [] (fun i=>i=0) (fun i=>i) ?_ ?_
     . refine⟨0,rfl,?_⟩
       dsimp only[go_sem,reduceIte,YCS]
       simp only[Ya]
       rfl
     . rintro i rfl
       dsimp only[Yaq,Yd2,Yd3,Y5,Yb2,trmC,encR,Yd1,warmC,enc2,YCY,go_sem,reduceIte,YCS]
       simp only[Yd,YCS,YCU,reduceCtorEq,YCT]
       have e2:IntKind.i64.wrap (IntKind.i64.wrap ((m:Int).tdiv 12)-5)=(m:Int)/12-5:=by
         rw[Int.tdiv_eq_ediv_of_nonneg (by omega),YCW ((m:Int)/12) (by omega),YCW _ (by omega)]
       have e3:IntKind.i64.wrap (IntKind.i64.wrap (2*0)*((m:Int)/12-5))=2*0*((m:Int)/12-5):=by
         rw[show IntKind.i64.wrap (2*0)=0 by decide,Int.mul_zero,Int.zero_mul];decide
       rw[e2,e3]
       refine⟨fun hh=>absurd hh (by decide),fun _=>⟨by decide,h1,h0,by decide,⟨by unfold YW;omega,fun k hk=>Yns hk⟩,?_⟩⟩
       have hT:Ye1 L t0 t m=([(2,2*0*((m:Int)/12-5)),(273150+t,0),(273150+t0, -0)],2*0):=by
         rw[Ye1,<-hr,trmL,if_neg hc,trmD,if_neg hc];rfl
       refine YE (show k _ []from h) ?_ (fun _=>by simp [Ym,Yp,enc2])
       rw[hT]
       dsimp only[expo,go_sem,reduceIte,YCS]
       simp only[Ya]
       refine⟨⟨by decide,rfl,fun q hq=>?_⟩,by decide⟩
       rw[show IntKind.i64.wrap (0-0)= -0 by decide]
       rcases(show q=0\/q=1\/q=2 by omega)with rfl|rfl|rfl <;> exact Ye _
 . exact h.1.elim
def v45:VF:=⟨19,[.cell 6 true 2],(ZR [Zn 6] (ZR [Zm 10 0,Zm 11 1,Zd 12 51 10 11,Zm 9 12,Ze 13 0 9,Ze 14 1 9,Zm 7 13,Zm 8 14] (ZR [Zm 15 2,Zm 16 8,Zm 17 7,u1 18 (.call 48) [.tm 15,.tm 16,.tm 17],Zs 2 6 18] .ret)))⟩
theorem YB0:Yg YCX Tryz.f45=some v45:=by kernel_rfl
def v43:VF:=⟨31,[.cell 8 true 2,.tmp 9],(ZR [u1 4 .box [.tm 0],u1 5 .box [.tm 1],Zn 8,Zi 9 0] (ZR [Zt 13 3 4,Zt 14 27 5,Zd 15 53 13 14,Zm 12 15,Ze 16 0 12,Ze 17 1 12,Zm 10 16,Zm 11 17] (.seq (.block 0 (ZR [Zm 19 11,Zq 20 .neq 19 0,Zm 18 20] (ZC 18 (ZR [u1 21 (.build [(.int .i64 0),(.int .i64 0)] []) [],Zm 22 11,Zs 2 8 21,Zm 9 22] .ret) (ZR [Zm 24 2,Zc 25 77 24,u1 26 .not [.tm 25],Zm 23 26] (ZC 23 (ZR [u1 27 (.build [(.int .i64 0),(.int .i64 0)] []) [],Zs 2 8 27,Zi 9 2] .ret) .skip))))) (ZR [Zm 28 3,Zm 29 10,u1 30 .callv [.tm 28,.tm 29],Zs 2 8 30,Zi 9 0] .ret))))⟩
theorem YBZ:Yg YCX Tryz.f43=some v43:=by kernel_rfl
def v53:VF:=⟨26,[.tmp 4,.tmp 5],(ZR [u1 2 .box [.tm 0],u1 3 .box [.tm 1],u1 4 .mov [.cn (.val (.pointer none))],Zi 5 0] (.seq (ZR [Zt 9 3 2,Zc 10 61 9,Zm 6 10] (ZR [Zm 11 6,Zq 12 .neq 11 0] (ZC 12 (ZR [Zm 13 6,u1 4 .mov [.cn (.val (.pointer none))],Zm 5 13] .ret) .skip))) (ZR [Zt 15 27 3,Zc 16 29 15,Zm 14 16,Ze 17 0 14,Ze 18 1 14,Zm 7 17,Zm 8 18] (.seq (ZR [Zm 19 8,Zq 20 .neq 19 0] (ZC 20 (ZR [Zm 21 8,u1 4 .mov [.cn (.val (.pointer none))],Zm 5 21] .ret) .skip)) (ZR [Zt 22 3 2,Zm 23 7,u1 24 (.build [(.int .i64 0),(.int .i64 0),(.int .i64 0),.nil] [(0,3),(3,1)]) [.tm 22,.tm 23],u1 25 .box [.tm 24],Zm 4 25,Zi 5 0] .ret)))))⟩
theorem YB6:Yg YCX Tryz.f53=some v53:=by kernel_rfl
def v77:VF:=⟨9,[.tmp 2],(ZR [u1 2 .mov [.cn (.bool false)]] (ZR [Zm 3 0,Zq 4 .geq 3 0,Zm 5 4,Zg 6 5 true 0,u2 7 5 true (.cmp .leq) [.tm 6,.cn (.int .i64 139)],u1 8 .and [.tm 5,.tm 7],Zm 2 8] .ret))⟩
theorem YCq:Yg YCX Tryz.f77=some v77:=by kernel_rfl
def v46:VF:=⟨11,[.cell 4 true 2],(ZR [Zn 4] (ZR [Zm 5 0,Zf 6 1 1,Za 7 0 2,Zf 8 1 7,u1 9 (.ari .mul) [.cn (.int .i64 1000),.tm 8],u1 10 (.call 45) [.tm 5,.tm 6,.tm 9],Zs 2 4 10] .ret))⟩
theorem YB1:Yg YCX Tryz.f46=some v46:=by kernel_rfl
def v22:VF:=⟨15,[.cell 6 true 2,.tmp 7],(ZR [u1 3 .box [.tm 0],u1 4 .box [.tm 1],u1 5 .box [.tm 2],Zn 6,Zi 7 0] (ZR [Zt 8 3 3,Zt 9 27 4,Zf 10 1 5,u1 11 (.mkfn (.func 46) 0) [.tm 5,.tm 3],u1 12 (.call 43) [.tm 8,.tm 9,.tm 10,.tm 11],Ze 13 0 12,Ze 14 1 12,Zs 2 6 13,Zm 7 14] .ret))⟩
theorem YBK:Yg YCX Tryz.f22=some v22:=by kernel_rfl
theorem Ybm(T:Tm):Yt 27 (encT T)=encT T:=rfl
theorem lenT(T:Tm):lenL (encT T)=27:=rfl
def Yvt(L:Nat->Rt)(t0 t note u:Int):Int×Int:=pspF u (Ye1 L t0 t note).1 (Ye1 L t0 t note).2
def freqC:Ctr:={ alias:=false,of:=fun l=>match l with
 | [.xp _ [.int .i64 _,.int .i64 t0,.int .i64 t,.vs _ _ n sz get],.int .i64 note,.int .i64 u]=> .ex (Nat->Rt) fun L=> .pre ((n=12/\sz=7/\∀k,k<12->leXL (get k) (encR (L k)))/\(0<=note/\note<=139)/\Ycz t0=true/\Ycz t=true)
     (.fin (.agg [.int .i64 (Yvt L t0 t note u).1,.int .i64 (Yvt L t0 t note u).2]) [])
 |_=>noC}
theorem Yre(L:Nat->Rt)(t0 t note:Int):3<=(Ye1 L t0 t note).1.length/\(Ye1 L t0 t note).1.length<=9:=by
 have:(trmL (YkD L note)).length<=6:=by
   unfold trmL;split
   . exact Ydt _
   . simp
 simp only[Ye1,YDo,List.length_map,YDt,List.length_nil]
 omega
def TJ0:Env:={ ct:=fun n=>match n with|51=>some termC|48=>some pspC|_=>none,fn:=fun _=>none,meth:=fun _ _=>none}
theorem YrS:TJ0.ct 51=some termC:=rfl
theorem YrR:TJ0.ct 48=some pspC:=rfl
theorem YyF:Yo YCX TJ0:=by
 refine⟨fun f c h=>?_,fun f vf h=>?_,(fun _ _ _ h=>by cases h),by kernel_rfl,(fun _ h=>by cases h)⟩
 . simp only[TJ0]at h
   split at h
   . cases h;exact⟨YBw,Tryz.f51,Tryz.func51,by kernel_rfl,by kernel_rfl⟩
   . cases h;exact⟨psp_c,Tryz.f48,Tryz.func48,by kernel_rfl,by kernel_rfl⟩
   . cases h
 . cases h
theorem Yzz:freqC.ok YCX 45:=by
 refine Yb Tryz.func45 YB0 YyF 600 freqC fun args k h=>?_
 simp only[freqC]at h
 split at h
 . rename_i tt a t0 t tv zv n sz get note u
   obtain⟨L,⟨⟨rfl,rfl,hg⟩,hn,h0,h1⟩,h⟩:=h
   refine⟨[.xp tt [.int .i64 a,.int .i64 t0,.int .i64 t,.vs tv zv 12 7 (fun k=>encR (L k))],.int .i64 note,.int .i64 u],?_,?_⟩
   . simp only[YfL,YiQ,YsU,YmT,and_true,true_and]
     exact⟨id,⟨rfl,rfl⟩,⟨rfl,rfl⟩,⟨rfl,rfl⟩,⟨id,rfl,rfl,rfl,hg⟩,trivial⟩
   have hl:=Yre L t0 t note
   dsimp only[v45,YrS,YrR,termC,pspC,go_sem,reduceIte,YCS]
   simp only[Yd,YCS,YCU,reduceCtorEq,YCT]
   refine⟨L,⟨fun q _=>Ye _,hn,h0,h1⟩,by decide,by decide,(Ye1 L t0 t note).1,⟨⟨rfl,rfl,fun q _=>Ye _⟩,by omega,by omega⟩,?_⟩
   exact YdD (show k _ []from h)
 . exact h.1.elim
theorem Yzm{a t0 t:Int}(h:chkS a t0 t=0):(100000<=a/\a<=1000000)/\Ycz t0=true/\Ycz t=true:=by
 unfold chkS at h
 split at h
 . cases h
 . rename_i hn
   simp only[not_or,Bool.not_eq_false]at hn
   exact⟨by omega,hn.2.2.1,hn.2.2.2⟩
def Yi4(u a t0 t:Int)(T:Tm)(note:Int):(Int×Int)×Int:=
 if chkS a t0 t≠0 then((0,0),chkS a t0 t)else if Ybs T≠0 then((0,0),Ybs T)else if note<0\/139<note then((0,0),2)
 else(Yvt (YaS T) t0 t note u,0)
def micC:Ctr:={ alias:=false,of:=fun l=>match l with
 | [.agg [.int .i64 a,.int .i64 t0,.int .i64 t],.agg cs,.int .i64 note]=> .ex Tm fun T=> .pre (cs=encT T/\T.nm.size<=9223372036854775807) (.fin (.tup [.agg [.int .i64 (Yi4 (1000*a) a t0 t T note).1.1,.int .i64 (Yi4 (1000*a) a t0 t T note).1.2],.int .i64 (Yi4 (1000*a) a t0 t T note).2]) [])
 |_=>noC}
def TJ1:Env:={ ct:=fun n=>match n with|45=>some freqC|61=>some chkSC|29=>some NotC|_=>none,fn:=fun n=>match n with|43=>some v43|53=>some v53|77=>some v77|46=>some v46|_=>none,meth:=fun _ _=>none}
theorem YhV:TJ1.ct 45=some freqC:=rfl
theorem YhY:TJ1.ct 61=some chkSC:=rfl
theorem YhT:TJ1.ct 29=some NotC:=rfl
theorem YhU:TJ1.ct 43=none:=rfl
theorem Yh0:TJ1.fn 43=some v43:=rfl
theorem YhX:TJ1.ct 53=none:=rfl
theorem Yh2:TJ1.fn 53=some v53:=rfl
theorem YhZ:TJ1.ct 77=none:=rfl
theorem Yh3:TJ1.fn 77=some v77:=rfl
theorem YhW:TJ1.ct 46=none:=rfl
theorem Yh1:TJ1.fn 46=some v46:=rfl
theorem YyG:Yo YCX TJ1:=by
 refine⟨fun f c h=>?_,fun f vf h=>?_,(fun _ _ _ h=>by cases h),by kernel_rfl,(fun _ h=>by cases h)⟩
 . simp only[TJ1]at h
   split at h
   . cases h;exact⟨Yzz,Tryz.f45,Tryz.func45,by kernel_rfl,by kernel_rfl⟩
   . cases h;exact⟨YtN,Tryz.f61,Tryz.func61,by kernel_rfl,by kernel_rfl⟩
   . cases h;exact⟨Yuy,Tryz.f29,Tryz.func29,by kernel_rfl,by kernel_rfl⟩
   . cases h
 . simp only[TJ1]at h
   split at h
   . cases h;exact⟨Tryz.f43,Tryz.func43,YBZ,Tryz.f43,Tryz.func43,by kernel_rfl,by kernel_rfl⟩
   . cases h;exact⟨Tryz.f53,Tryz.func53,YB6,Tryz.f53,Tryz.func53,by kernel_rfl,by kernel_rfl⟩
   . cases h;exact⟨Tryz.f77,Tryz.func77,YCq,Tryz.f77,Tryz.func77,by kernel_rfl,by kernel_rfl⟩
   . cases h;exact⟨Tryz.f46,Tryz.func46,YB1,Tryz.f46,Tryz.func46,by kernel_rfl,by kernel_rfl⟩
   . cases h
theorem Yz6:micC.ok YCX 22:=by
 refine Yb Tryz.func22 YBK YyG 900 micC fun args k h=>?_
 simp only[micC]at h
 split at h
 . rename_i a t0 t cs note
   obtain⟨T,⟨rfl,hnm⟩,h⟩:=h
   refine⟨[.agg [.int .i64 a,.int .i64 t0,.int .i64 t],.agg (encT T),.int .i64 note],⟨⟨⟨rfl,rfl⟩,⟨rfl,rfl⟩,⟨rfl,rfl⟩,trivial⟩,Yc _ (Yu T _),⟨rfl,rfl⟩,trivial⟩,?_⟩
   dsimp only[v22,Ybm,lenT,YhV,freqC,YhY,chkSC,YhT,NotC,YhU,Yh0,v43,YhX,Yh2,v53,YhZ,Yh3,v77,YhW,Yh1,v46,go_sem,reduceIte,YCS]
   simp only[Yd,YCS,YCU,reduceCtorEq,YCT]
   refine⟨YbH T,YbH T,YbH T,fun hs=>?_,fun hs=>⟨T,⟨rfl,hnm⟩,?_⟩⟩
   . rw[Yi4,if_pos hs]at h
     exact⟨by decide,by decide,fun _=>⟨by decide,by decide,YdE (show k _ []from h)⟩,fun hh=>absurd hh hs⟩
   . rw[Yi4,if_neg (fun hh=>hh hs)]at h
     by_cases hT:Ybs T=0
     . rw[if_neg (fun hh=>hh hT)]at h⊢
       dsimp only[Ybm,lenT,YhV,freqC,YhY,chkSC,YhT,NotC,YhU,Yh0,v43,YhX,Yh2,v53,YhZ,Yh3,v77,YhW,Yh1,v46,go_sem,reduceIte,YCS]
       simp only[Yd,YCS,YCU,reduceCtorEq,YCT]
       refine⟨by decide,by decide,fun hh=>absurd trivial hh,?_⟩
       obtain⟨ha,hb0,hb1⟩:=Yzm hs
       rw[YCW (1000*a) (by omega)]
       refine⟨by decide,by decide,fun hh=>absurd trivial hh,fun hc=>?_,fun hc=>⟨YaS T,⟨fun q _=>Ye _,?_,hb0,hb1⟩,by decide,by decide,?_⟩⟩
       . have hc:note<0\/139<note:=by simp only[Bool.and_eq_false_iff,decide_eq_false_iff_not]at hc;omega
         rw[if_pos hc]at h
         exact⟨by decide,by decide,YdE (show k _ []from h)⟩
       . simpa using hc
       . have hc:0<=note/\note<=139:=by simpa using hc
         rw[if_neg (by omega)]at h
         exact YdE (show k _ []from h)
     . rw[if_pos hT]at h⊢
       dsimp only[Ybm,lenT,YhV,freqC,YhY,chkSC,YhT,NotC,YhU,Yh0,v43,YhX,Yh2,v53,YhZ,Yh3,v77,YhW,Yh1,v46,go_sem,reduceIte,YCS]
       simp only[Yd,YCS,YCU,reduceCtorEq,YCT]
       exact⟨by decide,by decide,fun _=>⟨by decide,by decide,fun _=>⟨by decide,by decide,YdE (show k _ []from h)⟩,fun hh=>absurd hh hT⟩,fun hh=>absurd hh hT⟩
 . exact h.1.elim
abbrev Iv:=Int×Int
def YcB(x:Int):Bool:=decide (-4611686018427387904<=x)&&decide (x<=4611686018427387904)
def ivE(l:List Iv):Int:=if l.all (fun a=>YcB a.1&&YcB a.2)then(if l.all (fun a=>decide (a.1<=a.2))then 0 else 2)else 7
theorem YvK{l:List Iv}{i:Nat}(h:i<l.length)(hb:(YcB (l.getD i default).1&&YcB (l.getD i default).2)=false):ivE l=7:=by
 rw[ivE,if_neg]
 intro hall
 have:=List.all_eq_true.1 hall _ (YK h)
 rw[hb]at this;cases this
theorem ivE_2{l:List Iv}(ha:∀j,j<l.length->(YcB (l.getD j default).1&&YcB (l.getD j default).2)=true){i:Nat}(h:i<l.length)(hb:(l.getD i default).2<(l.getD i default).1):ivE l=2:=by
 rw[ivE,if_pos,if_neg]
 . intro hall
   have:=List.all_eq_true.1 hall _ (YK h)
   simp only[decide_eq_true_eq]at this;omega
 . refine List.all_eq_true.2 fun x hx=>?_
   obtain⟨j,hj,rfl⟩:=YiW hx
   exact ha j hj
theorem ivE_0{l:List Iv}(ha:∀j,j<l.length->(YcB (l.getD j default).1&&YcB (l.getD j default).2)=true)(hb:∀j,j<l.length->(l.getD j default).1<=(l.getD j default).2):ivE l=0:=by
 rw[ivE,if_pos,if_pos]
 . refine List.all_eq_true.2 fun x hx=>?_
   obtain⟨j,hj,rfl⟩:=YiW hx
   simpa using hb j hj
 . refine List.all_eq_true.2 fun x hx=>?_
   obtain⟨j,hj,rfl⟩:=YiW hx
   exact ha j hj
theorem numOk_iff{x:Int}:YcB x=true↔ -4611686018427387904<=x/\x<=4611686018427387904:=by
 simp [YcB]
theorem ivE1{a:Iv}(h:ivE [a]=0):(-4611686018427387904<=a.1/\a.1<=4611686018427387904)/\(-4611686018427387904<=a.2/\a.2<=4611686018427387904)/\a.1<=a.2:=by
 unfold ivE at h
 split at h
 . rename_i h1
   split at h
   . rename_i h2
     simp only[List.all_cons,List.all_nil,Bool.and_true,YC0,decide_eq_true_eq]at h1 h2
     exact⟨numOk_iff.1 h1.1,numOk_iff.1 h1.2,h2⟩
   . cases h
 . cases h
theorem ivE2{a b:Iv}(h:ivE [a,b]=0):((-4611686018427387904<=a.1/\a.1<=4611686018427387904)/\(-4611686018427387904<=a.2/\a.2<=4611686018427387904)/\a.1<=a.2)/\(-4611686018427387904<=b.1/\b.1<=4611686018427387904)/\(-4611686018427387904<=b.2/\b.2<=4611686018427387904)/\b.1<=b.2:=by
 unfold ivE at h
 split at h
 . rename_i h1
   split at h
   . rename_i h2
     simp only[List.all_cons,List.all_nil,Bool.and_true,YC0,decide_eq_true_eq]at h1 h2
     exact⟨⟨numOk_iff.1 h1.1.1,numOk_iff.1 h1.1.2,h2.1⟩,numOk_iff.1 h1.2.1,numOk_iff.1 h1.2.2,h2.2⟩
   . cases h
 . cases h
def rndT(up:Bool)(x d:Int):Int:=if up then -((-x)/d)else x/d
def rndB(t:Int):Int×Bool:=if -4611686018427387904<=t/\t<=4611686018427387904 then(t,true)else(0,false)
def rndF(up:Bool)(x d:Int):Int×Bool:=rndB (rndT up x d)
def YwT(a b:Int×Bool):Iv×Int:=if a.2&&b.2 then((a.1,b.1),0)else((0,0),7)
def lowI(x:Int)(r:List Int):Int:=r.foldl (fun low y=>if y<low then y else low) x
def Ydy(x:Int)(r:List Int):Int:=r.foldl (fun high y=>if high<y then y else high) x
def YlT(d:Int)(x:Int)(r:List Int):Iv×Int:=YwT (rndF false (lowI x r) d) (rndF true (Ydy x r) d)
theorem Yqg(x:Int):∀(r:List Int),lowI x r∈x::r/\∀y∈x::r,lowI x r<=y:=by
 intro r
 induction r generalizing x with
 |nil=>exact⟨YC8,fun y hy=>by simp at hy;subst hy;exact Int.le_refl _⟩
 |cons a r ih=>
   have e:lowI x (a::r)=lowI (if a<x then a else x) r:=rfl
   rw[e]
   obtain⟨h1,h2⟩:=ih (if a<x then a else x)
   have h3:=h2 _ YC8
   generalize lowI (if a<x then a else x) r=L at*
   refine⟨?_,fun y hy=>?_⟩
   . rcases YDc.1 h1 with h|h
     . rw[h];split <;> simp
     . simp [h]
   . rcases YDc.1 hy with rfl|hy
     . split at h3 <;> omega
     . rcases YDc.1 hy with rfl|hy
       . split at h3 <;> omega
       . exact h2 _ (YC9 _ hy)
theorem YnG(x:Int):∀(r:List Int),Ydy x r∈x::r/\∀y∈x::r,y<=Ydy x r:=by
 intro r
 induction r generalizing x with
 |nil=>exact⟨YC8,fun y hy=>by simp at hy;subst hy;exact Int.le_refl _⟩
 |cons a r ih=>
   have e:Ydy x (a::r)=Ydy (if x<a then a else x) r:=rfl
   rw[e]
   obtain⟨h1,h2⟩:=ih (if x<a then a else x)
   have h3:=h2 _ YC8
   generalize Ydy (if x<a then a else x) r=L at*
   refine⟨?_,fun y hy=>?_⟩
   . rcases YDc.1 h1 with h|h
     . rw[h];split <;> simp
     . simp [h]
   . rcases YDc.1 hy with rfl|hy
     . split at h3 <;> omega
     . rcases YDc.1 hy with rfl|hy
       . split at h3 <;> omega
       . exact h2 _ (YC9 _ hy)
def bump(up neg:Bool)(r:Nat):Nat:=if decide (r≠0)&&(up !=neg)then 1 else 0
theorem YwK{up:Bool}{x:Int}{d:Nat}(hd:0<d):rndT up x d=nsg (decide (x<0)) (x.natAbs/d+bump up (decide (x<0)) (x.natAbs%d)):=by
 have hm:=YDs x.natAbs hd
 have e:=Nat.div_add_mod x.natAbs d
 have pos:∀n:Nat,(n:Int)/(d:Int)=((n/d:Nat):Int):=fun n=>(Int.natCast_ediv n d).symm
 have neg:∀n:Nat,(-(n:Int))/(d:Int)= -(((n/d+if n%d=0 then 0 else 1:Nat)):Int):=fun n=>by
   have e:=Nat.div_add_mod n d
   have hm:=YDs n hd
   by_cases h0:n%d=0
   . rw[if_pos h0]
     have:(n:Int)=((n/d:Nat):Int)*(d:Int):=by
       have:n=n/d*d:=by rw[YDq];omega
       exact_mod_cast this
     conv=>lhs;rw[this,<-Int.neg_mul]
     rw[Int.mul_ediv_cancel _ (by omega)];simp
   . rw[if_neg h0]
     have hq:(n:Int)=(d:Int)*((n/d:Nat):Int)+((n%d:Nat):Int):=by exact_mod_cast e.symm
     apply Int.le_antisymm
     . apply Int.le_of_lt_add_one
       rw[Int.ediv_lt_iff_lt_mul (by omega)]
       conv=>lhs;rw[hq]
       have hm:((n%d:Nat):Int)>0:=by omega
       generalize n%d=m at*
       generalize n/d=q at*
       push_cast
       grind
     . rw[Int.le_ediv_iff_mul_le (by omega)]
       conv=>rhs;rw[hq]
       have hm:((n%d:Nat):Int)<d:=by omega
       generalize n%d=m at*
       generalize n/d=q at*
       push_cast
       grind
 obtain⟨n,hn⟩:∃n:Nat,n=x.natAbs:=⟨_,rfl⟩
 rw[<-hn]
 unfold rndT bump nsg
 by_cases hx:x<0
 . have ex:x= -(n:Int):=by omega
   cases up
   . simp only[hx,decide_true,if_true,YDa,if_false]
     rw[ex,neg n]
     by_cases h0:n%d=0 <;> simp [h0]
   . simp only[hx,decide_true,if_true,bne_self_eq_false,Bool.and_false,YDa,if_false]
     rw[ex,Int.neg_neg,pos n];simp
 . have ex:x=(n:Int):=by omega
   cases up
   . simp only[hx,decide_false,YDa,if_false,bne_self_eq_false,Bool.and_false]
     rw[ex,pos n];simp
   . simp only[hx,decide_false,YDa,if_false,if_true]
     rw[ex,neg n]
     by_cases h0:n%d=0 <;> simp [h0]
def Ygk(v:Int):List SV:=[.bool (decide (v<0)),.int .u64 ((v.natAbs/18446744073709551616:Nat):Int),.int .u64 ((v.natAbs%18446744073709551616:Nat):Int)]
def YsX(x:Int)(n:Bool)(h l:Int):Prop:=n=decide (x<0)/\h=((x.natAbs/18446744073709551616:Nat):Int)/\l=((x.natAbs%18446744073709551616:Nat):Int)
theorem Yan(x:Int):YsX x (decide (x<0)) ((x.natAbs/18446744073709551616:Nat):Int) ((x.natAbs%18446744073709551616:Nat):Int):=⟨rfl,rfl,rfl⟩
def big(x:Int):Prop:=x.natAbs<340282366920938463463374607431768211456
def fitF(lo hi:Int):Iv×Int:=if YcB lo&&YcB hi then((lo,hi),0)else((0,0),7)
def errI(e:Int):Iv×Int:=((0,0),e)
def addF(a b:Iv):Iv×Int:=if ivE [a,b]≠0 then errI (ivE [a,b])else fitF (a.1+b.1) (a.2+b.2)
def subF(a b:Iv):Iv×Int:=if ivE [a,b]≠0 then errI (ivE [a,b])else addF a (-b.2, -b.1)
def sclF(a:Iv)(num den:Int):Iv×Int:=if ivE [a]≠0 then errI (ivE [a])else if den<1\/4611686018427387904<den\/num< -4611686018427387904\/4611686018427387904<num then errI 2 else YlT den (a.1*num) [a.2*num]
def v97:VF:=⟨9,[.tmp 2],(ZR [u1 2 .mov [.cn (.bool false)]] (ZR [Zm 3 0,Zq 4 .geq 3 (-4611686018427387904),Zm 5 4,Zg 6 5 true 0,u2 7 5 true (.cmp .leq) [.tm 6,.cn (.int .i64 4611686018427387904)],u1 8 .and [.tm 5,.tm 7],Zm 2 8] .ret))⟩
theorem YCI:Yg YCX Tryz.f97=some v97:=by kernel_rfl
def v75:VF:=⟨36,[.tmp 2],(ZR [Zi 2 0] (.seq (ZR [Zm 7 0,Zl 8 7,Zi 9 0] (.block 0 (.loop (ZR [Zr 10 .lss 9 8] (.seq (ZC 10 .skip (.exit 0)) (.seq (.block 1 (ZR [Zx 11 2 7 9,Zt 12 2 11,Zn 4,Zs 2 4 12] (ZR [Za 13 0 4,Zf 14 1 13,Zc 15 97 14,u1 16 .not [.tm 15],Zm 17 16,Zj 18 17 false 1 4,Zh 19 17 false 1 18,u2 20 17 false (.call 97) [.tm 19],u2 21 17 false .not [.tm 20],u1 22 .or [.tm 17,.tm 21]] (ZC 22 (ZR [Zi 2 7] .ret) .skip)))) (.region [Zp 23 9 1,Zm 9 23]))))))) (.seq (ZR [Zm 24 0,Zl 25 24,Zi 26 0] (.block 2 (.loop (ZR [Zr 27 .lss 26 25] (.seq (ZC 27 .skip (.exit 2)) (.seq (.block 3 (ZR [Zx 28 2 24 26,Zt 29 2 28,Zn 6,Zs 2 6 29] (ZR [Za 30 0 6,Zf 31 1 30,Za 32 1 6,Zf 33 1 32,Zr 34 .gtr 31 33] (ZC 34 (ZR [Zi 2 2] .ret) .skip)))) (.region [Zp 35 26 1,Zm 26 35]))))))) (ZR [Zi 2 0] .ret))))⟩
theorem YCo:Yg YCX Tryz.f75=some v75:=by kernel_rfl
def v121:VF:=⟨8,[.tmp 2],(ZR [u1 2 .mov [.cn (.int .u64 0)]] (ZR [Zm 3 0,Zm 4 0,u1 5 .neg [.tm 4],u1 6 .max [.tm 3,.tm 5],u1 7 (.conv .u64) [.tm 6],Zm 2 7] .ret))⟩
theorem Yxs:Yg YCX Tryz.f121=some v121:=by kernel_rfl
def v99:VF:=⟨29,[.cell 4 true 3],(ZR [u1 4 (.alloc [(.bool false),(.int .u64 0),(.int .u64 0)]) []] (ZR [Zm 8 0,Zc 9 121 8,Zm 10 1,Zc 11 121 10,Zd 12 120 9 11,Zm 7 12,Ze 13 0 7,Ze 14 1 7,Zm 5 13,Zm 6 14] (ZR [Zm 15 0,Zq 16 .lss 15 0,Zm 17 1,Zq 18 .lss 17 0,u1 19 (.eqb true) [.tm 16,.tm 18],Zm 20 19,Zg 21 20 true 5,Zg 22 20 true 6,u2 23 20 true (.bit .or) [.tm 21,.tm 22],u2 24 20 true (.cmp .neq) [.tm 23,.cn (.int .u64 0)],u1 25 .and [.tm 20,.tm 24],Zm 26 5,Zm 27 6,u1 28 (.build [(.bool false),(.int .u64 0),(.int .u64 0)] [(0,1),(1,1),(2,1)]) [.tm 25,.tm 26,.tm 27],Zs 3 4 28] .ret)))⟩
theorem YCK:Yg YCX Tryz.f99=some v99:=by kernel_rfl
def v118:VF:=⟨39,[.tmp 4],(ZR [u1 2 .box [.tm 0],u1 3 .box [.tm 1],u1 4 .mov [.cn (.bool false)]] (.seq (ZR [Zt 6 3 2,Zt 7 3 3,u1 8 (.eqv false [false,true,true]) [.tm 6,.tm 7]] (ZC 8 (ZR [u1 4 .mov [.cn (.bool false)]] .ret) .skip)) (.seq (ZR [Za 9 0 2,Zf 10 1 9,Za 11 0 3,Zf 12 1 11,u1 13 (.eqb true) [.tm 10,.tm 12]] (ZC 13 (ZR [Za 14 0 2,Zf 15 1 14,Zm 4 15] .ret) .skip)) (ZR [Za 16 1 2,Zf 17 1 16,Za 18 1 3,Zf 19 1 18,Zr 20 .lss 17 19,Zm 21 20,Zj 22 21 false 1 2,Zh 23 21 false 1 22,Zj 24 21 false 1 3,Zh 25 21 false 1 24,u2 26 21 false (.cmp .eql) [.tm 23,.tm 25],Zg 27 21 false 26,Zj 28 27 true 2 2,Zh 29 27 true 1 28,Zj 30 27 true 2 3,Zh 31 27 true 1 30,u2 32 27 true (.cmp .lss) [.tm 29,.tm 31],u2 33 21 false .and [.tm 27,.tm 32],u1 34 .or [.tm 21,.tm 33],Zm 5 34] (ZR [Zm 35 5,Za 36 0 2,Zf 37 1 36,u1 38 (.eqb true) [.tm 35,.tm 37],Zm 4 38] .ret)))))⟩
theorem Yxp:Yg YCX Tryz.f118=some v118:=by kernel_rfl
def v119:VF:=⟨56,[.tmp 6,.tmp 7],(ZR [u1 3 .box [.tm 0],Zi 6 0,u1 7 .mov [.cn (.bool false)]] (.seq (ZR [Za 10 1 3,Zf 11 1 10,Zm 12 1,Zr 13 .geq 11 12] (ZC 13 (ZR [Zi 6 0,u1 7 .mov [.cn (.bool false)]] .ret) .skip)) (ZR [Za 15 1 3,Zf 16 1 15,Za 17 2 3,Zf 18 1 17,Zm 19 1,u1 20 (.call 130) [.tm 16,.tm 18,.tm 19],Zm 14 20,Ze 21 0 14,Ze 22 1 14,Zm 8 21,Zm 9 22] (.seq (ZR [Zm 23 9,u1 24 (.cmp .neq) [.tm 23,.cn (.int .u64 0)],Zm 25 24,Zg 26 25 true 2,Zj 27 25 true 0 3,Zh 28 25 true 1 27,u2 29 25 true (.eqb true) [.tm 26,.tm 28],u1 30 .and [.tm 25,.tm 29]] (ZC 30 (.region [Zm 31 8,u1 32 (.ari .add) [.tm 31,.cn (.int .u64 1)],Zm 8 32]) .skip)) (.seq (ZR [Zm 33 8,u1 34 (.cmp .gtr) [.tm 33,.cn (.int .u64 4611686018427387904)],Zm 35 34,Zg 36 35 false 8,u2 37 35 false (.cmp .eql) [.tm 36,.cn (.int .u64 0)],Zg 38 35 false 37,Zg 39 38 true 9,u2 40 38 true (.cmp .neq) [.tm 39,.cn (.int .u64 0)],u2 41 35 false .and [.tm 38,.tm 40],Zg 42 35 false 41,Zg 43 42 true 2,Zj 44 42 true 0 3,Zh 45 42 true 1 44,u2 46 42 true (.eqb true) [.tm 43,.tm 45],u2 47 35 false .and [.tm 42,.tm 46],u1 48 .or [.tm 35,.tm 47]] (ZC 48 (ZR [Zi 6 0,u1 7 .mov [.cn (.bool false)]] .ret) .skip)) (.seq (ZR [Za 49 0 3,Zf 50 1 49] (ZC 50 (ZR [Zm 51 8,u1 52 (.conv .i64) [.tm 51],u1 53 .neg [.tm 52],Zm 6 53,u1 7 .mov [.cn (.bool true)]] .ret) .skip)) (ZR [Zm 54 8,u1 55 (.conv .i64) [.tm 54],Zm 6 55,u1 7 .mov [.cn (.bool true)]] .ret)))))))⟩
theorem Yxq:Yg YCX Tryz.f119=some v119:=by kernel_rfl
def v98:VF:=⟨58,[.cell 4 true 2,.tmp 5],(ZR [Zn 4,Zi 5 0] (.seq (.draw [(6,.box [(.bool false),(.int .u64 0),(.int .u64 0)]),(7,.box [(.bool false),(.int .u64 0),(.int .u64 0)])] [Zu 14 1,w1 15 (.idxAddr 3) [.tm 14,.cn (.int .i64 0)],Zw 16 3 15,Zu 17 1,w1 18 (.idxAddr 3) [.tm 17,.cn (.int .i64 0)],Zw 19 3 18,⟨Zs 3 6 16,[.tm 18]⟩,ZS 3 7 19]) (.seq (ZR [Zm 20 1,u1 21 (.slice 3 true false) [.tm 20,.cn (.int .i64 1)],Zl 22 21,Zi 23 0] (.block 0 (.loop (ZR [Zr 24 .lss 23 22] (.seq (ZC 24 .skip (.exit 0)) (.seq (.block 1 (ZR [Zx 25 3 21 23,Zt 26 3 25,u1 9 (.alloc [(.bool false),(.int .u64 0),(.int .u64 0)]) [],Zs 3 9 26] (.seq (ZR [Zt 27 3 9,Zt 28 3 6,Zd 29 118 27 28] (ZC 29 (.region [Zt 30 3 9,Zs 3 6 30]) .skip)) (ZR [Zt 31 3 7,Zt 32 3 9,Zd 33 118 31 32] (ZC 33 (.region [Zt 34 3 9,Zs 3 7 34]) .skip))))) (.region [Zp 35 23 1,Zm 23 35]))))))) (ZR [Zt 37 3 6,Zm 38 0,u1 39 (.call 119) [.tm 37,.tm 38,.cn (.bool false)],Zm 36 39,Ze 40 0 36,Ze 41 1 36,Zm 10 40,Zm 11 41] (ZR [Zt 43 3 7,Zm 44 0,u1 45 (.call 119) [.tm 43,.tm 44,.cn (.bool true)],Zm 42 45,Ze 46 0 42,Ze 47 1 42,Zm 12 46,Zm 13 47] (.seq (ZR [Zm 48 11,u1 49 .not [.tm 48],Zm 50 49,Zg 51 50 false 13,u2 52 50 false .not [.tm 51],u1 53 .or [.tm 50,.tm 52]] (ZC 53 (ZR [u1 54 (.build [(.int .i64 0),(.int .i64 0)] []) [],Zs 2 4 54,Zi 5 7] .ret) .skip)) (ZR [Zm 55 10,Zm 56 12,u1 57 (.build [(.int .i64 0),(.int .i64 0)] [(0,1),(1,1)]) [.tm 55,.tm 56],Zs 2 4 57,Zi 5 0] .ret)))))))⟩
theorem YCJ:Yg YCX Tryz.f98=some v98:=by kernel_rfl
def v113:VF:=⟨18,[.cell 4 true 2,.tmp 5],(ZR [Zn 4,Zi 5 0] (.seq (ZR [Zm 6 0,Zc 7 97 6,u1 8 .not [.tm 7],Zm 9 8,Zg 10 9 false 1,u2 11 9 false (.call 97) [.tm 10],u2 12 9 false .not [.tm 11],u1 13 .or [.tm 9,.tm 12]] (ZC 13 (ZR [u1 14 (.build [(.int .i64 0),(.int .i64 0)] []) [],Zs 2 4 14,Zi 5 7] .ret) .skip)) (ZR [Zm 15 0,Zm 16 1,u1 17 (.build [(.int .i64 0),(.int .i64 0)] [(0,1),(1,1)]) [.tm 15,.tm 16],Zs 2 4 17,Zi 5 0] .ret)))⟩
theorem Yxk:Yg YCX Tryz.f113=some v113:=by kernel_rfl
def numC:Ctr:={ alias:=false,of:=fun l=>match l with| [.int .i64 n]=> .fin (.bool (YcB n)) [] |_=>noC}
def ivlC:Ctr:={ alias:=false,of:=fun a=>match a with
 | [.vs _ _ n sz get]=> .ex (List Iv) fun l=> .pre (lsP 2 enc2 n sz get l/\l.length<=1000000) (.fin (.int .i64 (ivE l)) [])
 |_=>noC}
def sizC:Ctr:={ alias:=false,of:=fun l=>match l with
 | [.int .i64 n]=> .pre (-9223372036854775808<=n/\n<=9223372036854775807) (.fin (.int .u64 (n.natAbs:Int)) [])
 |_=>noC}
def timC:Ctr:={ alias:=false,of:=fun l=>match l with
 | [.int .i64 a,.int .i64 b]=> .pre ((-9223372036854775808<=a/\a<=9223372036854775807)/\ -9223372036854775808<=b/\b<=9223372036854775807) (.fin (.agg (Ygk (a*b))) [])
 |_=>noC}
def lessC:Ctr:={ alias:=false,of:=fun l=>match l with
 | [.agg [.bool n,.int .u64 h,.int .u64 lo],.agg [.bool n',.int .u64 h',.int .u64 lo']]=> .ex Int fun x=> .ex Int fun y=> .pre (YsX x n h lo/\YsX y n' h' lo') (.fin (.bool (decide (x<y))) [])
 |_=>noC}
def overC:Ctr:={ alias:=false,of:=fun l=>match l with
 | [.agg [.bool n,.int .u64 h,.int .u64 lo],.int .u64 d,.bool up]=> .ex Int fun x=> .pre (YsX x n h lo/\big x/\0<d/\d<=18446744073709551615) (.fin (.tup [.int .i64 (rndF up x d).1,.bool (rndF up x d).2]) [])
 |_=>noC}
def spanC:Ctr:={ alias:=false,of:=fun l=>match l with
 | [.int .u64 d,.vs _ _ n sz get]=> .ex Int fun x=> .ex (List Int) fun r=> .pre (lsP 3 Ygk n sz get (x::r)/\r.length<=1000/\(∀y∈x::r,big y)/\0<d/\d<=18446744073709551615) (.fin (.tup [.agg (enc2 (YlT d x r).1),.int .i64 (YlT d x r).2]) [])
 |_=>noC}
def fitC:Ctr:={ alias:=false,of:=fun l=>match l with
 | [.int .i64 a,.int .i64 b]=> .fin (.tup [.agg (enc2 (fitF a b).1),.int .i64 (fitF a b).2]) []
 |_=>noC}
def P0:Env:={ ct:=fun _=>none,fn:=fun _=>none,meth:=fun _ _=>none}
theorem Yx7:Yo YCX P0:=by
 refine⟨fun f c h=>?_,fun f vf h=>?_,(fun _ _ _ h=>by cases h),by kernel_rfl,(fun _ h=>by cases h)⟩
 . cases h
 . cases h
theorem YmY:numC.ok YCX 97:=by
 refine Yb Tryz.func97 YCI Yx7 100 numC fun args k h=>⟨args,?_⟩
 simp only[numC]at h
 split at h
 . refine⟨by simp [leL,le],?_⟩
   (try dsimp only[v97,go_sem,reduceIte])
   (try simp only[Yd,YCS,YCU,reduceCtorEq,YCT])
   exact Yw h
 . exact h.1.elim
theorem YBt:sizC.ok YCX 121:=by
 refine Yb Tryz.func121 Yxs Yx7 100 sizC fun args k h=>⟨args,?_⟩
 simp only[sizC]at h
 split at h
 . rename_i n
   obtain⟨⟨h0,h1⟩,h⟩:=h
   refine⟨by simp [leL,le],?_⟩
   (try dsimp only[v121,go_sem,reduceIte])
   (try simp only[Yd,YCS,YCU,reduceCtorEq,YCT])
   have e:IntKind.u64.wrap (max n (IntKind.i64.wrap (0-n)))=(n.natAbs:Int):=by
     rcases Int.lt_or_le n (-9223372036854775807)with h'|h'
     . obtain rfl:n= -9223372036854775808:=by omega
       decide
     . rw[YCW _ (by omega),YDl _ (by omega)];omega
   rw[e]
   exact Yj h
 . exact h.1.elim
def P1:Env:={ ct:=fun n=>match n with|97=>some numC|121=>some sizC|120=>some mul64C|130=>some div64C|_=>none,fn:=fun _=>none,meth:=fun _ _=>none}
theorem Yuz:P1.ct 97=some numC:=rfl
theorem Yrv:P1.ct 121=some sizC:=rfl
theorem Yru:P1.ct 120=some mul64C:=rfl
theorem Yrw:P1.ct 130=some div64C:=rfl
theorem Yrx:Yo YCX P1:=by
 refine⟨fun f c h=>?_,fun f vf h=>?_,(fun _ _ _ h=>by cases h),by kernel_rfl,(fun _ h=>by cases h)⟩
 . simp only[P1]at h
   split at h
   . cases h;exact⟨YmY,Tryz.f97,Tryz.func97,by kernel_rfl,by kernel_rfl⟩
   . cases h;exact⟨YBt,Tryz.f121,Tryz.func121,by kernel_rfl,by kernel_rfl⟩
   . cases h;exact⟨YiX,Tryz.f120,Tryz.func120,by kernel_rfl,by kernel_rfl⟩
   . cases h;exact⟨Ysx,Tryz.f130,Tryz.func130,by kernel_rfl,by kernel_rfl⟩
   . cases h
 . cases h
theorem Yt1:ivlC.ok YCX 75:=by
 refine Yb Tryz.func75 YCo Yrx 400 ivlC fun args k h=>?_
 simp only[ivlC]at h
 split at h
 . rename_i tt z n sz get
   obtain⟨l,⟨⟨rfl,rfl,hg⟩,hmax⟩,h⟩:=h
   refine⟨[.vs tt z l.length 2 (fun k=>enc2 (l.getD k default))],by simpa [leL,le]using hg,?_⟩
   (try dsimp only[v75,enc2,go_sem,reduceIte])
   (try simp only[Yd,YCS,YCU,reduceCtorEq,YCT])
   refine Loop.keep [0,6,0,0] Nat (fun i=>[(9,.int .i64 i)]) (fun _=>[]) [] (fun i=>i<=l.length/\∀j,j<i->(YcB (l.getD j default).1&&YcB (l.getD j default).2)=true) (fun i=>l.length-i) ?_ ?_
   . refine⟨0,⟨YDy _,fun j h=>by omega⟩,?_⟩
     (try dsimp only[go_sem,reduceIte])
     simp only[Ya]
     simp
   . rintro i ⟨hi,ha⟩
     (try dsimp only[Yuz,numC,enc2,YCY,go_sem,reduceIte])
     (try simp only[Yd,YCS,YCU,reduceCtorEq,YCT])
     refine⟨fun hlt=>⟨⟨by omega,hlt⟩,fun hb=>Yj ?_,fun hb=>?_⟩,fun hge=>?_⟩
     . have e:=YvK (l:=l) (i:=i) (by omega) (by rw[<-Bool.not_and,YDe]at hb;exact hb)
       rw[e]at h;exact h
     . rw[<-Bool.not_and]at hb
       refine⟨i+1,⟨by omega,fun j hj=>?_⟩,by omega,?_⟩
       . rcases YC4 j i with h'|h'
         . exact ha j h'
         . obtain rfl:j=i:=by omega
           simpa using hb
       . have hw:=Yfn (i:=i) (n:=l.length) (by omega) (by omega)
         simp only[hw,Ya] <;> simp
     . obtain rfl:i=l.length:=by omega
       refine Loop.keep [0,23,0,0] Nat (fun i=>[(26,.int .i64 i)]) (fun _=>[]) [] (fun i=>i<=l.length/\∀j,j<i->(l.getD j default).1<=(l.getD j default).2) (fun i=>l.length-i) ?_ ?_
       . refine⟨0,⟨YDy _,fun j h=>by omega⟩,?_⟩
         (try dsimp only[go_sem,reduceIte])
         simp only[Ya]
         simp
       . rintro i ⟨hi,hc⟩
         (try dsimp only[enc2,YCY,go_sem,reduceIte])
         (try simp only[Yd,YCS,YCU,reduceCtorEq,YCT])
         refine⟨fun hlt=>⟨⟨by omega,hlt⟩,fun hb=>Yj ?_,fun hb=>?_⟩,fun hge=>?_⟩
         . have e:=ivE_2 ha (i:=i) (by omega) (by omega)
           rw[e]at h;exact h
         . refine⟨i+1,⟨by omega,fun j hj=>?_⟩,by omega,?_⟩
           . rcases YC4 j i with h'|h'
             . exact hc j h'
             . obtain rfl:j=i:=by omega
               omega
           . have hw:=Yfn (i:=i) (n:=l.length) (by omega) (by omega)
             simp only[hw,Ya] <;> simp
         . obtain rfl:i=l.length:=by omega
           rw[ivE_0 ha hc]at h
           exact Yj h
 . exact h.1.elim
theorem Yuq:timC.ok YCX 99:=by
 refine Yb Tryz.func99 YCK Yrx 200 timC fun args k h=>⟨args,?_⟩
 simp only[timC]at h
 split at h
 . rename_i a b
   obtain⟨⟨ha,hb⟩,h⟩:=h
   refine⟨by simp [leL,le],?_⟩
   (try dsimp only[v99,Yrv,Yru,sizC,mul64C,go_sem,reduceIte])
   (try simp only[Yd,YCS,YCU,reduceCtorEq,YCT])
   obtain⟨P,hP⟩:∃P,P=a.natAbs*b.natAbs:=⟨_,rfl⟩
   have hPb:P<=9223372036854775808*9223372036854775808:=by rw[hP];exact Nat.mul_le_mul (by omega) (by omega)
   have e0:(a.natAbs:Int)*(b.natAbs:Int)=(P:Int):=by rw[hP];exact(Int.natCast_mul _ _).symm
   have e1:(P:Int)/18446744073709551616=((P/18446744073709551616:Nat):Int):=by omega
   have e2:(P:Int)%18446744073709551616=((P%18446744073709551616:Nat):Int):=by omega
   rw[e0,e1,e2,Yza (by omega) (by omega)]
   refine⟨ha,hb,⟨⟨by omega,by omega⟩,by omega,by omega⟩,by decide,by decide,?_⟩
   have e3:(a*b).natAbs=P:=by rw[hP,Int.natAbs_mul]
   have e4:(!(decide (a<0)==decide (b<0))&& !decide (((P/18446744073709551616||| P%18446744073709551616:Nat):Int)=0))=decide (a*b<0):=by
     have z:decide (((P/18446744073709551616||| P%18446744073709551616:Nat):Int)=0)=decide (P=0):=by
       congr 1
       apply propext
       have:= @Nat.or_eq_zero_iff (P/18446744073709551616) (P%18446744073709551616)
       omega
     rw[z]
     have hz:P=0↔a=0\/b=0:=by rw[hP,Nat.mul_eq_zero];omega
     rcases Int.lt_trichotomy a 0 with h1|h1|h1 <;> rcases Int.lt_trichotomy b 0 with h2|h2|h2
     . have:=Int.mul_pos_of_neg_of_neg h1 h2
       simp [h1,h2];omega
     . subst h2;simp [hz]
     . have:=Int.mul_neg_of_neg_of_pos h1 h2
       have hb':¬b<0:=by omega
       simp [h1,hb',this,hz];omega
     . subst h1;simp [hz]
     . subst h1;simp [hz]
     . subst h1;simp [hz]
     . have:=Int.mul_neg_of_pos_of_neg h1 h2
       have ha':¬a<0:=by omega
       simp [h2,ha',this,hz];omega
     . subst h2;simp [hz]
     . have:=Int.mul_pos h1 h2
       have ha':¬a<0:=by omega
       have hb':¬b<0:=by omega
       simp [ha',hb'];omega
   rw[e4]
   have h:k (.agg (Ygk (a*b))) []:=h
   rw[Ygk,e3]at h
   exact YE (show k _ []from h) (YA (.agg [.bool (decide (a*b<0)),.int .u64 ((P/18446744073709551616:Nat):Int),.int .u64 ((P%18446744073709551616:Nat):Int)]) ⟨trivial,trivial,trivial,trivial⟩) (fun _=>by simp [Ym,Yp])
 . exact h.1.elim
theorem YvU:lessC.ok YCX 118:=by
 refine Yb Tryz.func118 Yxp Yrx 200 lessC fun args k h=>⟨args,?_⟩
 simp only[lessC]at h
 split at h
 . rename_i n hi lo n' hi' lo'
   obtain⟨x,y,⟨⟨rfl,rfl,rfl⟩,rfl,rfl,rfl⟩,h⟩:=h
   refine⟨by simp [leL,le],?_⟩
   (try dsimp only[v118,go_sem,reduceIte])
   (try simp only[Yd,YCS,YCU,reduceCtorEq,YCT])
   refine⟨fun hc=>Yw ?_,fun hc=>⟨fun hd=>Yw ?_,fun hd=>⟨fun h1 h2=>by rw[decide_eq_false h1,decide_eq_true h2];rfl,Yw ?_⟩⟩⟩
   . simp only[YC0,Bool.and_true,decide_eq_true_eq,beq_iff_eq,decide_eq_decide]at hc
     have:x=y:=by omega
     subst this
     have h:k (.bool (decide (x<x))) []:=h
     rw[decide_eq_false (Int.lt_irrefl x)]at h
     exact h
   . have:decide (x<y)=decide (x<0):=by
       rw[beq_eq_false_iff_ne,ne_eq,decide_eq_decide]at hd
       rw[decide_eq_decide];omega
     rw[<-this];exact h
   . have:(!((decide (((x.natAbs/18446744073709551616:Nat):Int)<((y.natAbs/18446744073709551616:Nat):Int)) || decide (((x.natAbs/18446744073709551616:Nat):Int)=((y.natAbs/18446744073709551616:Nat):Int))&&decide (((x.natAbs%18446744073709551616:Nat):Int)<((y.natAbs%18446744073709551616:Nat):Int)))==decide (x<0)))=decide (x<y):=by
       simp only[beq_iff_eq,decide_eq_decide]at hd
       simp only[Bool.and_eq_false_iff,Bool.and_true,decide_eq_false_iff_not,beq_eq_false_iff_ne,ne_eq,decide_eq_decide]at hc
       have e:(decide (((x.natAbs/18446744073709551616:Nat):Int)<((y.natAbs/18446744073709551616:Nat):Int)) || decide (((x.natAbs/18446744073709551616:Nat):Int)=((y.natAbs/18446744073709551616:Nat):Int))&&decide (((x.natAbs%18446744073709551616:Nat):Int)<((y.natAbs%18446744073709551616:Nat):Int)))=decide (x.natAbs<y.natAbs):=by
         rw[Bool.eq_iff_iff]
         simp only[YDm,YC0,decide_eq_true_eq]
         omega
       rw[e]
       by_cases hx:x<0
       . rw[decide_eq_true hx,Bool.eq_iff_iff,YDe,beq_eq_false_iff_ne,ne_eq,decide_eq_true_eq,decide_eq_true_eq];omega
       . rw[decide_eq_false hx,Bool.eq_iff_iff,YDe,beq_eq_false_iff_ne,ne_eq,decide_eq_false_iff_not,decide_eq_true_eq];omega
     rw[this];exact h
 . exact h.1.elim
theorem YlO:overC.ok YCX 119:=by
 refine Yb Tryz.func119 Yxq Yrx 200 overC fun args k h=>⟨args,?_⟩
 simp only[overC]at h
 split at h
 . rename_i n hi lo d up
   obtain⟨x,⟨⟨rfl,rfl,rfl⟩,hbx,hd0,hd1⟩,h⟩:=h
   refine⟨by simp [leL,le],?_⟩
   (try dsimp only[v119,Yrw,div64C,go_sem,reduceIte])
   (try simp only[Yd,YCS,YCU,reduceCtorEq,YCT])
   obtain⟨d,rfl⟩:=Int.eq_ofNat_of_zero_le (by omega:0<=d)
   obtain⟨m,hm⟩:∃m,m=x.natAbs:=⟨_,rfl⟩
   have hT:=YwK (up:=up) (x:=x) (d:=d) (by omega)
   have e0:((m/18446744073709551616:Nat):Int)*18446744073709551616+((m%18446744073709551616:Nat):Int)=m:=by omega
   have e1:(m:Int)/(d:Int)=((m/d:Nat):Int):=(Int.natCast_ediv _ _).symm
   have e2:(m:Int)%(d:Int)=((m%d:Nat):Int):=(Int.natCast_emod _ _).symm
   rw[<-hm]at hT⊢
   rw[e0,e1,e2]
   have hF:rndF up x d=rndB (nsg (decide (x<0)) (m/d+bump up (decide (x<0)) (m%d))):=by unfold rndF;rw[hT]
   have hfail:4611686018427387904<m/d+bump up (decide (x<0)) (m%d)->rndF up x d=(0,false):=fun hh=>by
     rw[hF,rndB,if_neg]
     have:=Yqw (decide (x<0)) (m/d+bump up (decide (x<0)) (m%d))
     omega
   have hgood:m/d+bump up (decide (x<0)) (m%d)<=4611686018427387904->rndF up x d=(nsg (decide (x<0)) (m/d+bump up (decide (x<0)) (m%d)),true):=fun hh=>by
     rw[hF,rndB,if_pos]
     have:=Yqw (decide (x<0)) (m/d+bump up (decide (x<0)) (m%d))
     omega
   have h:k (.tup [.int .i64 (rndF up x d).1,.bool (rndF up x d).2]) []:=h
   have fin:∀(t:Int)(b:Bool)(hp:List HO),rndF up x d=(t,b)->YB overC.alias k (.tup [.int .i64 t,.bool b]) hp:=fun t b hp hh=>by
     rw[hh]at h
     exact YE (show k _ []from h) (YA (.tup [.int .i64 t,.bool b]) ⟨trivial,trivial,trivial⟩) (fun _=>by simp [Ym,Yp])
   have hQ1:¬(d:Int)<=((m/18446744073709551616:Nat):Int)->m/d<18446744073709551616:=fun hc=>by
     rw[YDd (by omega)]
     have h1:m/18446744073709551616<d:=by omega
     rw[YDd (by decide)]at h1
     rw[YDq];exact h1
   have hQ2:(d:Int)<=((m/18446744073709551616:Nat):Int)->18446744073709551616<=m/d:=fun hc=>by
     rw[Nat.le_div_iff_mul_le (by omega)]
     have h1:d<=m/18446744073709551616:=by omega
     rw[Nat.le_div_iff_mul_le (by decide)]at h1
     rw[YDq];exact h1
   have hd0':(0:Int)<(d:Int):=hd0
   clear hT e1 e2
   generalize m/d=Q at*
   generalize m%d=R at*
   have ez:(!decide ((R:Int)=0))=decide (R≠0):=by
     rw[<-decide_not];congr 1;exact propext (by omega)
   refine⟨fun hc=>fin _ _ _ (hfail ?_),fun hc=>⟨⟨⟨by omega,by omega⟩,by omega,by omega,by omega⟩,by decide,by decide,fun hb=>?_,fun hb=>?_⟩⟩
   . have:=hQ2 hc
     omega
   . have hQ:=hQ1 hc
     rw[ez]at hb⊢
     have hbump:bump up (decide (x<0)) (R)=1:=by unfold bump;exact if_pos hb
     rw[hbump]at hfail hgood
     have hcond:∀w:Int,((decide (4611686018427387904<w) || decide (w=0)&&decide (R≠0)&& !(up==decide (x<0)))=true↔4611686018427387904<w\/w=0):=fun w=>by
       rw[Bool.and_assoc,hb,Bool.and_true,YDm,decide_eq_true_eq,decide_eq_true_eq]
     have hw:(4611686018427387904<IntKind.u64.wrap ((Q:Int)+1)\/IntKind.u64.wrap ((Q:Int)+1)=0)↔4611686018427387904<Q+1:=by
       rw[Yrh];omega
     refine⟨fun h1 h2=>by rw[decide_eq_false h1,decide_eq_true h2];rfl,fun h1 h2=>by rw[decide_eq_false h1,h2];rfl,fun hcc=>fin _ _ _ (hfail (hw.1 ((hcond _).1 hcc))),fun hcc=>?_⟩
     have hsm:Q+1<=4611686018427387904:=by
       refine Nat.le_of_not_lt fun hh=>?_
       have:=(hcond _).2 (hw.2 hh)
       rw[hcc]at this;cases this
     have hg:=hgood hsm
     rw[YDl _ (by omega)]
     refine⟨fun hx=>fin _ _ _ ?_,fun hx=>fin _ _ _ ?_⟩
     . rw[hg,YCW ((Q:Int)+1) (by omega),YCW _ (by omega)]
       unfold nsg
       simp only[hx,decide_true,if_true]
       congr 1 <;> omega
     . rw[hg,YCW _ (by omega)]
       unfold nsg
       simp only[hx,decide_false,YDa,if_false]
       rfl
   . have hQ:=hQ1 hc
     rw[ez]at hb⊢
     have hbump:bump up (decide (x<0)) (R)=0:=by unfold bump;exact if_neg (by rw[show(up !=decide (x<0))= !(up==decide (x<0))from rfl,hb];simp)
     rw[hbump,Nat.add_zero]at hfail hgood
     have hcond:∀w:Int,((decide (4611686018427387904<w) || decide (w=0)&&decide (R≠0)&& !(up==decide (x<0)))=true↔4611686018427387904<w):=fun w=>by
       rw[Bool.and_assoc,hb,Bool.and_false,Bool.or_false,decide_eq_true_eq]
     refine⟨fun h1 h2=>by rw[decide_eq_false h1,decide_eq_true h2];rfl,fun h1 h2=>by rw[decide_eq_false h1,h2];rfl,fun hcc=>fin _ _ _ (hfail (by have:=(hcond _).1 hcc;omega)),fun hcc=>?_⟩
     have hsm:Q<=4611686018427387904:=by
       refine Nat.le_of_not_lt fun hh=>?_
       have:=(hcond (Q:Int)).2 (by omega)
       rw[hcc]at this;cases this
     have hg:=hgood hsm
     refine⟨fun hx=>fin _ _ _ ?_,fun hx=>fin _ _ _ ?_⟩
     . rw[hg,YCW (Q:Int) (by omega),YCW _ (by omega)]
       unfold nsg
       simp only[hx,decide_true,if_true]
       congr 1 <;> omega
     . rw[hg,YCW _ (by omega)]
       unfold nsg
       simp only[hx,decide_false,YDa,if_false]
 . exact h.1.elim
def P2:Env:={ ct:=fun n=>match n with|97=>some numC|118=>some lessC|119=>some overC|_=>none,fn:=fun _=>none,meth:=fun _ _=>none}
theorem YuA:P2.ct 97=some numC:=rfl
theorem Yry:P2.ct 118=some lessC:=rfl
theorem Yrz:P2.ct 119=some overC:=rfl
theorem Yx8:Yo YCX P2:=by
 refine⟨fun f c h=>?_,fun f vf h=>?_,(fun _ _ _ h=>by cases h),by kernel_rfl,(fun _ h=>by cases h)⟩
 . simp only[P2]at h
   split at h
   . cases h;exact⟨YmY,Tryz.f97,Tryz.func97,by kernel_rfl,by kernel_rfl⟩
   . cases h;exact⟨YvU,Tryz.f118,Tryz.func118,by kernel_rfl,by kernel_rfl⟩
   . cases h;exact⟨YlO,Tryz.f119,Tryz.func119,by kernel_rfl,by kernel_rfl⟩
   . cases h
 . cases h
theorem YtW:fitC.ok YCX 113:=by
 refine Yb Tryz.func113 Yxk Yx8 200 fitC fun args k h=>⟨args,?_⟩
 simp only[fitC]at h
 split at h
 . rename_i a b
   refine⟨by simp [leL,le],?_⟩
   (try dsimp only[v113,YuA,numC,go_sem,reduceIte])
   (try simp only[Yd,YCS,YCU,reduceCtorEq,YCT])
   refine⟨fun hc=>?_,fun hc=>?_⟩
   . rw[fitF,if_neg (by rw[<-Bool.not_and,YDe]at hc;simp [hc])]at h
     exact YE (show k _ []from h) (YA (.tup [.agg (enc2 (0,0)),.int .i64 7]) ⟨⟨trivial,trivial,trivial⟩,trivial,trivial⟩) (fun _=>by simp [enc2,Ym,Yp])
   . rw[fitF,if_pos (by rw[<-Bool.not_and,Bool.not_eq_false']at hc;exact hc)]at h
     exact YE (show k _ []from h) (YA (.tup [.agg (enc2 (a,b)),.int .i64 0]) ⟨⟨trivial,trivial,trivial⟩,trivial,trivial⟩) (fun _=>by simp [enc2,Ym,Yp])
 . exact h.1.elim
theorem Yq6:spanC.ok YCX 98:=by
 refine Yb Tryz.func98 YCJ Yx8 400 spanC fun args k h=>?_
 simp only[spanC]at h
 split at h
 . rename_i d tt z n sz get
   obtain⟨x,r,⟨⟨rfl,rfl,hg⟩,hmax,hbig,hd0,hd1⟩,h⟩:=h
   refine⟨[.int .u64 d,.vs tt z (x::r).length 3 (fun k=>Ygk ((x::r).getD k default))],⟨⟨rfl,rfl⟩,by simpa [le]using hg,trivial⟩,?_⟩
   (try dsimp only[v98,Ygk,go_sem,reduceIte])
   (try simp only[Yd,YCS,YCU,reduceCtorEq,YCT])
   have hlen:((x::r).length:Int)=r.length+1:=by simp
   refine⟨⟨by decide,by omega⟩,⟨by decide,by omega⟩,⟨by decide,by omega⟩,?_⟩
   have hlen2:(x::r).length-(0+1)=r.length:=by simp
   refine Loop.keep [0,0,2,0,0,0,13,0] Nat (fun i=>[(23,.int .i64 i)]) (fun i=>[(1,.box (Ygk (lowI x (r.take i)))),(2,.box (Ygk (Ydy x (r.take i))))]) [] (fun i=>i<=r.length) (fun i=>r.length-i) ?_ ?_
   . refine⟨0,YDy _,?_⟩
     (try dsimp only[Ygk,go_sem,reduceIte])
     simp only[Ya]
     refine⟨by simp,?_,?_⟩ <;> simp [lowI,Ydy] <;> rfl
   . rintro i hi
     (try dsimp only[Yry,Yrz,lessC,overC,Ygk,YCY,go_sem,reduceIte])
     (try simp only[Yd,YCS,YCU,reduceCtorEq,YCT])
     have ey:(x::r).getD (1+i) default=r.getD i default:=by rw[Nat.add_comm];rfl
     have elen:(((x::r).length-1:Nat):Int)=r.length:=by simp
     simp only[ey,elen]
     refine⟨fun hlt=>⟨⟨by omega,by omega⟩,r.getD i default,lowI x (r.take i),⟨Yan _,Yan _⟩,?_⟩,fun hge=>?_⟩
     . have eL:lowI x (r.take (i+1))=if r.getD i default<lowI x (r.take i)then r.getD i default else lowI x (r.take i):=YH (by omega)
       have eH:Ydy x (r.take (i+1))=if Ydy x (r.take i)<r.getD i default then r.getD i default else Ydy x (r.take i):=YH (by omega)
       have hw:=Yfn (i:=i) (n:=r.length) (by omega) (by omega)
       refine⟨fun h1=>⟨Ydy x (r.take i),r.getD i default,⟨Yan _,Yan _⟩,fun h2=>⟨i+1,by omega,by omega,?_⟩,fun h2=>⟨i+1,by omega,by omega,?_⟩⟩,
         fun h1=>⟨Ydy x (r.take i),r.getD i default,⟨Yan _,Yan _⟩,fun h2=>⟨i+1,by omega,by omega,?_⟩,fun h2=>⟨i+1,by omega,by omega,?_⟩⟩⟩
       . simp only[eL,eH,if_pos h1,if_pos h2,hw,Ya]
         simp
       . simp only[eL,eH,if_pos h1,if_neg h2,hw,Ya]
         simp
       . simp only[eL,eH,if_neg h1,if_pos h2,hw,Ya]
         simp
       . simp only[eL,eH,if_neg h1,if_neg h2,hw,Ya]
         simp
     . obtain rfl:i=r.length:=by omega
       rw[List.take_length]
       have hl:=Yqg x r
       have hh:=YnG x r
       refine⟨lowI x r,⟨Yan _,hbig _ hl.1,hd0,hd1⟩,by decide,by decide,Ydy x r,⟨Yan _,hbig _ hh.1,hd0,hd1⟩,by decide,by decide,?_⟩
       have h:k (.tup [.agg (enc2 (YlT d x r).1),.int .i64 (YlT d x r).2]) []:=h
       unfold YlT YwT at h
       refine⟨fun hb=>?_,fun hb=>?_⟩
       . rw[if_neg (by rw[<-Bool.not_and,YDe]at hb;rw[hb];simp)]at h
         exact YE (show k _ []from h) (YA (.tup [.agg (enc2 (0,0)),.int .i64 7]) ⟨⟨trivial,trivial,trivial⟩,trivial,trivial⟩) (fun _=>by simp [enc2,Ym,Yp])
       . rw[if_pos (by rw[<-Bool.not_and,Bool.not_eq_false']at hb;exact hb)]at h
         exact YE (show k _ []from h) (YA (.tup [.agg (enc2 ((rndF false (lowI x r) d).1,(rndF true (Ydy x r) d).1)),.int .i64 0]) ⟨⟨trivial,trivial,trivial⟩,trivial,trivial⟩) (fun _=>by simp [enc2,Ym,Yp])
 . exact h.1.elim
def v94:VF:=⟨37,[.cell 4 true 2,.tmp 5],(ZR [u1 2 .box [.tm 0],u1 3 .box [.tm 1],Zn 4,Zi 5 0] (.seq (ZR [Zt 7 2 2,Zt 8 2 3,u1 9 (.buildSlice 2 2 [(.int .i64 0),(.int .i64 0)] [(0,2),(2,2)]) [.tm 7,.tm 8],Zc 10 75 9,Zm 6 10] (ZR [Zm 11 6,Zq 12 .neq 11 0] (ZC 12 (ZR [u1 13 (.build [(.int .i64 0),(.int .i64 0)] []) [],Zm 14 6,Zs 2 4 13,Zm 5 14] .ret) .skip))) (.seq (ZR [Za 15 1 2,Zf 16 1 15,Zq 17 .eql 16 4611686018427387904,Zm 18 17,Zj 19 18 true 1 3,Zh 20 18 true 1 19,u2 21 18 true (.cmp .eql) [.tm 20,.cn (.int .i64 4611686018427387904)],u1 22 .and [.tm 18,.tm 21]] (ZC 22 (ZR [u1 23 (.build [(.int .i64 0),(.int .i64 0)] []) [],Zs 2 4 23,Zi 5 7] .ret) .skip)) (ZR [Za 24 0 2,Zf 25 1 24,Za 26 0 3,Zf 27 1 26,Zo 28 .add 25 27,Za 29 1 2,Zf 30 1 29,Za 31 1 3,Zf 32 1 31,Zo 33 .add 30 32,Zd 34 113 28 33,Ze 35 0 34,Ze 36 1 34,Zs 2 4 35,Zm 5 36] .ret))))⟩
theorem YCF:Yg YCX Tryz.f94=some v94:=by kernel_rfl
def v71:VF:=⟨26,[.cell 4 true 2,.tmp 5],(ZR [u1 2 .box [.tm 0],u1 3 .box [.tm 1],Zn 4,Zi 5 0] (.seq (ZR [Zt 7 2 2,Zt 8 2 3,u1 9 (.buildSlice 2 2 [(.int .i64 0),(.int .i64 0)] [(0,2),(2,2)]) [.tm 7,.tm 8],Zc 10 75 9,Zm 6 10] (ZR [Zm 11 6,Zq 12 .neq 11 0] (ZC 12 (ZR [u1 13 (.build [(.int .i64 0),(.int .i64 0)] []) [],Zm 14 6,Zs 2 4 13,Zm 5 14] .ret) .skip))) (ZR [Zt 15 2 2,Za 16 1 3,Zf 17 1 16,u1 18 .neg [.tm 17],Za 19 0 3,Zf 20 1 19,u1 21 .neg [.tm 20],u1 22 (.build [(.int .i64 0),(.int .i64 0)] [(0,1),(1,1)]) [.tm 18,.tm 21],Zd 23 94 15 22,Ze 24 0 23,Ze 25 1 23,Zs 2 4 24,Zm 5 25] .ret)))⟩
theorem YCk:Yg YCX Tryz.f71=some v71:=by kernel_rfl
def v76:VF:=⟨45,[.cell 6 true 2,.tmp 7],(ZR [u1 3 .box [.tm 0],Zn 6,Zi 7 0] (ZR [Zt 9 2 3,u1 10 (.buildSlice 2 1 [(.int .i64 0),(.int .i64 0)] [(0,2)]) [.tm 9],Zc 11 75 10,Zm 8 11] (.seq (.block 0 (ZR [Zm 13 8,Zq 14 .neq 13 0,Zm 12 14] (ZC 12 (ZR [u1 15 (.build [(.int .i64 0),(.int .i64 0)] []) [],Zm 16 8,Zs 2 6 15,Zm 7 16] .ret) (ZR [Zm 18 2,Zq 19 .lss 18 1,Zm 20 19,Zg 21 20 false 2,u2 22 20 false (.call 97) [.tm 21],u2 23 20 false .not [.tm 22],u1 24 .or [.tm 20,.tm 23],Zm 25 24,Zg 26 25 false 1,u2 27 25 false (.call 97) [.tm 26],u2 28 25 false .not [.tm 27],u1 29 .or [.tm 25,.tm 28],Zm 17 29] (ZC 17 (ZR [u1 30 (.build [(.int .i64 0),(.int .i64 0)] []) [],Zs 2 6 30,Zi 7 2] .ret) .skip))))) (.seq (.draw [] [Zu 31 2,w1 32 (.conv .u64) [.tm 31],Zy 33 0 3,Zv 34 1 33,Zu 35 1,Zy 37 1 3,Zv 38 1 37,Zu 39 1,Zz 36 99 34 35,Zz 40 99 38 39,w1 41 (.buildSlice 3 2 [(.bool false),(.int .u64 0),(.int .u64 0)] [(0,3),(3,3)]) [.tm 36,.tm 40],Zz 42 98 32 41,ZE 43 0 42,ZE 44 1 42,ZS 2 6 43,Zu 7 44]) .ret))))⟩
theorem YCp:Yg YCX Tryz.f76=some v76:=by kernel_rfl
def iv2C(f:Iv->Iv->Iv×Int):Ctr:={ alias:=false,of:=fun a=>match a with
 | [.agg [.int .i64 x,.int .i64 y],.agg [.int .i64 z,.int .i64 w]]=> .fin (.tup [.agg (enc2 (f (x,y) (z,w)).1),.int .i64 (f (x,y) (z,w)).2]) []
 |_=>noC}
def addC:=iv2C addF
def subC:=iv2C subF
def sclC:Ctr:={ alias:=false,of:=fun a=>match a with
 | [.agg [.int .i64 x,.int .i64 y],.int .i64 n,.int .i64 d]=> .fin (.tup [.agg (enc2 (sclF (x,y) n d).1),.int .i64 (sclF (x,y) n d).2]) []
 |_=>noC}
def P3:Env:={ ct:=fun n=>match n with|97=>some numC|75=>some ivlC|99=>some timC|119=>some overC|98=>some spanC|113=>some fitC|_=>none,fn:=fun _=>none,meth:=fun _ _=>none}
theorem YuB:P3.ct 75=some ivlC:=rfl
theorem YrA:P3.ct 113=some fitC:=rfl
theorem P3_ok:Yo YCX P3:=by
 refine⟨fun f c h=>?_,fun f vf h=>?_,(fun _ _ _ h=>by cases h),by kernel_rfl,(fun _ h=>by cases h)⟩
 . simp only[P3]at h
   split at h
   . cases h;exact⟨YmY,Tryz.f97,Tryz.func97,by kernel_rfl,by kernel_rfl⟩
   . cases h;exact⟨Yt1,Tryz.f75,Tryz.func75,by kernel_rfl,by kernel_rfl⟩
   . cases h;exact⟨Yuq,Tryz.f99,Tryz.func99,by kernel_rfl,by kernel_rfl⟩
   . cases h;exact⟨YlO,Tryz.f119,Tryz.func119,by kernel_rfl,by kernel_rfl⟩
   . cases h;exact⟨Yq6,Tryz.f98,Tryz.func98,by kernel_rfl,by kernel_rfl⟩
   . cases h;exact⟨YtW,Tryz.f113,Tryz.func113,by kernel_rfl,by kernel_rfl⟩
   . cases h
 . cases h
theorem Ye5{k:SV->List HO->Prop}{al:Bool}{hp:List HO}{r:Iv×Int}(h:k (.tup [.agg (enc2 r.1),.int .i64 r.2]) []):YB al k (.tup [.agg [.int .i64 r.1.1,.int .i64 r.1.2],.int .i64 r.2]) hp:=
 YE (show k _ []from h) (YA (.tup [.agg (enc2 r.1),.int .i64 r.2]) ⟨⟨trivial,trivial,trivial⟩,trivial,trivial⟩) (fun _=>by simp [enc2,Ym,Yp])
theorem YuS{a b:Int}(ha: -9223372036854775808<=a/\a<=9223372036854775808)(hb: -9223372036854775808<=b/\b<=9223372036854775808):big (a*b):=by
 unfold big
 rw[Int.natAbs_mul]
 have:=Nat.mul_le_mul (show a.natAbs<=9223372036854775808 by omega) (show b.natAbs<=9223372036854775808 by omega)
 omega
theorem Yub{a:Int}(h: -4611686018427387904<=a/\a<=4611686018427387904):IntKind.i64.wrap (0-a)= -a:=by rw[YCW _ (by omega)];omega
theorem Yy3:addC.ok YCX 94:=by
 refine Yb Tryz.func94 YCF P3_ok 200 addC fun args k h=>⟨args,?_⟩
 simp only[addC,iv2C]at h
 split at h
 . rename_i x y z w
   refine⟨by simp [leL,le],?_⟩
   (try dsimp only[v94,YuB,YrA,ivlC,fitC,enc2,go_sem,reduceIte])
   (try simp only[Yd,YCS,YCU,reduceCtorEq,YCT])
   have h:k (.tup [.agg (enc2 (addF (x,y) (z,w)).1),.int .i64 (addF (x,y) (z,w)).2]) []:=h
   refine⟨by decide,[(x,y),(z,w)],⟨⟨rfl,rfl,fun k hk=>match k,hk with|0,_=>Ye _|1,_=>Ye _⟩,by simp⟩,fun hc=>?_,fun hc=>?_⟩
   . rw[addF,if_pos hc]at h
     exact Ye5 (r:=errI (ivE [(x,y),(z,w)])) h
   . obtain⟨⟨h1,h2,h3⟩,h4,h5,h6⟩:=ivE2 hc
     dsimp only at h1 h2 h3 h4 h5 h6
     rw[addF,if_neg (by rw[hc];simp)]at h
     dsimp only at h
     refine⟨fun hm=>?_,fun hm=>⟨by decide,by decide,?_⟩⟩
     . rw[YC0,decide_eq_true_eq,decide_eq_true_eq]at hm
       have:YcB (y+w)=false:=by
         rw[Bool.eq_false_iff];intro hh;have:=numOk_iff.1 hh;omega
       rw[fitF,this,Bool.and_false]at h
       exact Ye5 (r:=((0,0),7)) h
     . rw[Bool.and_eq_false_iff,decide_eq_false_iff_not,decide_eq_false_iff_not]at hm
       rw[YCW (x+z) (by omega),YCW (y+w) (by omega)]
       exact Ye5 h
 . exact h.1.elim
def P4:Env:={ ct:=fun n=>match n with|97=>some numC|75=>some ivlC|99=>some timC|119=>some overC|98=>some spanC|113=>some fitC|94=>some addC|_=>none,fn:=fun _=>none,meth:=fun _ _=>none}
theorem YuD:P4.ct 97=some numC:=rfl
theorem Yof:P4.ct 75=some ivlC:=rfl
theorem YuF:P4.ct 99=some timC:=rfl
theorem YuE:P4.ct 98=some spanC:=rfl
theorem YuC:P4.ct 94=some addC:=rfl
theorem Yx9:Yo YCX P4:=by
 refine⟨fun f c h=>?_,fun f vf h=>?_,(fun _ _ _ h=>by cases h),by kernel_rfl,(fun _ h=>by cases h)⟩
 . simp only[P4]at h
   split at h
   . cases h;exact⟨YmY,Tryz.f97,Tryz.func97,by kernel_rfl,by kernel_rfl⟩
   . cases h;exact⟨Yt1,Tryz.f75,Tryz.func75,by kernel_rfl,by kernel_rfl⟩
   . cases h;exact⟨Yuq,Tryz.f99,Tryz.func99,by kernel_rfl,by kernel_rfl⟩
   . cases h;exact⟨YlO,Tryz.f119,Tryz.func119,by kernel_rfl,by kernel_rfl⟩
   . cases h;exact⟨Yq6,Tryz.f98,Tryz.func98,by kernel_rfl,by kernel_rfl⟩
   . cases h;exact⟨YtW,Tryz.f113,Tryz.func113,by kernel_rfl,by kernel_rfl⟩
   . cases h;exact⟨Yy3,Tryz.f94,Tryz.func94,by kernel_rfl,by kernel_rfl⟩
   . cases h
 . cases h
theorem Yup:subC.ok YCX 71:=by
 refine Yb Tryz.func71 YCk Yx9 200 subC fun args k h=>⟨args,?_⟩
 simp only[subC,iv2C]at h
 split at h
 . rename_i x y z w
   refine⟨by simp [leL,le],?_⟩
   (try dsimp only[v71,Yof,YuC,ivlC,addC,iv2C,enc2,go_sem,reduceIte])
   (try simp only[Yd,YCS,YCU,reduceCtorEq,YCT])
   have h:k (.tup [.agg (enc2 (subF (x,y) (z,w)).1),.int .i64 (subF (x,y) (z,w)).2]) []:=h
   refine⟨by decide,[(x,y),(z,w)],⟨⟨rfl,rfl,fun k hk=>match k,hk with|0,_=>Ye _|1,_=>Ye _⟩,by simp⟩,fun hc=>?_,fun hc=>?_⟩
   . rw[subF,if_pos hc]at h
     exact Ye5 (r:=errI (ivE [(x,y),(z,w)])) h
   . obtain⟨⟨h1,h2,h3⟩,h4,h5,h6⟩:=ivE2 hc
     dsimp only at h1 h2 h3 h4 h5 h6
     rw[subF,if_neg (by rw[hc];simp)]at h
     dsimp only at h
     rw[Yub h4,Yub h5]
     exact⟨by decide,by decide,Ye5 h⟩
 . exact h.1.elim
theorem YBn:sclC.ok YCX 76:=by
 refine Yb Tryz.func76 YCp Yx9 200 sclC fun args k h=>⟨args,?_⟩
 simp only[sclC]at h
 split at h
 . rename_i x y n d
   refine⟨by simp [leL,le],?_⟩
   (try dsimp only[v76,Yof,YuD,YuF,YuE,ivlC,numC,timC,spanC,Ygk,enc2,go_sem,reduceIte])
   (try simp only[Yd,YCS,YCU,reduceCtorEq,YCT])
   have h:k (.tup [.agg (enc2 (sclF (x,y) n d).1),.int .i64 (sclF (x,y) n d).2]) []:=h
   refine⟨by decide,[(x,y)],⟨⟨rfl,rfl,fun k hk=>match k,hk with|0,_=>Ye _⟩,by simp⟩,?_⟩
   refine⟨fun hc=>?_,fun hc=>?_⟩
   . rw[sclF,if_pos hc]at h
     exact Ye5 (r:=errI (ivE [(x,y)])) h
   . obtain⟨h1,h2,h3⟩:=ivE1 hc
     dsimp only at h1 h2 h3
     rw[sclF,if_neg (by rw[hc];simp)]at h
     dsimp only at h
     have hnd:=numOk_iff (x:=d)
     have hnn:=numOk_iff (x:=n)
     have hcond:(decide (d<1) || !YcB d|| !YcB n)=true↔(d<1\/4611686018427387904<d\/n< -4611686018427387904\/4611686018427387904<n):=by
       rw[YDm,YDm,decide_eq_true_eq,YDe,YDe,Bool.eq_false_iff,Bool.eq_false_iff,ne_eq,ne_eq,hnd,hnn]
       omega
     refine⟨fun hb=>?_,fun hb=>?_⟩
     . rw[if_pos (hcond.1 hb)]at h
       exact Ye5 (r:=errI 2) h
     . have hb':¬(d<1\/4611686018427387904<d\/n< -4611686018427387904\/4611686018427387904<n):=fun hh=>by
         have:=hcond.2 hh
         rw[hb]at this;cases this
       rw[if_neg hb']at h
       rw[YDl d (by omega)]
       refine⟨⟨⟨by omega,by omega⟩,by omega,by omega⟩,⟨⟨by omega,by omega⟩,by omega,by omega⟩,by decide,
         x*n,[y*n],⟨⟨rfl,rfl,fun k hk=>match k,hk with|0,_=>Ye _|1,_=>Ye _⟩,by simp,?_,by omega,by omega⟩,by decide,by decide,Ye5 h⟩
       intro p hp
       simp only[YDc,List.not_mem_nil,or_false]at hp
       rcases hp with rfl|rfl <;> exact YuS (by omega) (by omega)
 . exact h.1.elim
def v56:VF:=⟨12,[.tmp 2,.tmp 3],(ZR [Zi 2 0,Zi 3 0] (.seq (ZR [Zm 5 0,Zc 6 79 5,Zm 4 6] (ZR [Zm 7 4,Zq 8 .neq 7 0] (ZC 8 (ZR [Zm 9 4,Zi 2 0,Zm 3 9] .ret) .skip))) (ZR [Zm 10 0,Zc 11 80 10,Zm 2 11,Zi 3 0] .ret)))⟩
theorem YB7:Yg YCX Tryz.f56=some v56:=by kernel_rfl
def v38:VF:=⟨36,[.tmp 8],(ZR [u1 8 .mov [.cn (.bool false)]] (ZR [Zm 9 0,Zq 10 .geq 9 0,Zm 11 10,Zg 12 11 true 0,Zg 13 11 true 1,u2 14 11 true (.cmp .lss) [.tm 12,.tm 13],u1 15 .and [.tm 11,.tm 14],Zm 16 15,Zg 17 16 true 1,u2 18 16 true (.cmp .leq) [.tm 17,.cn (.int .i64 139)],u1 19 .and [.tm 16,.tm 18],Zm 20 19,Zg 21 20 true 2,u2 22 20 true (.cmp .gtr) [.tm 21,.cn (.int .i64 0)],u1 23 .and [.tm 20,.tm 22],Zm 24 23,Zg 25 24 true 2,u2 26 24 true (.cmp .leq) [.tm 25,.cn (.int .i64 16)],u1 27 .and [.tm 24,.tm 26],Zm 28 27,Zg 29 28 true 3,u2 30 28 true (.cmp .gtr) [.tm 29,.cn (.int .i64 0)],u1 31 .and [.tm 28,.tm 30],Zm 32 31,Zg 33 32 true 3,u2 34 32 true (.cmp .leq) [.tm 33,.cn (.int .i64 16)],u1 35 .and [.tm 32,.tm 34],Zm 8 35] .ret))⟩
theorem YBV:Yg YCX Tryz.f38=some v38:=by kernel_rfl
def v39:VF:=⟨61,[.tmp 10],(ZR [Zi 10 0] (.seq (.draw [(11,.box [(.int .i64 0),(.int .i64 0),(.int .i64 0),(.int .i64 0),(.int .i64 0),(.int .i64 0),(.int .i64 0)])] [Zu 19 0,Zu 20 2,w1 21 .rem [.tm 20,.cn (.int .i64 12)],ZX 22 7 19 21,Zw 23 7 22,Zu 24 0,Zu 25 1,w1 26 .rem [.tm 25,.cn (.int .i64 12)],ZX 27 7 24 26,Zw 28 7 27,Zz 29 72 23 28,Zu 18 29,ZE 30 0 18,ZE 31 1 18,ZS 7 11 30,Zu 12 31]) (ZR [Zt 33 7 11,Zc 34 73 33,Zm 32 34,Ze 35 0 32,Ze 36 1 32,Ze 37 2 32,Zm 13 35,Zm 14 36,Zm 15 37] (ZR [Zm 39 13,Zm 40 14,Zm 41 2,u1 42 .quo [.tm 41,.cn (.int .i64 12)],Zm 43 1,u1 44 .quo [.tm 43,.cn (.int .i64 12)],Zo 45 .sub 42 44,Zo 46 .mul 40 45,u1 47 (.build [(.int .i64 0),(.int .i64 0)] [(0,1),(1,1)]) [.cn (.int .i64 2),.tm 46],Zm 48 4,Zm 49 14,u1 50 (.build [(.int .i64 0),(.int .i64 0)] [(0,1),(1,1)]) [.tm 48,.tm 49],Zm 51 3,Zm 52 14,u1 53 .neg [.tm 52],u1 54 (.build [(.int .i64 0),(.int .i64 0)] [(0,1),(1,1)]) [.tm 51,.tm 53],u1 55 (.buildSlice 2 3 [(.int .i64 0),(.int .i64 0)] [(0,2),(2,2),(4,2)]) [.tm 47,.tm 50,.tm 54],u1 56 (.append 2 16 [(.int .i64 0),(.int .i64 0)]) [.tm 39,.tm 55],Zc 57 56 56,Zm 38 57,Ze 58 0 38,Ze 59 1 38,Zm 16 58,Zm 17 59] (ZR [Zm 60 16,Zm 10 60] .ret)))))⟩
theorem YBW:Yg YCX Tryz.f39=some v39:=by kernel_rfl
def sgnF(l:List (Int×Int)):Int×Int:=if Yf2 l≠0 then(0,Yf2 l)else(YlR l,0)
def sgnC:Ctr:={ alias:=false,of:=fun l=>match l with
 | [.vs _ _ n sz get]=> .ex (List (Int×Int)) fun l=> .pre (lsP 2 enc2 n sz get l/\n<=1000000000000) (.fin (.tup [.int .i64 (sgnF l).1,.int .i64 (sgnF l).2]) [])
 |_=>noC}
def TK0:Env:={ ct:=fun n=>match n with|79=>some chkTC|80=>some signC|_=>none,fn:=fun _=>none,meth:=fun _ _=>none}
theorem YrT:TK0.ct 79=some chkTC:=rfl
theorem YrU:TK0.ct 80=some signC:=rfl
theorem YyH:Yo YCX TK0:=by
 refine⟨fun f c h=>?_,fun f vf h=>?_,(fun _ _ _ h=>by cases h),by kernel_rfl,(fun _ h=>by cases h)⟩
 . simp only[TK0]at h
   split at h
   . cases h;exact⟨Ypk,Tryz.f79,Tryz.func79,by kernel_rfl,by kernel_rfl⟩
   . cases h;exact⟨Yq4,Tryz.f80,Tryz.func80,by kernel_rfl,by kernel_rfl⟩
   . cases h
 . cases h
theorem sgn_c:sgnC.ok YCX 56:=by
 refine Yb Tryz.func56 YB7 YyH 600 sgnC fun args k h=>?_
 simp only[sgnC]at h
 split at h
 . rename_i tt z n sz get
   obtain⟨l,⟨⟨rfl,rfl,hg⟩,hn⟩,h⟩:=h
   refine⟨[.vs tt z l.length 2 (fun k=>enc2 (l.getD k default))],⟨⟨id,rfl,rfl,rfl,hg⟩,trivial⟩,?_⟩
   dsimp only[v56,YrT,YrU,chkTC,signC,enc2,go_sem,reduceIte,YCS]
   simp only[Yd,YCS,YCU,reduceCtorEq,YCT]
   refine⟨l,⟨⟨rfl,rfl,fun q _=>Ye _⟩,by omega⟩,fun hc=>?_,fun hc=>?_⟩
   . rw[sgnF,if_pos hc]at h
     exact YR h
   . rw[sgnF,if_neg (fun hh=>hh hc)]at h
     obtain⟨hl,hn⟩:=Ylw hc
     refine⟨l,⟨⟨rfl,rfl,fun q _=>Ye _⟩,fun x hx=>?_,by omega⟩,YR h⟩
     have:=hl x hx
     simp only[okT0,YDb,decide_eq_false_iff_not]at this
     unfold okT;omega
 . exact h.1.elim
def Yik(lo hi p q:Int):Bool:=decide (0<=lo)&&decide (lo<hi)&&decide (hi<=139)&&decide (0<p)&&decide (p<=16)&&decide (0<q)&&decide (q<=16)
def bvalC:Ctr:={ alias:=false,of:=fun l=>match l with
 | [.int .i64 lo,.int .i64 hi,.int .i64 p,.int .i64 q]=> .fin (.bool (Yik lo hi p q)) []
 |_=>noC}
theorem YtM:bvalC.ok YCX 38:=by
 refine Yb Tryz.func38 YBV YoA 600 bvalC fun args k h=>?_
 simp only[bvalC]at h
 split at h
 . rename_i lo hi p q
   refine⟨[.int .i64 lo,.int .i64 hi,.int .i64 p,.int .i64 q],by simp [leL,le],?_⟩
   dsimp only[v38,go_sem,reduceIte,YCS]
   simp only[Yd,YCS,YCU,reduceCtorEq,YCT]
   exact Yw h
 . exact h.1.elim
theorem Yu3{lo hi p q:Int}(h:Yik lo hi p q=true):0<=lo/\lo<hi/\hi<=139/\0<p/\p<=16/\0<q/\q<=16:=by
 simp only[Yik,YC0,decide_eq_true_eq]at h;omega
def senR(L:Nat->Rt)(lo hi:Int):Rt:=(Ybe (L (hi%12).toNat) (L (lo%12).toNat) (-1)).1
def senL(L:Nat->Rt)(lo hi p q:Int):List (Int×Int):=
 trmL (senR L lo hi)++[(2,trmD (senR L lo hi)*(hi/12-lo/12)),(q,trmD (senR L lo hi)),(p, -trmD (senR L lo hi))]
def senF(L:Nat->Rt)(lo hi p q:Int):Int:=(sgnF (senL L lo hi p q)).1
def senC:Ctr:={ alias:=false,of:=fun l=>match l with
 | [.vs _ _ n sz get,.int .i64 lo,.int .i64 hi,.int .i64 p,.int .i64 q]=> .ex (Nat->Rt) fun L=> .pre ((n=12/\sz=7/\∀k,k<12->leXL (get k) (encR (L k)))/\Yik lo hi p q=true)
     (.fin (.int .i64 (senF L lo hi p q)) [])
 |_=>noC}
def TK1:Env:={ ct:=fun n=>match n with|72=>some Y5|73=>some trmC|56=>some sgnC|_=>none,fn:=fun _=>none,meth:=fun _ _=>none}
theorem Yh5:TK1.ct 72=some Y5:=rfl
theorem Yh6:TK1.ct 73=some trmC:=rfl
theorem Yh4:TK1.ct 56=some sgnC:=rfl
theorem YyI:Yo YCX TK1:=by
 refine⟨fun f c h=>?_,fun f vf h=>?_,(fun _ _ _ h=>by cases h),by kernel_rfl,(fun _ h=>by cases h)⟩
 . simp only[TK1]at h
   split at h
   . cases h;exact⟨YpA,Tryz.f72,Tryz.func72,by kernel_rfl,by kernel_rfl⟩
   . cases h;exact⟨Yw4,Tryz.f73,Tryz.func73,by kernel_rfl,by kernel_rfl⟩
   . cases h;exact⟨sgn_c,Tryz.f56,Tryz.func56,by kernel_rfl,by kernel_rfl⟩
   . cases h
 . cases h
theorem YBo:senC.ok YCX 39:=by
 refine Yb Tryz.func39 YBW YyI 600 senC fun args k h=>?_
 simp only[senC]at h
 split at h
 . rename_i tv zv n sz get lo hi p q
   obtain⟨L,⟨⟨rfl,rfl,hg⟩,hv⟩,h⟩:=h
   refine⟨[.vs tv zv 12 7 (fun k=>encR (L k)),.int .i64 lo,.int .i64 hi,.int .i64 p,.int .i64 q],⟨⟨id,rfl,rfl,rfl,hg⟩,⟨rfl,rfl⟩,⟨rfl,rfl⟩,⟨rfl,rfl⟩,⟨rfl,rfl⟩,trivial⟩,?_⟩
   dsimp only[v39,Yaq,Yh5,Yh6,Y5,Yb2,trmC,encR,Yh4,sgnC,go_sem,reduceIte,YCS]
   simp only[Yd,YCS,YCU,reduceCtorEq,YCT]
   obtain⟨v0,v1,v2,v3,v4,v5,v6⟩:=Yu3 hv
   obtain⟨a,rfl⟩:∃m:Nat,lo=(m:Int):=⟨lo.toNat,by omega⟩
   obtain⟨b,rfl⟩:∃m:Nat,hi=(m:Int):=⟨hi.toNat,by omega⟩
   have ea:(a:Int).tmod 12=((a%12:Nat):Int):=by rw[Int.tmod_eq_emod_of_nonneg (by omega)];omega
   have eb:(b:Int).tmod 12=((b%12:Nat):Int):=by rw[Int.tmod_eq_emod_of_nonneg (by omega)];omega
   simp only[ea,eb,YCY]
   obtain⟨r,hr⟩:∃r,r=senR L a b:=⟨_,rfl⟩
   have hr':(Ybe (L (b%12)) (L (a%12)) (-1)).1=r:=by rw[hr,senR,show((a:Int)%12).toNat=a%12 by omega,show((b:Int)%12).toNat=b%12 by omega]
   simp only[hr']
   have e2:IntKind.i64.wrap (IntKind.i64.wrap ((b:Int).tdiv 12)-IntKind.i64.wrap ((a:Int).tdiv 12))=(b:Int)/12-(a:Int)/12:=by
     rw[Int.tdiv_eq_ediv_of_nonneg (by omega),Int.tdiv_eq_ediv_of_nonneg (by omega),YCW ((a:Int)/12) (by omega),YCW ((b:Int)/12) (by omega),YCW _ (by omega)]
   refine⟨by decide,⟨by omega,by omega⟩,by decide,⟨by omega,by omega⟩,by decide,by decide,?_⟩
   by_cases hc:chkR r=0
   . rw[if_neg (fun hh=>hh hc)]
     dsimp only[Yaq,Yh5,Yh6,Y5,Yb2,trmC,encR,Yh4,sgnC,go_sem,reduceIte,YCS]
     simp only[Yd,YCS,YCU,reduceCtorEq,YCT]
     have hlen:=Ydt r
     have hd:=Yee hc
     have hm:=Ya4 (x:=r.n) (y:=(b:Int)/12-(a:Int)/12) (X:=1000) (Y:=20) (by omega) (by omega)
     rw[e2]
     intro z
     rw[YCW (r.n*((b:Int)/12-(a:Int)/12)) (by omega),show IntKind.i64.wrap (0-r.n)= -r.n by rw[YCW _ (by omega)];omega]
     have hS:senL L a b p q=Yz r++[(2,r.n*((b:Int)/12-(a:Int)/12)),(q,r.n),(p, -r.n)]:=by
       rw[senL,<-hr,trmL,if_pos hc,trmD,if_pos hc]
     have h:k (.int .i64 (senF L a b p q)) []:=h
     rw[senF,hS]at h
     refine⟨by decide,by decide,by decide,by decide,by decide,by decide,⟨by unfold YW;omega,fun k hk=>Yns hk⟩,_,⟨⟨rfl,?_,fun j hj=>?_⟩,by omega⟩,by decide,by decide,Yj h⟩
     . simp
     . by_cases h2:j<(Yz r).length
       . simp only[if_pos h2]
         rw[Yal h2]
         exact Ye _
       . simp only[if_neg h2]
         rw[Yam (by omega)]
         rcases(show j-(Yz r).length=0\/j-(Yz r).length=1\/j-(Yz r).length=2 by omega)with e|e|e <;> (rw[e];exact Ye _)
   . rw[if_pos hc]
     dsimp only[Yaq,Yh5,Yh6,Y5,Yb2,trmC,encR,Yh4,sgnC,go_sem,reduceIte,YCS]
     simp only[Yd,YCS,YCU,reduceCtorEq,YCT]
     rw[e2,show IntKind.i64.wrap (0*((b:Int)/12-(a:Int)/12))=0*((b:Int)/12-(a:Int)/12)by rw[Int.zero_mul];decide,show IntKind.i64.wrap (0-0)= -0 by decide]
     have hS:senL L a b p q=[(2,0*((b:Int)/12-(a:Int)/12)),(q,0),(p, -0)]:=by
       rw[senL,<-hr,trmL,if_neg hc,trmD,if_neg hc];rfl
     have h:k (.int .i64 (senF L a b p q)) []:=h
     rw[senF,hS]at h
     refine⟨by decide,by decide,by decide,by decide,by decide,by decide,⟨by unfold YW;omega,fun k hk=>Yns hk⟩,_,⟨rfl,rfl,fun j hj=>?_⟩,by decide,by decide,Yj h⟩
     rcases(show j=0\/j=1\/j=2 by omega)with rfl|rfl|rfl <;> exact Ye _
 . exact h.1.elim
def v16:VF:=⟨34,[.tmp 10,.tmp 11],(ZR [u1 5 .box [.tm 0],Zi 10 0,Zi 11 0] (ZR [Zt 15 27 5,Zc 16 29 15,Zm 14 16,Ze 17 0 14,Ze 18 1 14,Zm 12 17,Zm 13 18] (.seq (ZR [Zm 19 13,Zq 20 .neq 19 0] (ZC 20 (ZR [Zm 21 13,Zi 10 0,Zm 11 21] .ret) .skip)) (.seq (ZR [Zm 22 1,Zm 23 2,Zm 24 3,Zm 25 4,u1 26 (.call 38) [.tm 22,.tm 23,.tm 24,.tm 25],u1 27 .not [.tm 26]] (ZC 27 (ZR [Zi 10 0,Zi 11 2] .ret) .skip)) (ZR [Zm 28 12,Zm 29 1,Zm 30 2,Zm 31 3,Zm 32 4,u1 33 (.call 39) [.tm 28,.tm 29,.tm 30,.tm 31,.tm 32],Zm 10 33,Zi 11 0] .ret)))))⟩
theorem YBI:Yg YCX Tryz.f16=some v16:=by kernel_rfl
def v65:VF:=⟨14,[.cell 4 true 2],(ZR [u1 2 .box [.tm 0],Zn 4] (ZR [Zt 8 2 2,Zm 9 1,u1 10 (.call 76) [.tm 8,.tm 9,.cn (.int .i64 1)],Zm 7 10,Ze 11 0 7,Ze 12 1 7,Zn 5,Zs 2 5 11,Zm 6 12] (ZR [Zt 13 2 5,Zs 2 4 13] .ret)))⟩
theorem YCe:Yg YCX Tryz.f65=some v65:=by kernel_rfl
def v42:VF:=⟨11,[.cell 2 true 2],(ZR [u1 1 .box [.tm 0],Zn 2] (ZR [Zt 6 2 1,u1 7 (.call 76) [.tm 6,.cn (.int .i64 1),.cn (.int .i64 1000)],Zm 5 7,Ze 8 0 5,Ze 9 1 5,Zn 3,Zs 2 3 8,Zm 4 9] (ZR [Zt 10 2 3,Zs 2 2 10] .ret)))⟩
theorem YBY:Yg YCX Tryz.f42=some v42:=by kernel_rfl
def v37:VF:=⟨27,[.cell 4 true 2],(ZR [u1 2 .box [.tm 0],u1 3 .box [.tm 1],Zn 4] (ZR [Zt 8 2 3,Zt 9 2 2,Zd 10 71 8 9,Zm 7 10,Ze 11 0 7,Ze 12 1 7,Zn 5,Zs 2 5 11,Zm 6 12] (ZR [Za 13 0 5,Zf 14 1 13,Za 15 1 5,Zf 16 1 15,u1 17 .neg [.tm 16],u1 18 .max [.cn (.int .i64 0),.tm 14,.tm 17],Za 19 1 5,Zf 20 1 19,Za 21 0 5,Zf 22 1 21,u1 23 .neg [.tm 22],u1 24 .max [.tm 20,.tm 23],u1 25 (.build [(.int .i64 0),(.int .i64 0)] [(0,1),(1,1)]) [.tm 18,.tm 24],Zc 26 42 25,Zs 2 4 26] .ret)))⟩
theorem YBU:Yg YCX Tryz.f37=some v37:=by kernel_rfl
def v28:VF:=⟨11,[.tmp 4],(ZR [u1 2 .box [.tm 0],u1 3 .box [.tm 1],Zi 4 0] (.seq (.draw [] [Zw 5 3 2,Zw 7 27 3,w1 6 (.call 61) [.tm 5],w1 8 (.call 62) [.tm 7],w1 9 (.buildSlice 1 2 [(.int .i64 0)] [(0,1),(1,1)]) [.tm 6,.tm 8],w1 10 (.call 60) [.tm 9],Zu 4 10]) .ret))⟩
theorem YBL:Yg YCX Tryz.f28=some v28:=by kernel_rfl
def v36:VF:=⟨52,[.cell 12 true 2,.cell 13 true 2,.tmp 14],(ZR [u1 6 .box [.tm 0],u1 7 .box [.tm 1],Zn 12,Zn 13,Zi 14 0] (.seq (ZR [Zt 16 3 6,Zt 17 27 7,Zd 18 28 16 17,Zm 15 18] (ZR [Zm 19 15,Zq 20 .neq 19 0] (ZC 20 (.seq (.draw [] [Zw 21 2 12,Zw 22 2 13,Zu 23 15,⟨Zs 2 12 21,[.tm 13]⟩,ZS 2 13 22,Zu 14 23]) .ret) .skip))) (.seq (ZR [Zm 24 2,Zm 25 3,Zm 26 4,Zm 27 5,u1 28 (.call 38) [.tm 24,.tm 25,.tm 26,.tm 27],u1 29 .not [.tm 28]] (ZC 29 (.seq (.draw [] [Zw 30 2 12,Zw 31 2 13,⟨Zs 2 12 30,[.tm 13]⟩,ZS 2 13 31,w1 14 .mov [.cn (.int .i64 2)]]) .ret) .skip)) (ZR [Zt 33 3 6,Zt 34 27 7,Zm 35 2,u1 36 (.call 22) [.tm 33,.tm 34,.tm 35],Zm 32 36,Ze 37 0 32,Ze 38 1 32,Zs 2 12 37] (ZR [Zt 40 3 6,Zt 41 27 7,Zm 42 3,u1 43 (.call 22) [.tm 40,.tm 41,.tm 42],Zm 39 43,Ze 44 0 39,Ze 45 1 39,Zs 2 13 44] (.seq (.draw [] [Zw 46 2 12,Zu 47 4,Zw 49 2 13,Zu 50 5,Zz 48 65 46 47,Zz 51 65 49 50,ZS 2 12 48,ZS 2 13 51,w1 14 .mov [.cn (.int .i64 0)]]) .ret))))))⟩
theorem YBT:Yg YCX Tryz.f36=some v36:=by kernel_rfl
def v14:VF:=⟨49,[.cell 12 true 2,.tmp 13],(ZR [u1 6 .box [.tm 0],u1 7 .box [.tm 1],Zn 12,Zi 13 0] (ZR [Zt 20 3 6,Zt 21 27 7,Zm 22 2,Zm 23 3,Zm 24 4,Zm 25 5,u1 26 (.call 36) [.tm 20,.tm 21,.tm 22,.tm 23,.tm 24,.tm 25],Zm 19 26,Ze 27 0 19,Ze 28 1 19,Ze 29 2 19,Zn 14,Zn 15,Zs 2 14 27,Zs 2 15 28,Zm 16 29] (.seq (ZR [Zm 30 16,Zq 31 .neq 30 0] (ZC 31 (ZR [u1 32 (.build [(.int .i64 0),(.int .i64 0)] []) [],Zm 33 16,Zs 2 12 32,Zm 13 33] .ret) .skip)) (.seq (ZR [Zt 35 27 7,Zm 36 2,Zm 37 3,Zm 38 4,Zm 39 5,u1 40 (.call 16) [.tm 35,.tm 36,.tm 37,.tm 38,.tm 39],Zm 34 40,Ze 41 0 34,Ze 42 1 34,Zm 17 41,Zm 18 42] (ZR [Zm 43 17,Zq 44 .eql 43 0] (ZC 44 (ZR [u1 45 (.build [(.int .i64 0),(.int .i64 0)] []) [],Zs 2 12 45,Zi 13 0] .ret) .skip))) (ZR [Zt 46 2 14,Zt 47 2 15,Zd 48 37 46 47,Zs 2 12 48,Zi 13 0] .ret)))))⟩
theorem YBG:Yg YCX Tryz.f14=some v14:=by kernel_rfl
def SenF(T:Tm)(lo hi p q:Int):Int×Int:=
 if Ybs T≠0 then(0,Ybs T)else if Yik lo hi p q=false then(0,2)else(senF (YaS T) lo hi p q,0)
def SenC:Ctr:={ alias:=false,of:=fun l=>match l with
 | [.agg cs,.int .i64 lo,.int .i64 hi,.int .i64 p,.int .i64 q]=> .ex Tm fun T=> .pre (cs=encT T/\T.nm.size<=9223372036854775807)
     (.fin (.tup [.int .i64 (SenF T lo hi p q).1,.int .i64 (SenF T lo hi p q).2]) [])
 |_=>noC}
def TL0:Env:={ ct:=fun n=>match n with|29=>some NotC|38=>some bvalC|39=>some senC|_=>none,fn:=fun _=>none,meth:=fun _ _=>none}
theorem Yh7:TL0.ct 29=some NotC:=rfl
theorem Yh8:TL0.ct 38=some bvalC:=rfl
theorem Yh9:TL0.ct 39=some senC:=rfl
theorem YyJ:Yo YCX TL0:=by
 refine⟨fun f c h=>?_,fun f vf h=>?_,(fun _ _ _ h=>by cases h),by kernel_rfl,(fun _ h=>by cases h)⟩
 . simp only[TL0]at h
   split at h
   . cases h;exact⟨Yuy,Tryz.f29,Tryz.func29,by kernel_rfl,by kernel_rfl⟩
   . cases h;exact⟨YtM,Tryz.f38,Tryz.func38,by kernel_rfl,by kernel_rfl⟩
   . cases h;exact⟨YBo,Tryz.f39,Tryz.func39,by kernel_rfl,by kernel_rfl⟩
   . cases h
 . cases h
theorem Yym:SenC.ok YCX 16:=by
 refine Yb Tryz.func16 YBI YyJ 600 SenC fun args k h=>?_
 simp only[SenC]at h
 split at h
 . rename_i cs lo hi p q
   obtain⟨T,⟨rfl,hnm⟩,h⟩:=h
   refine⟨[.agg (encT T),.int .i64 lo,.int .i64 hi,.int .i64 p,.int .i64 q],⟨Yc _ (Yu T _),⟨rfl,rfl⟩,⟨rfl,rfl⟩,⟨rfl,rfl⟩,⟨rfl,rfl⟩,trivial⟩,?_⟩
   have h:k (.tup [.int .i64 (SenF T lo hi p q).1,.int .i64 (SenF T lo hi p q).2]) []:=h
   dsimp only[v16,Ybm,lenT,Yh7,Yh8,Yh9,NotC,bvalC,senC,go_sem,reduceIte,YCS]
   simp only[Yd,YCS,YCU,reduceCtorEq,YCT]
   refine⟨YbH T,T,⟨rfl,hnm⟩,?_⟩
   by_cases hT:Ybs T=0
   . rw[SenF,if_neg (fun hh=>hh hT)]at h
     rw[if_neg (fun hh=>hh hT)]
     dsimp only[Ybm,lenT,Yh7,Yh8,Yh9,NotC,bvalC,senC,go_sem,reduceIte,YCS]
     simp only[Yd,YCS,YCU,reduceCtorEq,YCT]
     refine⟨by decide,by decide,fun hh=>absurd trivial hh,fun hv=>?_,fun hv=>⟨YaS T,⟨fun q _=>Ye _,hv⟩,?_⟩⟩
     . rw[if_pos hv]at h;exact YR h
     . rw[if_neg (by rw[hv];decide)]at h;exact YR h
   . rw[SenF,if_pos hT]at h
     rw[if_pos hT]
     dsimp only[Ybm,lenT,Yh7,Yh8,Yh9,NotC,bvalC,senC,go_sem,reduceIte,YCS]
     simp only[Yd,YCS,YCU,reduceCtorEq,YCT]
     exact⟨by decide,by decide,fun _=>YR h,fun hh=>absurd hh hT⟩
 . exact h.1.elim
def tmsF(a:Iv)(n:Int):Iv:=(sclF a n 1).1
def milF(a:Iv):Iv:=(sclF a 1 1000).1
def ngW(x:Int):Int:=IntKind.i64.wrap (0-x)
def ratF(a b:Iv):Iv:=milF (max (max 0 (subF b a).1.1) (ngW (subF b a).1.2),max (subF b a).1.2 (ngW (subF b a).1.1))
def tmsC:Ctr:={ alias:=false,of:=fun l=>match l with
 | [.agg [.int .i64 x,.int .i64 y],.int .i64 n]=> .fin (.agg [.int .i64 (tmsF (x,y) n).1,.int .i64 (tmsF (x,y) n).2]) []
 |_=>noC}
def milC:Ctr:={ alias:=false,of:=fun l=>match l with
 | [.agg [.int .i64 x,.int .i64 y]]=> .fin (.agg [.int .i64 (milF (x,y)).1,.int .i64 (milF (x,y)).2]) []
 |_=>noC}
def ratC:Ctr:={ alias:=false,of:=fun l=>match l with
 | [.agg [.int .i64 x,.int .i64 y],.agg [.int .i64 z,.int .i64 w]]=> .fin (.agg [.int .i64 (ratF (x,y) (z,w)).1,.int .i64 (ratF (x,y) (z,w)).2]) []
 |_=>noC}
def TL1:Env:={ ct:=fun n=>match n with|76=>some sclC|71=>some subC|_=>none,fn:=fun _=>none,meth:=fun _ _=>none}
theorem Ymb:TL1.ct 76=some sclC:=rfl
theorem Yma:TL1.ct 71=some subC:=rfl
theorem YtB:Yo YCX TL1:=by
 refine⟨fun f c h=>?_,fun f vf h=>?_,(fun _ _ _ h=>by cases h),by kernel_rfl,(fun _ h=>by cases h)⟩
 . simp only[TL1]at h
   split at h
   . cases h;exact⟨YBn,Tryz.f76,Tryz.func76,by kernel_rfl,by kernel_rfl⟩
   . cases h;exact⟨Yup,Tryz.f71,Tryz.func71,by kernel_rfl,by kernel_rfl⟩
   . cases h
 . cases h
theorem Yur:tmsC.ok YCX 65:=by
 refine Yb Tryz.func65 YCe YtB 600 tmsC fun args k h=>?_
 simp only[tmsC]at h
 split at h
 . rename_i x y n
   refine⟨[.agg [.int .i64 x,.int .i64 y],.int .i64 n],by simp [leL,le],?_⟩
   dsimp only[v65,Ymb,Yma,sclC,subC,iv2C,enc2,go_sem,reduceIte,YCS]
   simp only[Yd,YCS,YCU,reduceCtorEq,YCT]
   exact⟨by decide,by decide,YdD (show k _ []from h)⟩
 . exact h.1.elim
theorem mil_c:milC.ok YCX 42:=by
 refine Yb Tryz.func42 YBY YtB 600 milC fun args k h=>?_
 simp only[milC]at h
 split at h
 . rename_i x y
   refine⟨[.agg [.int .i64 x,.int .i64 y]],by simp [leL,le],?_⟩
   dsimp only[v42,Ymb,Yma,sclC,subC,iv2C,enc2,go_sem,reduceIte,YCS]
   simp only[Yd,YCS,YCU,reduceCtorEq,YCT]
   exact⟨by decide,by decide,YdD (show k _ []from h)⟩
 . exact h.1.elim
def TL2:Env:={ ct:=fun n=>match n with|42=>some milC|71=>some subC|_=>none,fn:=fun _=>none,meth:=fun _ _=>none}
theorem YrV:TL2.ct 42=some milC:=rfl
theorem YrW:TL2.ct 71=some subC:=rfl
theorem YyK:Yo YCX TL2:=by
 refine⟨fun f c h=>?_,fun f vf h=>?_,(fun _ _ _ h=>by cases h),by kernel_rfl,(fun _ h=>by cases h)⟩
 . simp only[TL2]at h
   split at h
   . cases h;exact⟨mil_c,Tryz.f42,Tryz.func42,by kernel_rfl,by kernel_rfl⟩
   . cases h;exact⟨Yup,Tryz.f71,Tryz.func71,by kernel_rfl,by kernel_rfl⟩
   . cases h
 . cases h
theorem YBh:ratC.ok YCX 37:=by
 refine Yb Tryz.func37 YBU YyK 600 ratC fun args k h=>?_
 simp only[ratC]at h
 split at h
 . rename_i x y z w
   refine⟨[.agg [.int .i64 x,.int .i64 y],.agg [.int .i64 z,.int .i64 w]],by simp [leL,le],?_⟩
   dsimp only[v37,YrV,YrW,milC,subC,iv2C,enc2,go_sem,reduceIte,YCS]
   simp only[Yd,YCS,YCU,reduceCtorEq,YCT]
   refine⟨by decide,by decide,?_⟩
   exact YdD (show k _ []from h)
 . exact h.1.elim
def rdyF(a t0 t:Int)(T:Tm):Int:=orF [chkS a t0 t,Ybs T]
def rdyC:Ctr:={ alias:=false,of:=fun l=>match l with
 | [.agg [.int .i64 a,.int .i64 t0,.int .i64 t],.agg cs]=> .ex Tm fun T=> .pre (cs=encT T/\T.nm.size<=9223372036854775807) (.fin (.int .i64 (rdyF a t0 t T)) [])
 |_=>noC}
def TL3:Env:={ ct:=fun n=>match n with|61=>some chkSC|62=>some chkTmC|60=>some orC|_=>none,fn:=fun _=>none,meth:=fun _ _=>none}
theorem YrY:TL3.ct 61=some chkSC:=rfl
theorem YrZ:TL3.ct 62=some chkTmC:=rfl
theorem YrX:TL3.ct 60=some orC:=rfl
theorem YyL:Yo YCX TL3:=by
 refine⟨fun f c h=>?_,fun f vf h=>?_,(fun _ _ _ h=>by cases h),by kernel_rfl,(fun _ h=>by cases h)⟩
 . simp only[TL3]at h
   split at h
   . cases h;exact⟨YtN,Tryz.f61,Tryz.func61,by kernel_rfl,by kernel_rfl⟩
   . cases h;exact⟨Ypl,Tryz.f62,Tryz.func62,by kernel_rfl,by kernel_rfl⟩
   . cases h;exact⟨or_c,Tryz.f60,Tryz.func60,by kernel_rfl,by kernel_rfl⟩
   . cases h
 . cases h
theorem YBj:rdyC.ok YCX 28:=by
 refine Yb Tryz.func28 YBL YyL 600 rdyC fun args k h=>?_
 simp only[rdyC]at h
 split at h
 . rename_i a t0 t cs
   obtain⟨T,⟨rfl,hnm⟩,h⟩:=h
   refine⟨[.agg [.int .i64 a,.int .i64 t0,.int .i64 t],.agg (encT T)],⟨⟨⟨rfl,rfl⟩,⟨rfl,rfl⟩,⟨rfl,rfl⟩,trivial⟩,Yc _ (Yu T _),trivial⟩,?_⟩
   dsimp only[v28,Ybm,lenT,YrY,YrZ,YrX,chkSC,chkTmC,orC,go_sem,reduceIte,YCS]
   simp only[Yd,YCS,YCU,reduceCtorEq,YCT]
   refine⟨YbH T,T,⟨rfl,hnm⟩,by decide,[chkS a t0 t,Ybs T],⟨rfl,rfl,fun j hj=>?_⟩,Yj (show k _ []from h)⟩
   rcases(show j=0\/j=1 by omega)with rfl|rfl <;> exact Ye _
 . exact h.1.elim
def micF(a t0 t:Int)(T:Tm)(n:Int):Iv:=(Yi4 (1000*a) a t0 t T n).1
structure Prt where
 a:Iv
 b:Iv
 e:Int
def prtF(a t0 t:Int)(T:Tm)(lo hi p q:Int):Prt:=
 if rdyF a t0 t T≠0 then⟨(0,0),(0,0),rdyF a t0 t T⟩else if Yik lo hi p q=false then⟨(0,0),(0,0),2⟩
 else⟨tmsF (micF a t0 t T lo) p,tmsF (micF a t0 t T hi) q,0⟩
def prtC:Ctr:={ alias:=false,of:=fun l=>match l with
 | [.agg [.int .i64 a,.int .i64 t0,.int .i64 t],.agg cs,.int .i64 lo,.int .i64 hi,.int .i64 p,.int .i64 q]=> .ex Tm fun T=> .pre (cs=encT T/\T.nm.size<=9223372036854775807)
     (.fin (.tup [.agg [.int .i64 (prtF a t0 t T lo hi p q).a.1,.int .i64 (prtF a t0 t T lo hi p q).a.2],.agg [.int .i64 (prtF a t0 t T lo hi p q).b.1,.int .i64 (prtF a t0 t T lo hi p q).b.2],.int .i64 (prtF a t0 t T lo hi p q).e]) [])
 |_=>noC}
theorem Ylj{k:SV->List HO->Prop}{al:Bool}{hp:List HO}{x y z w e:Int}(h:k (.tup [.agg [.int .i64 x,.int .i64 y],.agg [.int .i64 z,.int .i64 w],.int .i64 e]) []):YB al k (.tup [.agg [.int .i64 x,.int .i64 y],.agg [.int .i64 z,.int .i64 w],.int .i64 e]) hp:=
 YE h (YA (.tup [.agg [.int .i64 x,.int .i64 y],.agg [.int .i64 z,.int .i64 w],.int .i64 e]) ⟨⟨trivial,trivial,trivial⟩,⟨trivial,trivial,trivial⟩,trivial,trivial⟩) (fun _=>by simp [Ym,Yp])
def TL4:Env:={ ct:=fun n=>match n with|28=>some rdyC|38=>some bvalC|22=>some micC|65=>some tmsC|_=>none,fn:=fun _=>none,meth:=fun _ _=>none}
theorem Yr1:TL4.ct 28=some rdyC:=rfl
theorem Yr2:TL4.ct 38=some bvalC:=rfl
theorem Yr0:TL4.ct 22=some micC:=rfl
theorem Yr3:TL4.ct 65=some tmsC:=rfl
theorem YyM:Yo YCX TL4:=by
 refine⟨fun f c h=>?_,fun f vf h=>?_,(fun _ _ _ h=>by cases h),by kernel_rfl,(fun _ h=>by cases h)⟩
 . simp only[TL4]at h
   split at h
   . cases h;exact⟨YBj,Tryz.f28,Tryz.func28,by kernel_rfl,by kernel_rfl⟩
   . cases h;exact⟨YtM,Tryz.f38,Tryz.func38,by kernel_rfl,by kernel_rfl⟩
   . cases h;exact⟨Yz6,Tryz.f22,Tryz.func22,by kernel_rfl,by kernel_rfl⟩
   . cases h;exact⟨Yur,Tryz.f65,Tryz.func65,by kernel_rfl,by kernel_rfl⟩
   . cases h
 . cases h
theorem prt_c:prtC.ok YCX 36:=by
 refine Yb Tryz.func36 YBT YyM 600 prtC fun args k h=>?_
 simp only[prtC]at h
 split at h
 . rename_i a t0 t cs lo hi p q
   obtain⟨T,⟨rfl,hnm⟩,h⟩:=h
   refine⟨[.agg [.int .i64 a,.int .i64 t0,.int .i64 t],.agg (encT T),.int .i64 lo,.int .i64 hi,.int .i64 p,.int .i64 q],⟨⟨⟨rfl,rfl⟩,⟨rfl,rfl⟩,⟨rfl,rfl⟩,trivial⟩,Yc _ (Yu T _),⟨rfl,rfl⟩,⟨rfl,rfl⟩,⟨rfl,rfl⟩,⟨rfl,rfl⟩,trivial⟩,?_⟩
   have h:k (.tup [.agg [.int .i64 (prtF a t0 t T lo hi p q).a.1,.int .i64 (prtF a t0 t T lo hi p q).a.2],.agg [.int .i64 (prtF a t0 t T lo hi p q).b.1,.int .i64 (prtF a t0 t T lo hi p q).b.2],.int .i64 (prtF a t0 t T lo hi p q).e]) []:=h
   dsimp only[v36,Ybm,lenT,Yr1,Yr2,Yr0,Yr3,rdyC,bvalC,micC,tmsC,go_sem,reduceIte,YCS]
   simp only[Yd,YCS,YCU,reduceCtorEq,YCT]
   refine⟨YbH T,T,⟨rfl,hnm⟩,fun hc=>?_,fun hc=>⟨fun hv=>?_,fun hv=>⟨T,⟨rfl,hnm⟩,?_⟩⟩⟩
   . rw[prtF,if_pos hc]at h
     exact Ylj h
   . rw[prtF,if_neg (fun hh=>hh hc),if_pos hv]at h
     exact Ylj h
   . rw[prtF,if_neg (fun hh=>hh hc),if_neg (by rw[hv];decide)]at h
     exact⟨by decide,by decide,T,⟨rfl,hnm⟩,by decide,by decide,Ylj h⟩
 . exact h.1.elim
def rteF(a t0 t:Int)(T:Tm)(lo hi p q:Int):Iv×Int:=
 if(prtF a t0 t T lo hi p q).e≠0 then((0,0),(prtF a t0 t T lo hi p q).e)else if(SenF T lo hi p q).1=0 then((0,0),0)
 else(ratF (prtF a t0 t T lo hi p q).a (prtF a t0 t T lo hi p q).b,0)
def rteC:Ctr:={ alias:=false,of:=fun l=>match l with
 | [.agg [.int .i64 a,.int .i64 t0,.int .i64 t],.agg cs,.int .i64 lo,.int .i64 hi,.int .i64 p,.int .i64 q]=> .ex Tm fun T=> .pre (cs=encT T/\T.nm.size<=9223372036854775807)
     (.fin (.tup [.agg [.int .i64 (rteF a t0 t T lo hi p q).1.1,.int .i64 (rteF a t0 t T lo hi p q).1.2],.int .i64 (rteF a t0 t T lo hi p q).2]) [])
 |_=>noC}
def TL5:Env:={ ct:=fun n=>match n with|36=>some prtC|16=>some SenC|37=>some ratC|_=>none,fn:=fun _=>none,meth:=fun _ _=>none}
theorem Yr5:TL5.ct 36=some prtC:=rfl
theorem Yr4:TL5.ct 16=some SenC:=rfl
theorem Yr6:TL5.ct 37=some ratC:=rfl
theorem YyN:Yo YCX TL5:=by
 refine⟨fun f c h=>?_,fun f vf h=>?_,(fun _ _ _ h=>by cases h),by kernel_rfl,(fun _ h=>by cases h)⟩
 . simp only[TL5]at h
   split at h
   . cases h;exact⟨prt_c,Tryz.f36,Tryz.func36,by kernel_rfl,by kernel_rfl⟩
   . cases h;exact⟨Yym,Tryz.f16,Tryz.func16,by kernel_rfl,by kernel_rfl⟩
   . cases h;exact⟨YBh,Tryz.f37,Tryz.func37,by kernel_rfl,by kernel_rfl⟩
   . cases h
 . cases h
theorem YBk:rteC.ok YCX 14:=by
 refine Yb Tryz.func14 YBG YyN 600 rteC fun args k h=>?_
 simp only[rteC]at h
 split at h
 . rename_i a t0 t cs lo hi p q
   obtain⟨T,⟨rfl,hnm⟩,h⟩:=h
   refine⟨[.agg [.int .i64 a,.int .i64 t0,.int .i64 t],.agg (encT T),.int .i64 lo,.int .i64 hi,.int .i64 p,.int .i64 q],⟨⟨⟨rfl,rfl⟩,⟨rfl,rfl⟩,⟨rfl,rfl⟩,trivial⟩,Yc _ (Yu T _),⟨rfl,rfl⟩,⟨rfl,rfl⟩,⟨rfl,rfl⟩,⟨rfl,rfl⟩,trivial⟩,?_⟩
   dsimp only[v14,Ybm,lenT,Yr5,Yr4,Yr6,prtC,SenC,ratC,go_sem,reduceIte,YCS]
   simp only[Yd,YCS,YCU,reduceCtorEq,YCT]
   have h:k (.tup [.agg [.int .i64 (rteF a t0 t T lo hi p q).1.1,.int .i64 (rteF a t0 t T lo hi p q).1.2],.int .i64 (rteF a t0 t T lo hi p q).2]) []:=h
   refine⟨YbH T,T,⟨rfl,hnm⟩,by decide,by decide,by decide,fun hc=>?_,fun hc=>⟨T,⟨rfl,hnm⟩,by decide,by decide,fun hs=>?_,fun hs=>?_⟩⟩
   . rw[rteF,if_pos hc]at h;exact YdE h
   . rw[rteF,if_neg (fun hh=>hh hc),if_pos hs]at h;exact YdE h
   . rw[rteF,if_neg (fun hh=>hh hc),if_neg hs]at h;exact YdE h
 . exact h.1.elim
def v74:VF:=⟨41,[.cell 10 true 27],(ZR [u1 10 (.alloc [(.val (.string ⟨#[]⟩)),(.bool false),(.int .i64 0),(.int .i64 0),(.int .i64 0),(.int .i64 0),(.int .i64 0),(.int .i64 0),(.int .i64 0),(.int .i64 0),(.int .i64 0),(.int .i64 0),(.int .i64 0),(.int .i64 0),(.int .i64 0),(.int .i64 0),(.int .i64 0),(.int .i64 0),(.int .i64 0),(.int .i64 0),(.int .i64 0),(.int .i64 0),(.int .i64 0),(.int .i64 0),(.int .i64 0),(.int .i64 0),(.int .i64 0)]) []] (ZR [Zm 14 0,Zm 15 1,Zm 16 2,u1 17 (.build [(.val (.string ⟨#[]⟩)),(.bool false),(.int .i64 0),(.int .i64 0),(.int .i64 0),(.int .i64 0),(.int .i64 0),(.int .i64 0),(.int .i64 0),(.int .i64 0),(.int .i64 0),(.int .i64 0),(.int .i64 0),(.int .i64 0),(.int .i64 0),(.int .i64 0),(.int .i64 0),(.int .i64 0),(.int .i64 0),(.int .i64 0),(.int .i64 0),(.int .i64 0),(.int .i64 0),(.int .i64 0),(.int .i64 0),(.int .i64 0),(.int .i64 0)] [(0,1),(1,1),(2,1)]) [.tm 14,.tm 15,.tm 16],u1 11 (.alloc [(.val (.string ⟨#[]⟩)),(.bool false),(.int .i64 0),(.int .i64 0),(.int .i64 0),(.int .i64 0),(.int .i64 0),(.int .i64 0),(.int .i64 0),(.int .i64 0),(.int .i64 0),(.int .i64 0),(.int .i64 0),(.int .i64 0),(.int .i64 0),(.int .i64 0),(.int .i64 0),(.int .i64 0),(.int .i64 0),(.int .i64 0),(.int .i64 0),(.int .i64 0),(.int .i64 0),(.int .i64 0),(.int .i64 0),(.int .i64 0),(.int .i64 0)]) [],Zs 27 11 17] (.seq (ZR [Zi 12 0] (.block 0 (.loop (.seq (ZR [Zm 18 12,Zq 19 .lss 18 12] (ZC 19 .skip (.exit 0))) (.seq (.block 1 (.region [Zm 22 12,u1 23 (.build [(.int .i64 0),(.int .i64 0)] [(0,1),(1,1)]) [.cn (.int .i64 0),.cn (.int .i64 1)],Za 24 3 11,u1 25 (.idxArr 12 2) [.tm 24,.tm 22],Zs 2 25 23])) (.region [Zm 20 12,Zp 21 20 1,Zm 12 21])))))) (.seq (ZR [Zi 13 0] (.block 2 (.loop (.seq (ZR [Zm 26 13,Zm 27 4,Zl 28 27,Zr 29 .lss 26 28] (ZC 29 .skip (.exit 2))) (.seq (.block 3 (.region [Zm 32 4,Zm 33 13,Zx 34 1 32 33,Zf 35 1 34,Zm 36 3,u1 37 (.build [(.int .i64 0),(.int .i64 0)] [(0,1),(1,1)]) [.cn (.int .i64 1),.tm 36],Za 38 3 11,u1 39 (.idxArr 12 2) [.tm 38,.tm 35],Zs 2 39 37])) (.region [Zm 30 13,Zp 31 30 1,Zm 13 31])))))) (ZR [Zt 40 27 11,Zs 27 10 40] .ret)))))⟩
theorem YCn:Yg YCX Tryz.f74=some v74:=by kernel_rfl
def v40:VF:=⟨40,[.cell 2 true 27,.tmp 3],(ZR [u1 2 (.alloc [(.val (.string ⟨#[]⟩)),(.bool false),(.int .i64 0),(.int .i64 0),(.int .i64 0),(.int .i64 0),(.int .i64 0),(.int .i64 0),(.int .i64 0),(.int .i64 0),(.int .i64 0),(.int .i64 0),(.int .i64 0),(.int .i64 0),(.int .i64 0),(.int .i64 0),(.int .i64 0),(.int .i64 0),(.int .i64 0),(.int .i64 0),(.int .i64 0),(.int .i64 0),(.int .i64 0),(.int .i64 0),(.int .i64 0),(.int .i64 0),(.int .i64 0)]) [],Zi 3 0] (.seq (ZR [Zm 4 0] (.block 0 (ZR [u1 6 (.eqStr false) [.tm 4,.cn (.val (.string ⟨#[101,113,117,97,108]⟩))],Zm 5 6] (ZC 5 (ZR [Zm 7 0,u1 8 (.buildSlice 1 11 [(.int .i64 0)] [(0,1),(1,1),(2,1),(3,1),(4,1),(5,1),(6,1),(7,1),(8,1),(9,1),(10,1)]) [.cn (.int .i64 0),.cn (.int .i64 1),.cn (.int .i64 2),.cn (.int .i64 3),.cn (.int .i64 4),.cn (.int .i64 5),.cn (.int .i64 6),.cn (.int .i64 7),.cn (.int .i64 8),.cn (.int .i64 9),.cn (.int .i64 10)],u1 9 (.call 74) [.tm 7,.cn (.bool false),.cn (.int .i64 11),.cn (.int .i64 12),.tm 8],Zs 27 2 9,Zi 3 0] .ret) (ZR [u1 11 (.eqStr false) [.tm 4,.cn (.val (.string ⟨#[112,121,116,104,97,103,111,114,101,97,110]⟩))],Zm 10 11] (ZC 10 (ZR [Zm 12 0,u1 13 (.call 74) [.tm 12,.cn (.bool false),.cn (.int .i64 8),.cn (.int .i64 1),.cn .nil],Zs 27 2 13,Zi 3 0] .ret) (ZR [u1 15 (.eqStr false) [.tm 4,.cn (.val (.string ⟨#[109,101,97,110,116,111,110,101]⟩))],Zm 14 15] (ZC 14 (ZR [Zm 16 0,u1 17 (.buildSlice 1 11 [(.int .i64 0)] [(0,1),(1,1),(2,1),(3,1),(4,1),(5,1),(6,1),(7,1),(8,1),(9,1),(10,1)]) [.cn (.int .i64 0),.cn (.int .i64 1),.cn (.int .i64 2),.cn (.int .i64 3),.cn (.int .i64 4),.cn (.int .i64 5),.cn (.int .i64 6),.cn (.int .i64 7),.cn (.int .i64 9),.cn (.int .i64 10),.cn (.int .i64 11)],u1 18 (.call 74) [.tm 16,.cn (.bool true),.cn (.int .i64 8),.cn (.int .i64 4),.tm 17],Zs 27 2 18,Zi 3 0] .ret) (ZR [u1 20 (.eqStr false) [.tm 4,.cn (.val (.string ⟨#[119,101,114,99,107,109,101,105,115,116,101,114]⟩))],Zm 19 20] (ZC 19 (ZR [Zm 21 0,u1 22 (.buildSlice 1 4 [(.int .i64 0)] [(0,1),(1,1),(2,1),(3,1)]) [.cn (.int .i64 0),.cn (.int .i64 1),.cn (.int .i64 2),.cn (.int .i64 5)],u1 23 (.call 74) [.tm 21,.cn (.bool false),.cn (.int .i64 11),.cn (.int .i64 4),.tm 22],Zs 27 2 23,Zi 3 0] .ret) (ZR [u1 25 (.eqStr false) [.tm 4,.cn (.val (.string ⟨#[107,105,114,110,98,101,114,103,101,114]⟩))],Zm 24 25] (ZC 24 (ZR [Zm 26 0,u1 27 (.buildSlice 1 4 [(.int .i64 0)] [(0,1),(1,1),(2,1),(3,1)]) [.cn (.int .i64 0),.cn (.int .i64 1),.cn (.int .i64 2),.cn (.int .i64 3)],u1 28 (.call 74) [.tm 26,.cn (.bool true),.cn (.int .i64 6),.cn (.int .i64 4),.tm 27],Zs 27 2 28,Zi 3 0] .ret) (ZR [u1 30 (.eqStr false) [.tm 4,.cn (.val (.string ⟨#[118,97,108,108,111,116,116,105]⟩))],Zm 29 30] (ZC 29 (ZR [Zm 31 0,u1 32 (.buildSlice 1 6 [(.int .i64 0)] [(0,1),(1,1),(2,1),(3,1),(4,1),(5,1)]) [.cn (.int .i64 0),.cn (.int .i64 1),.cn (.int .i64 2),.cn (.int .i64 3),.cn (.int .i64 4),.cn (.int .i64 11)],u1 33 (.call 74) [.tm 31,.cn (.bool false),.cn (.int .i64 6),.cn (.int .i64 6),.tm 32],Zs 27 2 33,Zi 3 0] .ret) (ZR [u1 35 (.eqStr false) [.tm 4,.cn (.val (.string ⟨#[121,111,117,110,103]⟩))],Zm 34 35] (ZC 34 (ZR [Zm 36 0,u1 37 (.buildSlice 1 6 [(.int .i64 0)] [(0,1),(1,1),(2,1),(3,1),(4,1),(5,1)]) [.cn (.int .i64 0),.cn (.int .i64 1),.cn (.int .i64 2),.cn (.int .i64 3),.cn (.int .i64 4),.cn (.int .i64 5)],u1 38 (.call 74) [.tm 36,.cn (.bool false),.cn (.int .i64 11),.cn (.int .i64 6),.tm 37],Zs 27 2 38,Zi 3 0] .ret) .skip)))))))))))))))) (ZR [u1 39 (.build [(.val (.string ⟨#[]⟩)),(.bool false),(.int .i64 0),(.int .i64 0),(.int .i64 0),(.int .i64 0),(.int .i64 0),(.int .i64 0),(.int .i64 0),(.int .i64 0),(.int .i64 0),(.int .i64 0),(.int .i64 0),(.int .i64 0),(.int .i64 0),(.int .i64 0),(.int .i64 0),(.int .i64 0),(.int .i64 0),(.int .i64 0),(.int .i64 0),(.int .i64 0),(.int .i64 0),(.int .i64 0),(.int .i64 0),(.int .i64 0),(.int .i64 0)] []) [],Zs 27 2 39,Zi 3 4] .ret)))⟩
theorem YBX:Yg YCX Tryz.f40=some v40:=by kernel_rfl
def v17:VF:=⟨11,[.cell 2 true 27],(ZR [u1 2 (.alloc [(.val (.string ⟨#[]⟩)),(.bool false),(.int .i64 0),(.int .i64 0),(.int .i64 0),(.int .i64 0),(.int .i64 0),(.int .i64 0),(.int .i64 0),(.int .i64 0),(.int .i64 0),(.int .i64 0),(.int .i64 0),(.int .i64 0),(.int .i64 0),(.int .i64 0),(.int .i64 0),(.int .i64 0),(.int .i64 0),(.int .i64 0),(.int .i64 0),(.int .i64 0),(.int .i64 0),(.int .i64 0),(.int .i64 0),(.int .i64 0),(.int .i64 0)]) []] (ZR [Zm 6 0,Zc 7 40 6,Zm 5 7,Ze 8 0 5,Ze 9 1 5,u1 3 (.alloc [(.val (.string ⟨#[]⟩)),(.bool false),(.int .i64 0),(.int .i64 0),(.int .i64 0),(.int .i64 0),(.int .i64 0),(.int .i64 0),(.int .i64 0),(.int .i64 0),(.int .i64 0),(.int .i64 0),(.int .i64 0),(.int .i64 0),(.int .i64 0),(.int .i64 0),(.int .i64 0),(.int .i64 0),(.int .i64 0),(.int .i64 0),(.int .i64 0),(.int .i64 0),(.int .i64 0),(.int .i64 0),(.int .i64 0),(.int .i64 0),(.int .i64 0)]) [],Zs 27 3 8,Zm 4 9] (ZR [Zt 10 27 3,Zs 27 2 10] .ret)))⟩
theorem YBJ:Yg YCX Tryz.f17=some v17:=by kernel_rfl
def v15:VF:=⟨2,[.cell 0 true 3],(ZR [u1 0 (.alloc [(.int .i64 0),(.int .i64 0),(.int .i64 0)]) []] (ZR [u1 1 (.build [(.int .i64 0),(.int .i64 0),(.int .i64 0)] [(0,1),(1,1),(2,1)]) [.cn (.int .i64 440000),.cn (.int .i64 15000),.cn (.int .i64 15000)],Zs 3 0 1] .ret))⟩
theorem YBH:Yg YCX Tryz.f15=some v15:=by kernel_rfl
def v20:VF:=⟨11,[.cell 2 true 27],(ZR [u1 2 (.alloc [(.val (.string ⟨#[]⟩)),(.bool false),(.int .i64 0),(.int .i64 0),(.int .i64 0),(.int .i64 0),(.int .i64 0),(.int .i64 0),(.int .i64 0),(.int .i64 0),(.int .i64 0),(.int .i64 0),(.int .i64 0),(.int .i64 0),(.int .i64 0),(.int .i64 0),(.int .i64 0),(.int .i64 0),(.int .i64 0),(.int .i64 0),(.int .i64 0),(.int .i64 0),(.int .i64 0),(.int .i64 0),(.int .i64 0),(.int .i64 0),(.int .i64 0)]) []] (ZR [Zm 6 0,Zc 7 40 6,Zm 5 7,Ze 8 0 5,Ze 9 1 5,u1 3 (.alloc [(.val (.string ⟨#[]⟩)),(.bool false),(.int .i64 0),(.int .i64 0),(.int .i64 0),(.int .i64 0),(.int .i64 0),(.int .i64 0),(.int .i64 0),(.int .i64 0),(.int .i64 0),(.int .i64 0),(.int .i64 0),(.int .i64 0),(.int .i64 0),(.int .i64 0),(.int .i64 0),(.int .i64 0),(.int .i64 0),(.int .i64 0),(.int .i64 0),(.int .i64 0),(.int .i64 0),(.int .i64 0),(.int .i64 0),(.int .i64 0),(.int .i64 0)]) [],Zs 27 3 8,Zm 4 9] (ZR [Zt 10 27 3,Zs 27 2 10] .ret)))⟩
def setP(p:Nat->Int×Int)(i:Nat)(x:Int×Int):Nat->Int×Int:=fun k=>if k=i then x else p k
theorem YmK(nm:ByteArray)(syn:Bool)(w:Int)(p:Nat->Int×Int){i:Nat}(h:i<12)(a b:Int):
   Ys (encT ⟨nm,syn,w,p⟩) (3+idxN (i:Int) 2) [.int .i64 a,.int .i64 b]=encT ⟨nm,syn,w,setP p i (a,b)⟩:=by
 rcases Yfl h with rfl|rfl|rfl|rfl|rfl|rfl|rfl|rfl|rfl|rfl|rfl|rfl <;> rfl
theorem YzD(i:Nat):idxN (i:Int) 2=i*2:=by simp [idxN]
def fstP:Nat->Nat->Int×Int
 |0=>fun _=>(0,0)
 |i+1=>setP (fstP i) i (0,1)
def madP(den:Int)(l:List Int):Nat->Int×Int:=l.foldl (fun p x=>setP p x.toNat (1,den)) (fstP 12)
def madC:Ctr:={ alias:=false,of:=fun l=>match l with
 | [.val (.string nm),.bool syn,.int .i64 w,.int .i64 den,.vs _ _ n sz get]=> .ex (List Int) fun l=> .pre (lsP 1 enc1 n sz get l/\l.length<=100/\∀x,x∈l->0<=x/\x<=11) (.fin (.agg (encT ⟨nm,syn,w,madP den l⟩)) [])
 |_=>noC}
theorem Yy4{k:SV->List HO->Prop}{al:Bool}{hp:List HO}{T:Tm}(h:k (.agg (encT T)) []):YB al k (.agg (encT T)) hp:=
 YE h (YA (.agg (encT T)) (Yu T _)) (fun _=>by simp [Ym,Yp,encT,encP])
def TM0:Env:={ ct:=fun _=>none,fn:=fun _=>none,meth:=fun _ _=>none}
theorem YtC:Yo YCX TM0:=by
 refine⟨fun f c h=>?_,fun f vf h=>?_,(fun _ _ _ h=>by cases h),by kernel_rfl,(fun _ h=>by cases h)⟩
 . cases h
 . cases h
theorem mad_c:madC.ok YCX 74:=by
 refine Yb Tryz.func74 YCn YtC 600 madC fun args k h=>?_
 simp only[madC]at h
 split at h
 . rename_i nm syn w den tt z n sz get
   obtain⟨l,⟨⟨rfl,rfl,hg⟩,hn,hl⟩,h⟩:=h
   refine⟨[.val (.string nm),.bool syn,.int .i64 w,.int .i64 den,.vs tt z l.length 1 (fun k=>enc1 (l.getD k default))],⟨⟨rfl,trivial⟩,rfl,⟨rfl,rfl⟩,⟨rfl,rfl⟩,⟨id,rfl,rfl,rfl,hg⟩,trivial⟩,?_⟩
   dsimp only[v74,enc1,go_sem,reduceIte,YCS]
   simp only[Yd,YCS,YCU,reduceCtorEq,YCT]
   refine⟨rfl,rfl,?_⟩
   refine Loop.keep [3,0,5,0] Nat (fun i=>[(12,.int .i64 i)]) (fun i=>[(1,.box (encT ⟨nm,syn,w,fstP i⟩))]) [] (fun i=>i<=12) (fun i=>12-i) ?_ ?_
   . refine⟨0,by omega,?_⟩
     dsimp only[encT,encP,fstP,go_sem,reduceIte,YCS]
     simp only[Ya]
     repeat' apply YC3
     all_goals first|exact trivial|decide|rfl|omega|exact(YDf (by omega)).symm|exact Yc _ (Yu _ _) |simp
   . rintro i hi
     dsimp only[YCY,go_sem,reduceIte,YCS]
     simp only[Yd,YCS,YCU,reduceCtorEq,YCT]
     refine⟨fun hlt=>?_,fun hge=>?_⟩
     . have hi12:i<12:=by omega
       rw[YmK _ _ _ _ hi12,YCW ((i:Int)+1) (by omega)]
       refine⟨⟨by omega,by omega⟩,by rw[YzD,lenT];omega,i+1,by omega,by omega,?_⟩
       simp only[Ya]
       refine⟨⟨by decide,by decide,by simp⟩,Yc _ (Yu _ _)⟩
     . obtain rfl:i=12:=by omega
       refine Loop.keep [3,0,5,0] Nat (fun i=>[(13,.int .i64 i)]) (fun i=>[(1,.box (encT ⟨nm,syn,w,madP den (l.take i)⟩))]) [] (fun i=>i<=l.length) (fun i=>l.length-i) ?_ ?_
       . refine⟨0,by omega,?_⟩
         dsimp only[go_sem,reduceIte,YCS]
         simp only[Ya]
         refine⟨⟨by decide,by decide,rfl⟩,Yc _ (Yu _ _)⟩
       . rintro i hi
         dsimp only[YCY,go_sem,reduceIte,YCS]
         simp only[Yd,YCS,YCU,reduceCtorEq,YCT]
         refine⟨fun hlt=>?_,fun hge=>?_⟩
         . have hil:i<l.length:=by omega
           have hx:=hl _ (YK hil)
           obtain⟨m,hm⟩:∃m:Nat,l.getD i default=(m:Int):=⟨(l.getD i default).toNat,by omega⟩
           have hm12:m<12:=by omega
           rw[hm,YmK _ _ _ _ hm12,Yfn hil (by omega)]
           have hS:madP den (l.take (i+1))=setP (madP den (l.take i)) m (1,den):=by
             rw[madP,YH hil,hm,YCY];rfl
           refine⟨⟨by omega,by omega⟩,⟨by omega,by omega⟩,by rw[YzD,lenT];omega,i+1,by omega,by omega,?_⟩
           rw[hS]
           simp only[Ya]
           refine⟨⟨by decide,by decide⟩,Yc _ (Yu _ _)⟩
         . obtain rfl:i=l.length:=by omega
           rw[List.take_length]
           exact⟨YC2 27,⟨rfl,YbH _⟩,YC2 27,Yy4 (T:=⟨nm,syn,w,madP den l⟩) h⟩
 . exact h.1.elim
theorem Yno{a b:ByteArray}:(a.toList==b.toList)=decide (a.data.toList=b.data.toList):=by
 rw[ByteArray.toList_eq,ByteArray.toList_eq]
 by_cases h:a.data.toList=b.data.toList
 . rw[decide_eq_true h,beq_iff_eq];exact h
 . rw[decide_eq_false h,beq_eq_false_iff_ne];exact h
def EQ:Tm:=⟨⟨#[101,113,117,97,108]⟩,false,11,madP 12 [0,1,2,3,4,5,6,7,8,9,10]⟩
def MT:Tm:=⟨⟨#[109,101,97,110,116,111,110,101]⟩,true,8,madP 4 [0,1,2,3,4,5,6,7,9,10,11]⟩
def nmdC:Ctr:={ alias:=false,of:=fun l=>match l with
 | [.val (.string b)]=> .ex Bool fun m=> .pre (b=if m then MT.nm else EQ.nm) (.fin (.agg (encT (if m then MT else EQ))) [])
 |_=>noC}
def stdC:Ctr:={ alias:=false,of:=fun l=>match l with
 | [.val (.string b)]=> .ex Bool fun m=> .pre (b=if m then MT.nm else EQ.nm) (.fin (.tup [.agg (encT (if m then MT else EQ)),.int .i64 0]) [])
 |_=>noC}
theorem YtI{k:SV->List HO->Prop}{al:Bool}{hp:List HO}{T:Tm}{e:Int}(h:k (.tup [.agg (encT T),.int .i64 e]) []):YB al k (.tup [.agg (encT T),.int .i64 e]) hp:=
 YE h (YA (.tup [.agg (encT T),.int .i64 e]) ⟨Yu T _,trivial,trivial⟩) (fun _=>by simp [Ym,Yp,encT,encP])
theorem elev{k:Nat}(h:k<11):k=0\/k=1\/k=2\/k=3\/k=4\/k=5\/k=6\/k=7\/k=8\/k=9\/k=10:=by omega
def TM1:Env:={ ct:=fun n=>match n with|74=>some madC|_=>none,fn:=fun _=>none,meth:=fun _ _=>none}
theorem Yr7:TM1.ct 74=some madC:=rfl
theorem YyO:Yo YCX TM1:=by
 refine⟨fun f c h=>?_,fun f vf h=>?_,(fun _ _ _ h=>by cases h),by kernel_rfl,(fun _ h=>by cases h)⟩
 . simp only[TM1]at h
   split at h
   . cases h;exact⟨mad_c,Tryz.f74,Tryz.func74,by kernel_rfl,by kernel_rfl⟩
   . cases h
 . cases h
theorem std_c:stdC.ok YCX 40:=by
 refine Yb Tryz.func40 YBX YyO 600 stdC fun args k h=>?_
 simp only[stdC]at h
 split at h
 . rename_i b
   obtain⟨m,hb,h⟩:=h
   have h:k (.tup [.agg (encT (if m then MT else EQ)),.int .i64 0]) []:=h
   refine⟨[.val (.string b)],⟨⟨rfl,trivial⟩,trivial⟩,?_⟩
   subst hb
   dsimp only[v40,Yr7,madC,go_sem,reduceIte,YCS]
   simp only[Yd,YCS,YCU,reduceCtorEq,YCT]
   cases m
   . refine⟨fun _=>⟨by decide,[0,1,2,3,4,5,6,7,8,9,10],⟨⟨rfl,rfl,fun j hj=>?_⟩,by decide,by decide⟩,⟨rfl,YbH _⟩,YC2 27,YtI (T:=EQ) h⟩,fun hf=>?_⟩
     . rcases elev hj with rfl|rfl|rfl|rfl|rfl|rfl|rfl|rfl|rfl|rfl|rfl <;> exact Ye _
     . exact absurd hf (by rw[Yno];decide)
   . refine⟨fun hf=>?_,fun _=>⟨fun hf=>?_,fun _=>⟨fun _=>⟨by decide,[0,1,2,3,4,5,6,7,9,10,11],⟨⟨rfl,rfl,fun j hj=>?_⟩,by decide,by decide⟩,⟨rfl,YbH _⟩,YC2 27,YtI (T:=MT) h⟩,fun hf=>?_⟩⟩⟩
     . exact absurd hf (by rw[Yno];decide)
     . exact absurd hf (by rw[Yno];decide)
     . rcases elev hj with rfl|rfl|rfl|rfl|rfl|rfl|rfl|rfl|rfl|rfl|rfl <;> exact Ye _
     . exact absurd hf (by rw[Yno];decide)
 . exact h.1.elim
def usuC:Ctr:={ alias:=false,of:=fun l=>match l with
 | []=> .fin (.agg [.int .i64 440000,.int .i64 15000,.int .i64 15000]) []
 |_=>noC}
theorem YuI{k:SV->List HO->Prop}{al:Bool}{hp:List HO}{x y z:Int}(h:k (.agg [.int .i64 x,.int .i64 y,.int .i64 z]) []):YB al k (.agg [.int .i64 x,.int .i64 y,.int .i64 z]) hp:=
 YE h (YA (.agg [.int .i64 x,.int .i64 y,.int .i64 z]) ⟨trivial,trivial,trivial,trivial⟩) (fun _=>by simp [Ym,Yp])
theorem Yw6:usuC.ok YCX 15:=by
 refine Yb Tryz.func15 YBH YtC 600 usuC fun args k h=>?_
 simp only[usuC]at h
 split at h
 . refine⟨[],trivial,?_⟩
   dsimp only[v15,go_sem,reduceIte,YCS]
   simp only[Yd,YCS,YCU,reduceCtorEq,YCT]
   exact YuI h
 . exact h.1.elim
def TM2:Env:={ ct:=fun n=>match n with|40=>some stdC|_=>none,fn:=fun _=>none,meth:=fun _ _=>none}
theorem Yr8:TM2.ct 40=some stdC:=rfl
theorem YyP:Yo YCX TM2:=by
 refine⟨fun f c h=>?_,fun f vf h=>?_,(fun _ _ _ h=>by cases h),by kernel_rfl,(fun _ h=>by cases h)⟩
 . simp only[TM2]at h
   split at h
   . cases h;exact⟨std_c,Tryz.f40,Tryz.func40,by kernel_rfl,by kernel_rfl⟩
   . cases h
 . cases h
theorem Yv6:nmdC.ok YCX 17:=by
 refine Yb Tryz.func17 YBJ YyP 600 nmdC fun args k h=>?_
 simp only[nmdC]at h
 split at h
 . rename_i b
   obtain⟨m,hb,h⟩:=h
   have h:k (.agg (encT (if m then MT else EQ))) []:=h
   refine⟨[.val (.string b)],⟨⟨rfl,trivial⟩,trivial⟩,?_⟩
   dsimp only[v17,v20,Yr8,stdC,go_sem,reduceIte,YCS]
   simp only[Yd,YCS,YCU,reduceCtorEq,YCT]
   exact⟨m,hb,by decide,by decide,⟨rfl,YbH _⟩,YC2 27,⟨rfl,YbH _⟩,YC2 27,Yy4 h⟩
 . exact h.1.elim
structure Stp where
 kn:Int
 nw:Int
 p:Int
 q:Int
 se:Int
 lo:Int
 hi:Int
 deriving Inhabited,DecidableEq
def encS(x:Stp):List SV:=[.int .i64 x.kn,.int .i64 x.nw,.int .i64 x.p,.int .i64 x.q,.int .i64 x.se,.int .i64 x.lo,.int .i64 x.hi]
theorem exa_1:rteF 440000 15000 15000 EQ 60 67 3 2=((885,886),0):=by decide+kernel
theorem exa_2:rteF 440000 15000 15000 MT 60 64 5 4=((0,0),0):=by decide+kernel
theorem exa_3:SenF EQ 60 64 5 4=(1,0):=by decide+kernel
end Go.Proofs.YtnfkhknfpaamoaaGreatDoor
namespace Go.Vx
open Go Go.RowKit Go.ChangeShapes Go.WideShapes Go.ChangeAt Go.WideMaps Go.WideElems
def primesL:List Int:=[2,3,5,7,11,13]
def YcY:DataW Unit:= .agg [.lit (.int .i64 2),.lit (.int .i64 3),.lit (.int .i64 5),.lit (.int .i64 7),.lit (.int .i64 11),.lit (.int .i64 13)]
theorem Yke{P:Program}{W:World}{g:Nat}{T el:TypeId}(hg:P.globalNamed "quintadena/ratios.primes" =some g)(hT:(P.globals[g]?).map (·.type)=some T)
   (hu:P.underlying T=some (.array 6 el)) (he:P.underlying el=some (.int .i64)) (hc:P.cellsOf el=1) (hp:laidMetH P [("quintadena/ratios.primes",YcY)] W):
   Cells W g 0 (gloV primesL):=by
 rw[MakeChecks.laidMetH_plain _ _ _ (by kernel_rfl)]at hp
 obtain⟨ps,⟨g1,t1,cs1,f1,p1,q1,hg1,ht1,hv1,hd1,h1⟩,h2⟩:=hp
 obtain rfl:=Option.some.inj (hg.symm.trans hg1)
 obtain rfl:=Option.some.inj (hT.symm.trans ht1)
 obtain⟨xs,m1,rfl,hx1,hlen,hn3,hel⟩:=DataW.trod_array hu hd1
 have hcell:∀k,k<6->cs1[k]? =some (.int .i64 (primesL.getD k 0)):=by
   intro k hk
   have h3:=hel k hk
   obtain⟨x,hx⟩:∃x,xs[k]? =some x:=⟨xs[k]'(by omega),by simp⟩
   rw[hx,hc,Nat.mul_one]at h3
   obtain⟨v,e1,e2,_⟩:=DataW.trod_int he h3
   have e3:(cs1.toList.drop k)[0]? =some (.int .i64 v):=by
     have:((cs1.toList.drop k).take 1)[0]? =some (.int .i64 v):=by rw[e1];rfl
     simpa using this
   have e4:cs1[k]? =some (.int .i64 v):=by simpa using e3
   rw[e4]
   simp only[Prod.mk.injEq]at hx1
   have e5:(DataW.lit (.int .i64 (primesL.getD k 0)):DataW Unit)=x.1:=by
     have e6:(xs.map (·.1))[k]? =some x.1:=by simp [hx]
     have e7:=hx1.1
     simp only[YcY,DataW.agg.injEq]at e7
     rw[<-e7]at e6
     match k,hk,e6 with
     |0,_,e6|1,_,e6|2,_,e6|3,_,e6|4,_,e6|5,_,e6=>exact Option.some.inj e6
   rw[e2]at e5
   simp only[DataW.lit.injEq,Lit.int.injEq]at e5
   rw[e5.2]
 unfold World.var? at hv1
 rw[hg]at hv1
 simp only[Option.bind_some]at hv1
 split at hv1
 . rename_i cs T' fz ho
   cases hv1
   refine⟨cs1,T',fz,ho,fun j v hj=>?_⟩
   have hj6:j<6:=by
     have:=(List.getElem?_eq_some_iff.1 hj).1
     simpa [gloV,primesL]using this
   rw[Nat.zero_add,hcell j hj6]
   match j,hj6,hj with
   |0,_,hj|1,_,hj|2,_,hj|3,_,hj|4,_,hj|5,_,hj=>exact hj
 . cases hv1
theorem Ykt{g:Nat}{T el:TypeId}{C:Checked}{f:FuncId}{fn:Func}{s:ChangeSpec}{dom:List PathCond}{os:Os}{H:Type}{enc:TypeId×Value->H}{shs:List PSh}{tb:TypeId}
   (own:ownKnob C.prog.godebug=none)(started:os.Started)(noInit:C.prog.inits.idxOf? f=none)(hfn:C.prog.funcs[f]? =some fn)(hl:laidOutB C.prog=true)
   (witness:∃(w:World) (tape:Tape) (i:Input),w.os=os/\(w.forCall tape i).Shaped C.prog/\i.vars=[]/\Input.okWide C.prog (w.forCall tape i) .any w.heap.size f i/\
     ((s.pre enc C.prog fn dom false (w.forCall tape i).memory i.args/\laidMetH C.prog [("quintadena/ratios.primes",YcY)] (w.forCall tape i).memory)/\sizedMet enc C.prog fn (OpenSpec.ofChange s) false (w.forCall tape i).memory i.args)/\({}:Assume).holds C.prog (lone (Frame.enter C.prog f i.args .normal) [] (w.forCall tape i)))
   (hsh:YkI C.prog fn.params.toList=some shs)(hread:YwG C.prog fn.params.toList=true)(hres:fn.resultTypes.toList=[tb])(htb:C.prog.underlying tb=some .bool)(hvars:s.vars=[])
   (hspec:∀ds:List (DataW H),ds.length=fn.params.toList.length->(s.fn H ds).results=[.lit (.bool true)]/\(s.fn H ds).args=ds/\(s.fn H ds).vars=[])(hc:(lawC shs).ok C.prog f)(hg:C.prog.globalNamed "quintadena/ratios.primes" =some g)(hT:(C.prog.globals[g]?).map (·.type)=some T) (hu:C.prog.underlying T=some (.array 6 el)) (he:C.prog.underlying el=some (.int .i64)) (hce:C.prog.cellsOf el=1):
   ReturnsInHanded {} C os f .any (fun w args=>(s.pre enc C.prog fn dom false w args/\laidMetH C.prog [("quintadena/ratios.primes",YcY)] w)/\sizedMet enc C.prog fn (OpenSpec.ofChange s) false w args) (s.post enc C.prog fn false true false false):=by
 refine returnsInHanded_of_change_and (X:=fun w _=>laidMetH C.prog [("quintadena/ratios.primes",YcY)] w) (fun _ _ _ hh h=>h.of_heap hh) own started noInit hfn witness ?_
 intro W base args ds gs before hval hW hcnd _ hL _
 obtain⟨p,q,hA,hV,hbef,hfz,hnd⟩:=id hW
 have hlen:=YgM hA
 rw[hvars]at hV
 obtain⟨rfl,rfl⟩:=trodVars_none hV
 obtain⟨svs,k1,k2⟩:=Yhu (B:=W.heap.size) hsh (fun j t v ht hv=>hval j t v (by simpa using ht) (by simpa using hv)) hA
 have hcall:=hc svs args.toList (cx0 W) (fun r hs=>r= .bool true) ⟨fun b K h=>(by cases h),fun g' l h=>by
   have hcl:=Yke hg hT hu he hce hL
   unfold glob at h
   split at h
   . rename_i hg'
     cases h
     obtain rfl:=Option.some.inj (hg.symm.trans hg')
     obtain⟨cs,T',fz,ho,_⟩:=id hcl
     exact⟨(YC7.1 ho).1,trivial,hcl⟩
   . cases h⟩ k1 ⟨k2,rfl⟩
 simp only[Array.toArray_toList]at hcall
 refine hcall.mono fun e W' h=>?_
 obtain⟨r,hs,v,bs,J,hJ,rfl,rfl,hr,_,hbI,_⟩:=h
 have hb:Below W.heap.size W W':=⟨hbI.os,hbI.tape,hbI.output,hbI.size,fun k hk=>hbI.block k hk rfl⟩
 have hv:=hr.bool_inv
 subst hv
 obtain⟨s1,s2,s3⟩:=hspec ds hlen
 refine⟨_,rfl,ds,[],before,[],p,[],hW,?_,?_,?_,hb.frame _,fun h=>by cases h⟩
 . rw[List.append_nil,s1,hres]
   have hsz:fn.resultTypes.size=1:=by rw[<-Array.length_toList,hres];rfl
   have:(Value.bool true).resultList fn.resultTypes.size=[.bool true]:=by rw[hsz];rfl
   rw[this]
   exact trodAll_mk1 (shut_bool htb true)
 . rw[List.append_nil,s2]
   exact Yfg hl hb hread hA
 . rw[List.append_nil,s3,hvars];rfl
end Go.Vx
namespace Go.Vx
open Go Go.RowKit Go.ChangeShapes Go.WideShapes Go.ChangeAt Go.WideMaps Go.WideElems
end Go.Vx
namespace Go.Proofs.YtnfkhknfpaamoaaGreatDoor
open Go Go.Vx
set_option maxRecDepth 100000
set_option maxHeartbeats 4000000
def v9:VF:=⟨48,[.tmp 0],(ZR [u1 0 .mov [.cn (.bool false)]] (ZR [u1 8 (.call 15) [],u1 9 (.call 17) [.cn (.val (.string ⟨#[101,113,117,97,108]⟩))],u1 10 (.call 14) [.tm 8,.tm 9,.cn (.int .i64 60),.cn (.int .i64 67),.cn (.int .i64 3),.cn (.int .i64 2)],Zm 7 10,Ze 11 0 7,Ze 12 1 7,Zn 1,Zs 2 1 11,Zm 2 12] (ZR [u1 14 (.call 15) [],u1 15 (.call 17) [.cn (.val (.string ⟨#[109,101,97,110,116,111,110,101]⟩))],u1 16 (.call 14) [.tm 14,.tm 15,.cn (.int .i64 60),.cn (.int .i64 64),.cn (.int .i64 5),.cn (.int .i64 4)],Zm 13 16,Ze 17 0 13,Ze 18 1 13,Zn 3,Zs 2 3 17,Zm 4 18] (ZR [u1 20 (.call 17) [.cn (.val (.string ⟨#[101,113,117,97,108]⟩))],u1 21 (.call 16) [.tm 20,.cn (.int .i64 60),.cn (.int .i64 64),.cn (.int .i64 5),.cn (.int .i64 4)],Zm 19 21,Ze 22 0 19,Ze 23 1 19,Zm 5 22,Zm 6 23] (ZR [Zm 24 2,Zq 25 .eql 24 0,Zm 26 25,Zg 27 26 true 4,u2 28 26 true (.cmp .eql) [.tm 27,.cn (.int .i64 0)],u1 29 .and [.tm 26,.tm 28],Zm 30 29,Zg 31 30 true 6,u2 32 30 true (.cmp .eql) [.tm 31,.cn (.int .i64 0)],u1 33 .and [.tm 30,.tm 32],Zm 34 33,u2 35 34 true (.load true 2) [.tm 1],u2 36 34 true (.build [(.int .i64 0),(.int .i64 0)] [(0,1),(1,1)]) [.cn (.int .i64 885),.cn (.int .i64 886)],u2 37 34 true (.eqv false [true,true]) [.tm 35,.tm 36],u1 38 .and [.tm 34,.tm 37],Zm 39 38,u2 40 39 true (.load true 2) [.tm 3],u2 41 39 true (.build [(.int .i64 0),(.int .i64 0)] []) [],u2 42 39 true (.eqv false [true,true]) [.tm 40,.tm 41],u1 43 .and [.tm 39,.tm 42],Zm 44 43,Zg 45 44 true 5,u2 46 44 true (.cmp .eql) [.tm 45,.cn (.int .i64 1)],u1 47 .and [.tm 44,.tm 46],Zm 0 47] .ret)))))⟩
theorem v9_is:Yg YCX Tryz.f9=some v9:=by kernel_rfl
def v3:VF:=⟨52,[.tmp 6],(ZR [u1 6 .mov [.cn (.bool false)]] (ZR [Zm 13 0,Zm 14 1,Zm 15 2,u1 16 (.call 7) [.tm 13,.tm 14,.tm 15],Zm 12 16,Ze 17 0 12,Ze 18 1 12,Zm 7 17,Zm 8 18] (ZR [Zm 20 0,Zm 21 1,Zm 22 2,u1 23 (.call 8) [.tm 20,.tm 21,.tm 22],Zm 19 23,Ze 24 0 19,Ze 25 1 19,Zm 9 24,Zm 10 25] (.seq (ZR [Zm 26 7,Zl 27 26,Zm 28 9,Zl 29 28,Zr 30 .neq 27 29,Zm 31 30,Zg 32 31 false 8,Zg 33 31 false 10,u2 34 31 false (.cmp .neq) [.tm 32,.tm 33],u1 35 .or [.tm 31,.tm 34]] (ZC 35 (ZR [u1 6 .mov [.cn (.bool false)]] .ret) .skip)) (.seq (ZR [Zi 11 0] (.block 0 (.loop (.seq (ZR [Zm 36 11,Zm 37 7,Zl 38 37,Zr 39 .lss 36 38] (ZC 39 .skip (.exit 0))) (.seq (.block 1 (.seq (.draw [] [Zu 42 7,Zu 43 11,ZX 44 1 42 43,Zv 45 1 44,Zu 46 9,Zu 47 11,ZX 48 1 46 47,Zv 49 1 48,w1 50 (.cmp .neq) [.tm 45,.tm 49]]) (ZC 50 (ZR [u1 6 .mov [.cn (.bool false)]] .ret) .skip))) (.region [Zm 40 11,Zp 41 40 1,Zm 11 41])))))) (ZR [u1 51 (.call 9) [],Zm 6 51] .ret))))))⟩
def TO0:Env:={ ct:=fun n=>match n with|15=>some usuC|17=>some nmdC|14=>some rteC|16=>some SenC|_=>none,fn:=fun _=>none,meth:=fun _ _=>none}
theorem Ysa:TO0.ct 15=some usuC:=rfl
theorem Ysc:TO0.ct 17=some nmdC:=rfl
theorem Yr9:TO0.ct 14=some rteC:=rfl
theorem Ysb:TO0.ct 16=some SenC:=rfl
theorem YyQ:Yo YCX TO0:=by
 refine⟨fun f c h=>?_,fun f vf h=>?_,(fun _ _ _ h=>by cases h),by kernel_rfl,(fun _ h=>by cases h)⟩
 . simp only[TO0]at h
   split at h
   . cases h;exact⟨Yw6,Tryz.f15,Tryz.func15,by kernel_rfl,by kernel_rfl⟩
   . cases h;exact⟨Yv6,Tryz.f17,Tryz.func17,by kernel_rfl,by kernel_rfl⟩
   . cases h;exact⟨YBk,Tryz.f14,Tryz.func14,by kernel_rfl,by kernel_rfl⟩
   . cases h;exact⟨Yym,Tryz.f16,Tryz.func16,by kernel_rfl,by kernel_rfl⟩
   . cases h
 . cases h
theorem nmE(m:Bool):(if m=true then MT else EQ).nm.size<=9223372036854775807:=by cases m <;> decide
theorem Yo0:trueC.ok YCX 9:=by
 refine Yb Tryz.func9 v9_is YyQ 600 trueC fun args k h=>?_
 simp only[trueC]at h
 split at h
 . refine⟨[],trivial,?_⟩
   have h:k (.bool true) []:=h
   dsimp only[v9,Ybm,lenT,Ysa,Ysc,Yr9,Ysb,usuC,nmdC,rteC,SenC,go_sem,reduceIte,YCS]
   simp only[Yd,YCS,YCU,reduceCtorEq,YCT]
   refine⟨false,rfl,EQ,⟨rfl,nmE false⟩,by decide,by decide,true,rfl,MT,⟨rfl,nmE true⟩,by decide,by decide,false,rfl,EQ,⟨rfl,nmE false⟩,?_⟩
   rw[exa_1,exa_2,exa_3]
   exact⟨by decide,by decide,Yw h⟩
 . exact h.1.elim
theorem Yk{l:List Sh}{c:List SV}(h:okSL (.int .i64::l) c):∃(x:Int) (r:List SV),c= .int .i64 x::r/\okSL l r:=by
 obtain⟨v,r,rfl,h1,h2⟩:=Ycq h
 obtain⟨a,rfl,_⟩:=Ygt h1
 exact⟨a,r,rfl,h2⟩
def v33:VF:=⟨9,[.tmp 2],(ZR [u1 2 .mov [.cn (.bool false)]] (ZR [Zm 3 0,Zq 4 .geq 3 (-20000),Zm 5 4,Zg 6 5 true 0,u2 7 5 true (.cmp .leq) [.tm 6,.cn (.int .i64 50000)],u1 8 .and [.tm 5,.tm 7],Zm 2 8] .ret))⟩
theorem YBQ:Yg YCX Tryz.f33=some v33:=by kernel_rfl
def v11:VF:=⟨23,[.tmp 2],(ZR [u1 1 .box [.tm 0],Zi 2 0] (.seq (ZR [Za 3 0 1,Zf 4 1 3,Zq 5 .lss 4 100000,Zm 6 5,Zj 7 6 false 0 1,Zh 8 6 false 1 7,u2 9 6 false (.cmp .gtr) [.tm 8,.cn (.int .i64 1000000)],u1 10 .or [.tm 6,.tm 9],Zm 11 10,Zj 12 11 false 1 1,Zh 13 11 false 1 12,u2 14 11 false (.call 33) [.tm 13],u2 15 11 false .not [.tm 14],u1 16 .or [.tm 11,.tm 15],Zm 17 16,Zj 18 17 false 2 1,Zh 19 17 false 1 18,u2 20 17 false (.call 33) [.tm 19],u2 21 17 false .not [.tm 20],u1 22 .or [.tm 17,.tm 21]] (ZC 22 (ZR [Zi 2 2] .ret) .skip)) (ZR [Zi 2 0] .ret)))⟩
theorem YBD:Yg YCX Tryz.f11=some v11:=by kernel_rfl
def v35:VF:=⟨12,[.tmp 4],(ZR [Zi 4 0] (.seq (.block 0 (.loop (.seq (ZR [Zm 5 1,Zq 6 .neq 5 0] (ZC 6 .skip (.exit 0))) (.block 1 (.draw [] [Zu 7 1,Zu 8 0,Zu 9 1,w1 10 .rem [.tm 8,.tm 9],Zu 0 7,Zu 1 10]))))) (ZR [Zm 11 0,Zm 4 11] .ret)))⟩
theorem YBS:Yg YCX Tryz.f35=some v35:=by kernel_rfl
def v12:VF:=⟨92,[.tmp 2],(ZR [u1 1 .box [.tm 0],Zi 2 0] (.seq (ZR [Za 8 2 1,Zf 9 1 8,Zq 10 .lss 9 0,Zm 11 10,Zj 12 11 false 2 1,Zh 13 11 false 1 12,u2 14 11 false (.cmp .gtr) [.tm 13,.cn (.int .i64 11)],u1 15 .or [.tm 11,.tm 14]] (ZC 15 (ZR [Zi 2 2] .ret) .skip)) (.seq (ZR [Zi 3 0] (.block 0 (.loop (.seq (ZR [Zm 16 3,Zq 17 .lss 16 12] (ZC 17 .skip (.exit 0))) (.seq (.block 1 (ZR [Zm 20 3,Za 21 3 1,u1 22 (.idxArr 12 2) [.tm 21,.tm 20],Zt 23 2 22,Zn 4,Zs 2 4 23] (ZR [Za 24 1 4,Zf 25 1 24,Zq 26 .lss 25 1,Zm 27 26,Zj 28 27 false 1 4,Zh 29 27 false 1 28,u2 30 27 false (.cmp .gtr) [.tm 29,.cn (.int .i64 24)],u1 31 .or [.tm 27,.tm 30],Zm 32 31,Zj 33 32 false 0 4,Zh 34 32 false 1 33,Zj 35 32 false 1 4,Zh 36 32 false 1 35,u2 37 32 false (.ari .mul) [.cn (.int .i64 (-2)),.tm 36],u2 38 32 false (.cmp .lss) [.tm 34,.tm 37],u1 39 .or [.tm 32,.tm 38],Zm 40 39,Zj 41 40 false 0 4,Zh 42 40 false 1 41,Zj 43 40 false 1 4,Zh 44 40 false 1 43,u2 45 40 false (.ari .mul) [.cn (.int .i64 2),.tm 44],u2 46 40 false (.cmp .gtr) [.tm 42,.tm 45],u1 47 .or [.tm 40,.tm 46]] (ZC 47 (ZR [Zi 2 2] .ret) .skip)))) (.region [Zm 18 3,Zp 19 18 1,Zm 3 19])))))) (.seq (ZR [Za 48 0 1,Zf 49 1 48,Zc 50 34 49,u1 51 .not [.tm 50],Zm 52 51,Zj 53 52 false 2 1,Zh 54 52 false 1 53,Zj 55 52 false 3 1,u2 56 52 false (.idxArr 12 2) [.tm 55,.tm 54],u2 57 52 false (.load true 2) [.tm 56],u2 58 52 false (.build [(.int .i64 0),(.int .i64 0)] [(0,1),(1,1)]) [.cn (.int .i64 0),.cn (.int .i64 1)],u2 59 52 false (.eqv true [true,true]) [.tm 57,.tm 58],u1 60 .or [.tm 52,.tm 59]] (ZC 60 (ZR [Zi 2 6] .ret) .skip)) (ZR [Zi 5 1] (.seq (ZR [Zi 6 0] (.block 2 (.loop (.seq (ZR [Zm 61 6,Zq 62 .lss 61 12] (ZC 62 .skip (.exit 2))) (.seq (.block 3 (ZR [Zm 65 6,Za 66 3 1,u1 67 (.idxArr 12 2) [.tm 66,.tm 65],Zt 68 2 67,Zn 7,Zs 2 7 68] (.seq (ZR [Za 69 0 7,Zf 70 1 69,Za 71 0 7,Zf 72 1 71,u1 73 .neg [.tm 72],u1 74 .max [.tm 70,.tm 73],Za 75 1 7,Zf 76 1 75,Zd 77 35 74 76,Zq 78 .neq 77 1] (ZC 78 (ZR [Zi 2 6] .ret) .skip)) (ZR [Zm 79 5,Zq 80 .leq 79 120] (ZC 80 (.draw [] [Zu 81 5,Zu 82 5,Zy 83 1 7,Zv 84 1 83,Zy 87 1 7,Zv 88 1 87,Zz 85 35 82 84,w1 86 .quo [.tm 81,.tm 85],w1 89 (.ari .mul) [.tm 86,.tm 88],Zu 5 89]) .skip))))) (.region [Zm 63 6,Zp 64 63 1,Zm 6 64])))))) (.seq (ZR [Zm 90 5,Zq 91 .gtr 90 120] (ZC 91 (ZR [Zi 2 7] .ret) .skip)) (ZR [Zi 2 0] .ret))))))))⟩
theorem YBE:Yg YCX Tryz.f12=some v12:=by kernel_rfl
def TT0:Env:={ ct:=fun _=>none,fn:=fun _=>none,meth:=fun _ _=>none}
theorem YtF:Yo YCX TT0:=by
 refine⟨fun f c h=>?_,fun f vf h=>?_,(fun _ _ _ h=>by cases h),by kernel_rfl,(fun _ h=>by cases h)⟩
 . cases h
 . cases h
theorem YBz:valdC.ok YCX 33:=by
 refine Yb Tryz.func33 YBQ YtF 300 valdC fun args k h=>?_
 simp only[valdC]at h
 split at h
 . rename_i t
   refine⟨[.int .i64 t],by simp [leL,le],?_⟩
   dsimp only[v33,go_sem,reduceIte,YCS]
   simp only[Yd,YCS,YCU,reduceCtorEq,YCT]
   exact Yw h
 . exact h.1.elim
def TT1:Env:={ ct:=fun n=>match n with|33=>some valdC|_=>none,fn:=fun _=>none,meth:=fun _ _=>none}
theorem Ysg:TT1.ct 33=some valdC:=rfl
theorem YyV:Yo YCX TT1:=by
 refine⟨fun f c h=>?_,fun f vf h=>?_,(fun _ _ _ h=>by cases h),by kernel_rfl,(fun _ h=>by cases h)⟩
 . simp only[TT1]at h
   split at h
   . cases h;exact⟨YBz,Tryz.f33,Tryz.func33,by kernel_rfl,by kernel_rfl⟩
   . cases h
 . cases h
theorem Yzl:chkSC.ok YCX 11:=by
 refine Yb Tryz.func11 YBD YyV 300 chkSC fun args k h=>?_
 simp only[chkSC]at h
 split at h
 . rename_i a t0 t
   refine⟨[.agg [.int .i64 a,.int .i64 t0,.int .i64 t]],by simp [leL,le],?_⟩
   dsimp only[v11,Ysg,valdC,go_sem,reduceIte,YCS]
   simp only[Yd,YCS,YCU,reduceCtorEq,YCT]
   have h:k (.int .i64 (chkS a t0 t)) []:=h
   refine⟨fun hc=>?_,fun hc=>?_⟩
   . rw[chkS,if_pos (by simpa [or_assoc]using hc)]at h;exact Yj h
   . rw[chkS,if_neg (by simpa [or_assoc,and_assoc]using hc)]at h;exact Yj h
 . exact h.1.elim
theorem YzB:tgcdC.ok YCX 35:=by
 refine Yb Tryz.func35 YBS YtF 100 tgcdC fun args k h=>?_
 simp only[tgcdC]at h
 split at h
 . rename_i a b
   obtain⟨x,y,⟨rfl,rfl,hx,hy⟩,h⟩:=h
   refine⟨[.int .i64 x,.int .i64 y],by simp [leL,le],?_⟩
   dsimp only[v35,go_sem,reduceIte,YCS]
   simp only[Yd,YCS,YCU,reduceCtorEq,YCT]
   refine Loop.keep [4] (Nat×Nat) (fun s=>[(0,.int .i64 s.1),(1,.int .i64 s.2)]) (fun _=>[]) [] (fun s=>YDw s.1 s.2=YDw x y/\s.1<=9223372036854775807/\s.2<=9223372036854775807) (fun s=>s.2) ?_ ?_
   . refine⟨(x,y),⟨rfl,hx,hy⟩,?_⟩
     dsimp only[go_sem,reduceIte,YCS]
     simp only[Ya]
   . rintro⟨p,q⟩ ⟨he,hp,hq⟩
     dsimp only at he hp hq
     dsimp only[go_sem,reduceIte,YCS]
     simp only[Yd,YCS,YCU,reduceCtorEq,YCT]
     refine⟨fun hc=>⟨hc,(q,p%q),⟨?_,by simp only;omega,?_⟩,?_,?_⟩,fun hc=>Yj ?_⟩
     . rw[<-he,Nat.gcd_comm p q]
       show YDw q (p%q)=YDw q p
       rw[Nat.gcd_comm q (p%q),<-Nat.gcd_rec]
     . have:=YDs p (by omega:0<q)
       simp only;omega
     . exact YDs p (by omega:0<q)
     . have e:(p:Int).tmod q=((p%q:Nat):Int):=IntWalk.up_tmod rfl rfl
       rw[e]
       simp only[Ya]
     . obtain rfl:q=0:=by omega
       rw[Nat.gcd_zero_right]at he
       rw[he];exact h
 . exact h.1.elim
theorem Yu9{T:Tm}(h:Ybs T=0):(0<=T.wolf/\T.wolf<=11)/\(∀j,j<12->badT (T.p j)=false)/\Yer T.nm=true/\(∀j,j<12->gcdT (T.p j)=1)/\(T.p T.wolf.toNat).1=0/\allT T 12<=120:=by
 unfold Ybs at h
 split at h
 . exact absurd h (by decide)
 rename_i h1
 split at h
 . exact absurd h (by decide)
 rename_i h2
 split at h
 . exact absurd h (by decide)
 rename_i h3
 split at h
 . exact absurd h (by decide)
 rename_i h4
 have h5:Yer T.nm=true/\lowT T 12=true/\(T.p T.wolf.toNat).1=0:=by
   refine⟨?_,?_,?_⟩
   . cases hn:Yer T.nm
     . exact absurd (.inl hn) h3
     . rfl
   . cases hn:lowT T 12
     . exact absurd (.inr (.inl hn)) h3
     . rfl
   . exact Classical.byContradiction fun hn=>h3 (.inr (.inr hn))
 refine⟨by omega,fun j hj=>?_,h5.1,fun j hj=>?_,h5.2.2,by omega⟩
 . cases hb:badT (T.p j)
   . rfl
   . exact absurd (Yo1 hj hb) h2
 . have:=List.all_eq_true.1 h5.2.1 j (List.mem_range.2 hj)
   exact of_decide_eq_true this
theorem Ygb(T:Tm){i:Nat}(h:i<12):Yt 2 (Yl (3+idxN (i:Int) 2) (encT T))=[.int .i64 (T.p i).1,.int .i64 (T.p i).2]:=by
 rcases Yfl h with rfl|rfl|rfl|rfl|rfl|rfl|rfl|rfl|rfl|rfl|rfl|rfl <;> rfl
theorem Ygc(T:Tm){i:Nat}(h:i<12):2<=lenL (Yl (3+idxN (i:Int) 2) (encT T)):=by
 rcases Yfl h with rfl|rfl|rfl|rfl|rfl|rfl|rfl|rfl|rfl|rfl|rfl|rfl <;> exact Nat.le_of_ble_eq_true rfl
def chk5C:Ctr:={ alias:=false,of:=fun l=>match l with
 | [.agg cs]=> .ex Tm fun T=> .pre (cs=encT T/\T.nm.size<=9223372036854775807/\Ybs T=0) (.fin (.int .i64 0) [])
 |_=>noC}
def TT2:Env:={ ct:=fun n=>match n with|35=>some tgcdC|34=>some nameC|_=>none,fn:=fun _=>none,meth:=fun _ _=>none}
theorem Yda:TT2.ct 35=some tgcdC:=rfl
theorem Yc9:TT2.ct 34=some nameC:=rfl
theorem YyW:Yo YCX TT2:=by
 refine⟨fun f c h=>?_,fun f vf h=>?_,(fun _ _ _ h=>by cases h),by kernel_rfl,(fun _ h=>by cases h)⟩
 . simp only[TT2]at h
   split at h
   . cases h;exact⟨YzB,Tryz.f35,Tryz.func35,by kernel_rfl,by kernel_rfl⟩
   . cases h;exact⟨Yti,Tryz.f34,Tryz.func34,by kernel_rfl,by kernel_rfl⟩
   . cases h
 . cases h
theorem Yzk:chk5C.ok YCX 12:=by
 refine Yb Tryz.func12 YBE YyW 300 chk5C fun args k h=>?_
 simp only[chk5C]at h
 split at h
 . rename_i cs
   obtain⟨T,⟨rfl,hnm,hT⟩,h⟩:=h
   obtain⟨hw,hbad,hname,hgcd,hwolf,hall⟩:=Yu9 hT
   refine⟨[.agg (encT T)],⟨Yc _ (Yu T _),trivial⟩,?_⟩
   have h:k (.int .i64 0) []:=h
   dsimp only[v12,encT,encP,Yda,Yc9,tgcdC,nameC,go_sem,reduceIte,YCS]
   simp only[Yd,YCS,YCU,reduceCtorEq,YCT]
   refine⟨rfl,fun hb=>?_,fun hb=>?_⟩
   . simp only[YDm,decide_eq_true_eq]at hb;omega
   refine Loop.keep [1] Nat (fun i=>[(3,.int .i64 i)]) (fun _=>[]) [] (fun i=>i<=12) (fun i=>12-i) ?_ ?_
   . refine⟨0,by omega,?_⟩
     dsimp only[go_sem,reduceIte,YCS]
     simp only[Ya]
     exact⟨by decide,rfl⟩
   . rintro i hi
     replace hi:i<=12:=hi
     dsimp only[Yda,Yc9,tgcdC,nameC,YCY,go_sem,reduceIte,YCS]
     simp only[Yd,YCS,YCU,reduceCtorEq,YCT]
     refine⟨fun hlt=>?_,fun hge=>?_⟩
     . have hi12:i<12:=by omega
       have e:=Ygb T hi12
       have el:=Ygc T hi12
       simp only[encT,encP]at e el
       rw[e]
       dsimp only[Yda,Yc9,tgcdC,nameC,YCY,go_sem,reduceIte,YCS]
       simp only[Yd,YCS,YCU,reduceCtorEq,YCT]
       simp only[YtJ (T.p i)]
       refine⟨⟨by omega,by omega⟩,el,fun hb=>?_,fun hb=>⟨i+1,by omega,by omega,?_⟩⟩
       . rw[hbad i hi12]at hb;exact absurd hb (by decide)
       . rw[YCW ((i:Int)+1) (by omega)]
         simp only[Ya]
         exact⟨by decide,rfl⟩
     . obtain rfl:i=12:=by omega
       obtain⟨w,hwe⟩:∃w:Nat,T.wolf=(w:Int):=⟨T.wolf.toNat,by omega⟩
       have hw12:w<12:=by omega
       have e:=Ygb T hw12
       have el:=Ygc T hw12
       simp only[encT,encP,hwe]at e el
       rw[hwe,YCY]at hwolf
       have hden:(T.p w).2=1:=by
         have h1:=hgcd w hw12
         unfold gcdT at h1
         rw[hwolf]at h1
         have h2:=Yml (hbad w hw12)
         simp at h1
         omega
       simp only[Nat.add_zero,hwe]
       rw[e]
       dsimp only[Yda,Yc9,tgcdC,nameC,YCY,go_sem,reduceIte,YCS]
       simp only[Yd,YCS,YCU,reduceCtorEq,YCT]
       rw[hname,hwolf,hden]
       refine⟨hnm,fun _=>⟨by omega,by omega⟩,fun _=>el,fun hc=>absurd hc (by decide),fun _=>?_⟩
       refine Loop.keep [1] Nat (fun i=>[(5,.int .i64 (allT T i:Nat)),(6,.int .i64 i)]) (fun _=>[]) [] (fun i=>i<=12) (fun i=>12-i) ?_ ?_
       . refine⟨0,by omega,?_⟩
         dsimp only[go_sem,reduceIte,YCS]
         simp only[Ya]
         exact⟨by decide,rfl,rfl⟩
       . rintro i hi
         replace hi:i<=12:=hi
         dsimp only[Yda,Yc9,tgcdC,nameC,YCY,go_sem,reduceIte,YCS]
         simp only[Yd,YCS,YCU,reduceCtorEq,YCT]
         refine⟨fun hlt=>?_,fun hge=>?_⟩
         . have hi12:i<12:=by omega
           have e:=Ygb T hi12
           have el:=Ygc T hi12
           simp only[encT,encP,hwe]at e el
           rw[e]
           dsimp only[Yda,Yc9,tgcdC,nameC,YCY,go_sem,reduceIte,YCS]
           simp only[Yd,YCS,YCU,reduceCtorEq,YCT]
           have hb:=hbad i hi12
           obtain⟨⟨x1,x2⟩,x3,x4⟩:=Yml hb
           have hsn:(T.p i).2=((T.p i).2.toNat:Int):=by omega
           have hg1:=hgcd i hi12
           unfold gcdT at hg1
           obtain⟨r1,r2⟩:=Yea (T:=T) (i:=i) fun j hj=>hbad j (by omega)
           refine⟨⟨by omega,by omega⟩,el,(T.p i).1.natAbs,(T.p i).2.toNat,⟨YeT _ (by omega),hsn,by omega,by omega⟩,?_⟩
           rw[hg1]
           refine⟨fun hc=>absurd rfl hc,fun _=>⟨fun hle=>⟨allT T i,(T.p i).2.toNat,⟨rfl,hsn,by omega,by omega⟩,?_,i+1,by omega,by omega,?_⟩,fun hgt=>⟨i+1,by omega,by omega,?_⟩⟩⟩
           . have:=Nat.gcd_pos_of_pos_left (T.p i).2.toNat (by omega:0<allT T i)
             omega
           . have r3:=Yea (T:=T) (i:=i+1) fun j hj=>hbad j (by omega)
             have ha:allT T (i+1)=allT T i/YDw (allT T i) (T.p i).2.toNat*(T.p i).2.toNat:=by rw[allT,if_pos (by omega)]
             have e1:((allT T i:Nat):Int).tdiv ((YDw (allT T i) (T.p i).2.toNat:Nat):Int)=((allT T i/YDw (allT T i) (T.p i).2.toNat:Nat):Int):=IntWalk.up_tdiv rfl rfl
             have hd:=Nat.div_le_self (allT T i) (YDw (allT T i) (T.p i).2.toNat)
             have e2:IntKind.i64.wrap ((allT T i/YDw (allT T i) (T.p i).2.toNat:Nat):Int)=((allT T i/YDw (allT T i) (T.p i).2.toNat:Nat):Int):=by
               generalize allT T i/YDw (allT T i) (T.p i).2.toNat=q at hd
               exact YCW _ (by omega)
             have e3:((allT T i/YDw (allT T i) (T.p i).2.toNat:Nat):Int)*(T.p i).2=(allT T (i+1):Nat):=by rw[ha,Int.natCast_mul,<-hsn]
             rw[e1,e2,e3,YCW (allT T (i+1):Int) (by omega),YCW ((i:Int)+1) (by omega)]
             simp only[Ya]
             exact⟨by decide,rfl⟩
           . have ha:allT T (i+1)=allT T i:=by rw[allT,if_neg (by omega)]
             rw[ha,YCW ((i:Int)+1) (by omega)]
             simp only[Ya]
             exact⟨by decide,rfl⟩
         . obtain rfl:i=12:=by omega
           refine⟨fun hc=>?_,fun hc=>Yj h⟩
           omega
 . exact h.1.elim
def v64:VF:=⟨19,[.tmp 2,.tmp 3],(ZR [Zi 2 0,Zi 3 0] (.seq (ZR [Zm 4 0] (.block 0 (ZR [Zq 6 .eql 4 3,Zm 5 6] (ZC 5 (ZR [Zi 2 6,Zi 3 5] .ret) (ZR [Zq 8 .eql 4 4,Zm 7 8] (ZC 7 (ZR [Zi 2 5,Zi 3 4] .ret) (ZR [Zq 10 .eql 4 5,Zm 9 10] (ZC 9 (ZR [Zi 2 4,Zi 3 3] .ret) (ZR [Zq 12 .eql 4 7,Zm 11 12] (ZC 11 (ZR [Zi 2 3,Zi 3 2] .ret) (ZR [Zq 14 .eql 4 8,Zm 13 14] (ZC 13 (ZR [Zi 2 8,Zi 3 5] .ret) (ZR [Zq 16 .eql 4 9,Zm 15 16] (ZC 15 (ZR [Zi 2 5,Zi 3 3] .ret) (ZR [Zq 18 .eql 4 12,Zm 17 18] (ZC 17 (ZR [Zi 2 2,Zi 3 1] .ret) .skip)))))))))))))))) (ZR [Zi 2 0,Zi 3 0] .ret)))⟩
theorem YCd:Yg YCX Tryz.f64=some v64:=by kernel_rfl
def v13:VF:=⟨19,[.tmp 2,.tmp 3],(ZR [Zi 2 0,Zi 3 0] (.seq (ZR [Zm 4 0] (.block 0 (ZR [Zq 6 .eql 4 3,Zm 5 6] (ZC 5 (ZR [Zi 2 6,Zi 3 5] .ret) (ZR [Zq 8 .eql 4 4,Zm 7 8] (ZC 7 (ZR [Zi 2 5,Zi 3 4] .ret) (ZR [Zq 10 .eql 4 5,Zm 9 10] (ZC 9 (ZR [Zi 2 4,Zi 3 3] .ret) (ZR [Zq 12 .eql 4 7,Zm 11 12] (ZC 11 (ZR [Zi 2 3,Zi 3 2] .ret) (ZR [Zq 14 .eql 4 8,Zm 13 14] (ZC 13 (ZR [Zi 2 8,Zi 3 5] .ret) (ZR [Zq 16 .eql 4 9,Zm 15 16] (ZC 15 (ZR [Zi 2 5,Zi 3 3] .ret) (ZR [Zq 18 .eql 4 12,Zm 17 18] (ZC 17 (ZR [Zi 2 2,Zi 3 1] .ret) .skip)))))))))))))))) (ZR [Zi 2 0,Zi 3 0] .ret)))⟩
theorem YBF:Yg YCX Tryz.f13=some v13:=by kernel_rfl
def v67:VF:=⟨20,[.tmp 4],(ZR [Zi 4 0] (ZR [Zm 7 0,Zc 8 92 7,Zm 5 8] (ZR [Zm 9 1,Zc 10 92 9,Zm 6 10] (.seq (ZR [Zm 11 5] (ZC 11 (.seq (ZR [Zm 12 6] (ZC 12 (ZR [Zi 4 0] .ret) .skip)) (ZR [Zi 4 (-1)] .ret)) .skip)) (.seq (ZR [Zm 13 6] (ZC 13 (ZR [Zi 4 1] .ret) .skip)) (.seq (ZR [Zm 14 0,Zm 15 1,Zr 16 .lss 14 15] (ZC 16 (ZR [Zi 4 (-1)] .ret) .skip)) (.seq (ZR [Zm 17 0,Zm 18 1,Zr 19 .gtr 17 18] (ZC 19 (ZR [Zi 4 1] .ret) .skip)) (ZR [Zi 4 0] .ret))))))))⟩
theorem YCg:Yg YCX Tryz.f67=some v67:=by kernel_rfl
def v68:VF:=⟨20,[.tmp 4],(ZR [Zi 4 0] (ZR [Zm 7 0,Zc 8 93 7,Zm 5 8] (ZR [Zm 9 1,Zc 10 93 9,Zm 6 10] (.seq (ZR [Zm 11 5] (ZC 11 (.seq (ZR [Zm 12 6] (ZC 12 (ZR [Zi 4 0] .ret) .skip)) (ZR [Zi 4 (-1)] .ret)) .skip)) (.seq (ZR [Zm 13 6] (ZC 13 (ZR [Zi 4 1] .ret) .skip)) (.seq (ZR [Zm 14 0,Zm 15 1,Zr 16 .lss 14 15] (ZC 16 (ZR [Zi 4 (-1)] .ret) .skip)) (.seq (ZR [Zm 17 0,Zm 18 1,Zr 19 .gtr 17 18] (ZC 19 (ZR [Zi 4 1] .ret) .skip)) (ZR [Zi 4 0] .ret))))))))⟩
theorem YCh:Yg YCX Tryz.f68=some v68:=by kernel_rfl
def v92:VF:=⟨6,[.tmp 2],(ZR [u1 2 .mov [.cn (.bool false)]] (ZR [Zm 3 0,Zm 4 0,Zr 5 .neq 3 4,Zm 2 5] .ret))⟩
theorem YCD:Yg YCX Tryz.f92=some v92:=by kernel_rfl
def v93:VF:=⟨6,[.tmp 2],(ZR [u1 2 .mov [.cn (.bool false)]] (ZR [Zm 3 0,Zm 4 0,Zr 5 .neq 3 4,Zm 2 5] .ret))⟩
theorem YCE:Yg YCX Tryz.f93=some v93:=by kernel_rfl
def v66:VF:=⟨18,[.tmp 2],(ZR [Zi 2 0] (ZR [Zi 3 0] (.seq (ZR [Zm 6 0,Zl 7 6,Zi 8 0] (.block 0 (.loop (ZR [Zr 9 .lss 8 7] (.seq (ZC 9 .skip (.exit 0)) (.seq (.block 1 (ZR [Zx 10 1 6 8,Zf 11 1 10,Zm 5 11] (ZR [Zm 12 5,Zm 13 3,Zr 14 .neq 12 13] (ZC 14 (ZR [Zm 15 5,Zm 2 15] .ret) .skip)))) (.region [Zp 16 8 1,Zm 8 16]))))))) (ZR [Zm 17 3,Zm 2 17] .ret))))⟩
theorem YCf:Yg YCX Tryz.f66=some v66:=by kernel_rfl
def v32:VF:=⟨24,[.tmp 4],(ZR [u1 2 .box [.tm 0],u1 3 .box [.tm 1],Zi 4 0] (.seq (.draw [] [Zy 5 5 2,Zy 6 1 5,Zv 7 1 6,Zy 8 5 3,Zy 9 1 8,Zv 10 1 9,Zy 12 0 2,Zv 13 1 12,Zy 14 0 3,Zv 15 1 14,Zy 17 1 2,Zv 18 1 17,Zy 19 1 3,Zv 20 1 19,Zz 11 67 7 10,Zz 16 68 13 15,Zz 21 68 18 20,w1 22 (.buildSlice 1 3 [(.int .i64 0)] [(0,1),(1,1),(2,1)]) [.tm 11,.tm 16,.tm 21],w1 23 (.call 66) [.tm 22],Zu 4 23]) .ret))⟩
theorem YBP:Yg YCX Tryz.f32=some v32:=by kernel_rfl
def v31:VF:=⟨65,[.cell 6 true 7,.tmp 7],(ZR [u1 6 (.alloc [(.int .i64 0),(.int .i64 0),(.int .i64 0),(.int .i64 0),(.int .i64 0),(.int .i64 0),(.int .i64 0)]) [],u1 7 .mov [.cn (.bool false)]] (ZR [Zm 13 1,Zm 14 2,u1 15 .min [.tm 13,.tm 14],Zm 16 1,Zm 17 2,u1 18 .max [.tm 16,.tm 17],Zm 8 15,Zm 9 18] (ZR [Zm 20 9,Zm 21 8,Zo 22 .sub 20 21,Zc 23 64 22,Zm 19 23,Ze 24 0 19,Ze 25 1 19,Zm 10 24,Zm 11 25] (.seq (ZR [Zm 26 10,Zq 27 .eql 26 0] (ZC 27 (ZR [u1 28 (.build [(.int .i64 0),(.int .i64 0),(.int .i64 0),(.int .i64 0),(.int .i64 0),(.int .i64 0),(.int .i64 0)] []) [],Zs 7 6 28,u1 7 .mov [.cn (.bool false)]] .ret) .skip)) (ZR [Zm 29 1,Zm 30 2,Zm 31 10,Zm 32 11,Zm 33 0,u1 34 .nilCheck [.tm 33],Za 35 0 34,Zf 36 1 35,Zm 37 8,Zm 38 9,Zm 39 10,Zm 40 11,u1 41 (.call 39) [.tm 36,.tm 37,.tm 38,.tm 39,.tm 40],u1 42 (.build [(.int .i64 0),(.int .i64 0),(.int .i64 0),(.int .i64 0),(.int .i64 0),(.int .i64 0),(.int .i64 0)] [(0,1),(1,1),(2,1),(3,1),(4,1)]) [.tm 29,.tm 30,.tm 31,.tm 32,.tm 41],u1 12 (.alloc [(.int .i64 0),(.int .i64 0),(.int .i64 0),(.int .i64 0),(.int .i64 0),(.int .i64 0),(.int .i64 0)]) [],Zs 7 12 42] (.seq (ZR [Za 43 4 12,Zf 44 1 43,Zq 45 .neq 44 0] (ZC 45 (.draw [] [Zu 46 0,Zu 47 8,w1 48 .nilCheck [.tm 46],Zy 49 1 48,w1 50 (.idxArr 140 2) [.tm 49,.tm 47],Zw 51 2 50,Zu 52 10,Zu 54 0,Zu 55 9,w1 56 .nilCheck [.tm 54],Zy 57 1 56,w1 58 (.idxArr 140 2) [.tm 57,.tm 55],Zw 59 2 58,Zu 60 11,Zz 53 65 51 52,Zz 61 65 59 60,Zz 62 37 53 61,Zy 63 5 12,ZS 2 63 62]) .skip)) (ZR [Zt 64 7 12,Zs 7 6 64,u1 7 .mov [.cn (.bool true)]] .ret)))))))⟩
theorem YBO:Yg YCX Tryz.f31=some v31:=by kernel_rfl
def byF(d:Int):Int×Int:=
 if d=3 then(6,5)else if d=4 then(5,4)else if d=5 then(4,3)else if d=7 then(3,2)else if d=8 then(8,5)else if d=9 then(5,3)else if d=12 then(2,1)else(0,0)
def byC:Ctr:={ alias:=false,of:=fun l=>match l with
 | [.int .i64 d]=> .fin (.tup [.int .i64 (byF d).1,.int .i64 (byF d).2]) []
 |_=>noC}
def TP0:Env:={ ct:=fun _=>none,fn:=fun _=>none,meth:=fun _ _=>none}
theorem YtD:Yo YCX TP0:=by
 refine⟨fun f c h=>?_,fun f vf h=>?_,(fun _ _ _ h=>by cases h),by kernel_rfl,(fun _ h=>by cases h)⟩
 . cases h
 . cases h
theorem by_c:byC.ok YCX 64:=by
 refine Yb Tryz.func64 YCd YtD 600 byC fun args k h=>?_
 simp only[byC]at h
 split at h
 . rename_i d
   refine⟨[.int .i64 d],by simp [leL,le],?_⟩
   have h:k (.tup [.int .i64 (byF d).1,.int .i64 (byF d).2]) []:=h
   dsimp only[v64,v13,go_sem,reduceIte,YCS]
   simp only[Yd,YCS,YCU,reduceCtorEq,YCT]
   unfold byF at h
   refine⟨fun c=>?_,fun c3=>⟨fun c=>?_,fun c4=>⟨fun c=>?_,fun c5=>⟨fun c=>?_,fun c7=>⟨fun c=>?_,fun c8=>⟨fun c=>?_,fun c9=>⟨fun c=>?_,fun c12=>?_⟩⟩⟩⟩⟩⟩⟩
   . rw[if_pos c]at h;exact YR h
   . rw[if_neg c3,if_pos c]at h;exact YR h
   . rw[if_neg c3,if_neg c4,if_pos c]at h;exact YR h
   . rw[if_neg c3,if_neg c4,if_neg c5,if_pos c]at h;exact YR h
   . rw[if_neg c3,if_neg c4,if_neg c5,if_neg c7,if_pos c]at h;exact YR h
   . rw[if_neg c3,if_neg c4,if_neg c5,if_neg c7,if_neg c8,if_pos c]at h;exact YR h
   . rw[if_neg c3,if_neg c4,if_neg c5,if_neg c7,if_neg c8,if_neg c9,if_pos c]at h;exact YR h
   . rw[if_neg c3,if_neg c4,if_neg c5,if_neg c7,if_neg c8,if_neg c9,if_neg c12]at h;exact YR h
 . exact h.1.elim
theorem rby_c:byC.ok YCX 13:=by
 refine Yb Tryz.func13 YBF YtD 600 byC fun args k h=>?_
 simp only[byC]at h
 split at h
 . rename_i d
   refine⟨[.int .i64 d],by simp [leL,le],?_⟩
   have h:k (.tup [.int .i64 (byF d).1,.int .i64 (byF d).2]) []:=h
   dsimp only[v64,v13,go_sem,reduceIte,YCS]
   simp only[Yd,YCS,YCU,reduceCtorEq,YCT]
   unfold byF at h
   refine⟨fun c=>?_,fun c3=>⟨fun c=>?_,fun c4=>⟨fun c=>?_,fun c5=>⟨fun c=>?_,fun c7=>⟨fun c=>?_,fun c8=>⟨fun c=>?_,fun c9=>⟨fun c=>?_,fun c12=>?_⟩⟩⟩⟩⟩⟩⟩
   . rw[if_pos c]at h;exact YR h
   . rw[if_neg c3,if_pos c]at h;exact YR h
   . rw[if_neg c3,if_neg c4,if_pos c]at h;exact YR h
   . rw[if_neg c3,if_neg c4,if_neg c5,if_pos c]at h;exact YR h
   . rw[if_neg c3,if_neg c4,if_neg c5,if_neg c7,if_pos c]at h;exact YR h
   . rw[if_neg c3,if_neg c4,if_neg c5,if_neg c7,if_neg c8,if_pos c]at h;exact YR h
   . rw[if_neg c3,if_neg c4,if_neg c5,if_neg c7,if_neg c8,if_neg c9,if_pos c]at h;exact YR h
   . rw[if_neg c3,if_neg c4,if_neg c5,if_neg c7,if_neg c8,if_neg c9,if_neg c12]at h;exact YR h
 . exact h.1.elim
theorem Ymr{d:Int}(h:(byF d).1≠0):3<=d/\d<=12/\0<(byF d).1/\(byF d).1<=16/\0<(byF d).2/\(byF d).2<=16:=by
 unfold byF at h⊢
 split at h
 . rename_i c;rw[if_pos c];subst c;decide
 split at h
 . rename_i c3 c;rw[if_neg c3,if_pos c];subst c;decide
 split at h
 . rename_i c3 c4 c;rw[if_neg c3,if_neg c4,if_pos c];subst c;decide
 split at h
 . rename_i c3 c4 c5 c;rw[if_neg c3,if_neg c4,if_neg c5,if_pos c];subst c;decide
 split at h
 . rename_i c3 c4 c5 c7 c;rw[if_neg c3,if_neg c4,if_neg c5,if_neg c7,if_pos c];subst c;decide
 split at h
 . rename_i c3 c4 c5 c7 c8 c;rw[if_neg c3,if_neg c4,if_neg c5,if_neg c7,if_neg c8,if_pos c];subst c;decide
 split at h
 . rename_i c3 c4 c5 c7 c8 c9 c;rw[if_neg c3,if_neg c4,if_neg c5,if_neg c7,if_neg c8,if_neg c9,if_pos c];subst c;decide
 . exact absurd rfl h
def cmpC':Ctr:={ alias:=false,of:=fun l=>match l with
 | [.int .i64 x,.int .i64 y]=> .fin (.int .i64 (cmpI x y)) []
 |_=> .pre False (.fin (.int .i64 0) [])}
def TP1:Env:={ ct:=fun _=>none,fn:=fun n=>match n with|92=>some v92|93=>some v93|_=>none,meth:=fun _ _=>none}
theorem Ymc:TP1.ct 92=none:=rfl
theorem Yme:TP1.fn 92=some v92:=rfl
theorem Ymd:TP1.ct 93=none:=rfl
theorem Ymf:TP1.fn 93=some v93:=rfl
theorem YtE:Yo YCX TP1:=by
 refine⟨fun f c h=>?_,fun f vf h=>?_,(fun _ _ _ h=>by cases h),by kernel_rfl,(fun _ h=>by cases h)⟩
 . cases h
 . simp only[TP1]at h
   split at h
   . cases h;exact⟨Tryz.f92,Tryz.func92,YCD,Tryz.f92,Tryz.func92,by kernel_rfl,by kernel_rfl⟩
   . cases h;exact⟨Tryz.f93,Tryz.func93,YCE,Tryz.f93,Tryz.func93,by kernel_rfl,by kernel_rfl⟩
   . cases h
theorem Yva:cmpC'.ok YCX 67:=by
 refine Yb Tryz.func67 YCg YtE 600 cmpC' fun args k h=>?_
 simp only[cmpC']at h
 split at h
 . rename_i x y
   refine⟨[.int .i64 x,.int .i64 y],by simp [leL,le],?_⟩
   have h:k (.int .i64 (cmpI x y)) []:=h
   dsimp only[v67,v68,Ymc,Yme,v92,Ymd,Ymf,v93,go_sem,reduceIte,YCS]
   simp only[Yd,YCS,YCU,reduceCtorEq,YCT]
   unfold cmpI at h
   refine⟨fun hh=>absurd trivial hh,fun hh=>absurd trivial hh,fun c=>?_,fun c=>⟨fun d=>?_,fun d=>?_⟩⟩
   . rw[if_pos c]at h;exact Yj h
   . rw[if_neg c,if_pos d]at h;exact Yj h
   . rw[if_neg c,if_neg d]at h;exact Yj h
 . exact h.1.elim
theorem Yzo:cmpC'.ok YCX 68:=by
 refine Yb Tryz.func68 YCh YtE 600 cmpC' fun args k h=>?_
 simp only[cmpC']at h
 split at h
 . rename_i x y
   refine⟨[.int .i64 x,.int .i64 y],by simp [leL,le],?_⟩
   have h:k (.int .i64 (cmpI x y)) []:=h
   dsimp only[v67,v68,Ymc,Yme,v92,Ymd,Ymf,v93,go_sem,reduceIte,YCS]
   simp only[Yd,YCS,YCU,reduceCtorEq,YCT]
   unfold cmpI at h
   refine⟨fun hh=>absurd trivial hh,fun hh=>absurd trivial hh,fun c=>?_,fun c=>⟨fun d=>?_,fun d=>?_⟩⟩
   . rw[if_pos c]at h;exact Yj h
   . rw[if_neg c,if_pos d]at h;exact Yj h
   . rw[if_neg c,if_neg d]at h;exact Yj h
 . exact h.1.elim
def TP2:Env:={ ct:=fun _=>none,fn:=fun _=>none,meth:=fun _ _=>none}
theorem YyR:Yo YCX TP2:=by
 refine⟨fun f c h=>?_,fun f vf h=>?_,(fun _ _ _ h=>by cases h),by kernel_rfl,(fun _ h=>by cases h)⟩
 . cases h
 . cases h
theorem ori_c:orC.ok YCX 66:=by
 refine Yb Tryz.func66 YCf YyR 300 orC fun args k h=>?_
 simp only[orC]at h
 split at h
 . rename_i tt z n sz get
   obtain⟨l,⟨⟨rfl,rfl,hg⟩,hn⟩,h⟩:=h
   refine⟨[.vs tt z l.length 1 (fun k=>enc1 (l.getD k default))],⟨⟨id,rfl,rfl,rfl,hg⟩,trivial⟩,?_⟩
   have h:k (.int .i64 (orF l)) []:=h
   dsimp only[v66,enc1,go_sem,reduceIte,YCS]
   simp only[Yd,YCS,YCU,reduceCtorEq,YCT]
   refine Loop.keep [3,2,0] Nat (fun i=>[(8,.int .i64 i)]) (fun _=>[]) [] (fun i=>i<=l.length/\∀j,j<i->l.getD j 0=0) (fun i=>l.length-i) ?_ ?_
   . refine⟨0,⟨by omega,fun j hj=>by omega⟩,?_⟩
     dsimp only[go_sem,reduceIte,YCS]
     simp only[Ya]
     rfl
   . rintro i ⟨hi,hall⟩
     dsimp only[enc1,YCY,go_sem,reduceIte,YCS]
     simp only[Yd,YCS,YCU,reduceCtorEq,YCT]
     refine⟨fun hlt=>⟨⟨by omega,by omega⟩,fun hc=>?_,fun hc=>⟨i+1,⟨by omega,fun j hj=>?_⟩,by omega,?_⟩⟩,fun hge=>?_⟩
     . rw[Yuf (by omega) hall hc]at h;exact Yj h
     . rcases YC4 j i with h1|h1
       . exact hall j h1
       . obtain rfl:j=i:=by omega
         exact hc
     . rw[YCW ((i:Int)+1) (by omega)]
       simp only[Ya]
       simp
     . obtain rfl:i=l.length:=by omega
       rw[Ym2 hall]at h;exact Yj h
 . exact h.1.elim
def befF(a b:Stp):Int:=orF [cmpI a.hi b.hi,cmpI a.kn b.kn,cmpI a.nw b.nw]
def befC:Ctr:={ alias:=false,of:=fun l=>match l with
 | [.agg [.int .i64 a,.int .i64 b,.int .i64 c,.int .i64 d,.int .i64 e,.int .i64 f,.int .i64 g],.agg [.int .i64 a',.int .i64 b',.int .i64 c',.int .i64 d',.int .i64 e',.int .i64 f',.int .i64 g']]=> .fin (.int .i64 (befF ⟨a,b,c,d,e,f,g⟩ ⟨a',b',c',d',e',f',g'⟩)) []
 |_=> .pre False (.fin (.int .i64 0) [])}
def TP3:Env:={ ct:=fun n=>match n with|67=>some cmpC'|68=>some cmpC'|66=>some orC|_=>none,fn:=fun _=>none,meth:=fun _ _=>none}
theorem Yse:TP3.ct 67=some cmpC':=rfl
theorem Ysf:TP3.ct 68=some cmpC':=rfl
theorem Ysd:TP3.ct 66=some orC:=rfl
theorem YyS:Yo YCX TP3:=by
 refine⟨fun f c h=>?_,fun f vf h=>?_,(fun _ _ _ h=>by cases h),by kernel_rfl,(fun _ h=>by cases h)⟩
 . simp only[TP3]at h
   split at h
   . cases h;exact⟨Yva,Tryz.f67,Tryz.func67,by kernel_rfl,by kernel_rfl⟩
   . cases h;exact⟨Yzo,Tryz.f68,Tryz.func68,by kernel_rfl,by kernel_rfl⟩
   . cases h;exact⟨ori_c,Tryz.f66,Tryz.func66,by kernel_rfl,by kernel_rfl⟩
   . cases h
 . cases h
theorem bef_c:befC.ok YCX 32:=by
 refine Yb Tryz.func32 YBP YyS 300 befC fun args k h=>?_
 simp only[befC]at h
 split at h
 . rename_i a b c d e f g a' b' c' d' e' f' g'
   refine⟨[.agg [.int .i64 a,.int .i64 b,.int .i64 c,.int .i64 d,.int .i64 e,.int .i64 f,.int .i64 g],.agg [.int .i64 a',.int .i64 b',.int .i64 c',.int .i64 d',.int .i64 e',.int .i64 f',.int .i64 g']],by simp [leL,le],?_⟩
   dsimp only[v32,Yse,Ysf,Ysd,cmpC',orC,go_sem,reduceIte,YCS]
   simp only[Yd,YCS,YCU,reduceCtorEq,YCT]
   refine⟨by decide,[cmpI g g',cmpI a a',cmpI b b'],⟨rfl,rfl,fun j hj=>?_⟩,Yj (show k _ []from h)⟩
   rcases(show j=0\/j=1\/j=2 by omega)with rfl|rfl|rfl <;> exact Ye _
 . exact h.1.elim
def Yar(M:Nat->Iv):Nat->List SV
 |0=>[]
 |n+1=>Yar M n++[.int .i64 (M n).1,.int .i64 (M n).2]
theorem YmV:∀(a b:List SV),lenL (a++b)=lenL a+lenL b
 | [],b=>by simp [lenL]
 |x::a,b=>by simp [lenL,YmV a b];omega
theorem Yau(M:Nat->Iv):∀n,lenL (Yar M n)=2*n
 |0=>rfl
 |n+1=>by rw[Yar,YmV,Yau M n];simp [lenL];omega
theorem Yf9:∀(a b:List SV)(k:Nat),k<=lenL a->Yl k (a++b)=Yl k a++b
 | [],b,k,h=>by
   obtain rfl:k=0:=by simp [lenL]at h;omega
   rfl
 |x::a,b,0,h=>rfl
 |x::a,b,k+1,h=>Yf9 a b k (by simp [lenL]at h;omega)
theorem Yj5:∀(a:List SV),Yl (lenL a) a=[]
 | []=>rfl
 |x::a=>Yj5 a
theorem YhD:∀(a b:List SV)(k:Nat),k<=lenL a->Yt k (a++b)=Yt k a
 | [],b,k,h=>by
   obtain rfl:k=0:=by simp [lenL]at h;omega
   cases b <;> rfl
 |x::a,b,0,h=>rfl
 |x::a,b,k+1,h=>by
   show x::Yt k (a++b)=x::Yt k a
   rw[YhD a b k (by simp [lenL]at h;omega)]
theorem Yep:∀(k:Nat)(a:List SV),lenL (Yl k a)=lenL a-k
 |0,a=>by cases a <;> simp [Yl]
 |k+1,[]=>by simp [Yl,lenL]
 |k+1,x::a=>by simp only[Yl,lenL];rw[Yep k a];omega
theorem Ygg(M:Nat->Iv){i:Nat}:∀{n:Nat},i<n->Yt 2 (Yl (i*2) (Yar M n))=[.int .i64 (M i).1,.int .i64 (M i).2]
 |n+1,h=>by
   rw[Yar]
   rcases YC4 i n with h1|h1
   . rw[Yf9 _ _ _ (by rw[Yau];omega),YhD _ _ _ (by rw[Yep,Yau];omega)]
     exact Ygg M h1
   . obtain rfl:i=n:=by omega
     rw[Yf9 _ _ _ (by rw[Yau];omega),show i*2=lenL (Yar M i)by rw[Yau];omega,Yj5]
     rfl
def Yfx:Stp:=⟨0,0,0,0,0,0,0⟩
def stpF(L:Nat->Rt)(M:Nat->Iv)(kn nw:Int):Stp×Bool:=
 if(byF (max kn nw-min kn nw)).1=0 then(Yfx,false)
 else
   let p:=(byF (max kn nw-min kn nw)).1
   let q:=(byF (max kn nw-min kn nw)).2
   let se:=senF L (min kn nw) (max kn nw) p q
   let r:=if se=0 then(0,0)else ratF (tmsF (M (min kn nw).toNat) p) (tmsF (M (max kn nw).toNat) q)
   (⟨kn,nw,p,q,se,r.1,r.2⟩,true)
def stpC:Ctr:={ alias:=false,of:=fun l=>match l with
 | [.xp _ (.vs _ _ n sz get::cs),.int .i64 a,.int .i64 b]=> .ex (Nat->Rt) fun L=> .ex (Nat->Iv) fun M=> .ex Nat fun N=> .pre ((n=12/\sz=7/\∀k,k<12->leXL (get k) (encR (L k)))/\(cs=Yar M N/\N=140)/\(0<=a/\a<=139)/\0<=b/\b<=139)
    (.fin (.tup [.agg (encS (stpF L M a b).1),.bool (stpF L M a b).2]) [])
 |_=>noC}
theorem Yll{k:SV->List HO->Prop}{al:Bool}{hp:List HO}{x:Stp}{b:Bool}(h:k (.tup [.agg (encS x),.bool b]) []):YB al k (.tup [.agg (encS x),.bool b]) hp:=
 YE h (YA (.tup [.agg (encS x),.bool b]) ⟨⟨trivial,trivial,trivial,trivial,trivial,trivial,trivial,trivial⟩,trivial,trivial⟩) (fun _=>by simp [Ym,Yp,encS])
def TP4:Env:={ ct:=fun n=>match n with|64=>some byC|39=>some senC|65=>some tmsC|37=>some ratC|_=>none,fn:=fun _=>none,meth:=fun _ _=>none}
theorem Yic:TP4.ct 64=some byC:=rfl
theorem Yib:TP4.ct 39=some senC:=rfl
theorem Yid:TP4.ct 65=some tmsC:=rfl
theorem Yia:TP4.ct 37=some ratC:=rfl
theorem YyT:Yo YCX TP4:=by
 refine⟨fun f c h=>?_,fun f vf h=>?_,(fun _ _ _ h=>by cases h),by kernel_rfl,(fun _ h=>by cases h)⟩
 . simp only[TP4]at h
   split at h
   . cases h;exact⟨by_c,Tryz.f64,Tryz.func64,by kernel_rfl,by kernel_rfl⟩
   . cases h;exact⟨YBo,Tryz.f39,Tryz.func39,by kernel_rfl,by kernel_rfl⟩
   . cases h;exact⟨Yur,Tryz.f65,Tryz.func65,by kernel_rfl,by kernel_rfl⟩
   . cases h;exact⟨YBh,Tryz.f37,Tryz.func37,by kernel_rfl,by kernel_rfl⟩
   . cases h
 . cases h
theorem Y7(M:Nat->Iv)(m:Nat):∀n,bndL m (Yar M n)
 |0=>trivial
 |n+1=>by
   have key:∀(a b:List SV),bndL m a->bndL m b->bndL m (a++b):=fun a b=>by
     induction a with
     |nil=>exact fun _ h=>h
     |cons x a ih=>exact fun h1 h2=>⟨h1.1,ih h1.2 h2⟩
   exact key _ _ (Y7 M m n) ⟨trivial,trivial,trivial⟩
theorem stp_c:stpC.ok YCX 31:=by
 refine Yb Tryz.func31 YBO YyT 600 stpC fun args k h=>?_
 simp only[stpC]at h
 split at h
 . rename_i tt tv zv n sz get cs a b
   obtain⟨L,M,N,⟨⟨rfl,rfl,hg⟩,⟨rfl,hN⟩,ha,hb⟩,h⟩:=h
   refine⟨[.xp tt (.vs tv zv 12 7 (fun k=>encR (L k))::Yar M N),.int .i64 a,.int .i64 b],?_,?_⟩
   . simp only[YfL,YiQ,YsU,YmT,and_true,true_and]
     exact⟨id,⟨id,rfl,rfl,rfl,hg⟩,Ye _⟩
   have h:k (.tup [.agg (encS (stpF L M a b).1),.bool (stpF L M a b).2]) []:=h
   dsimp only[v31,Yic,Yib,Yid,Yia,byC,senC,tmsC,ratC,go_sem,reduceIte,YCS]
   simp only[Yd,YCS,YCU,reduceCtorEq,YCT]
   have hmm:min a b<=max a b/\0<=min a b/\max a b<=139:=by omega
   rw[YCW (max a b-min a b) (by omega)]
   obtain⟨lo,hlo⟩:∃m:Nat,min a b=(m:Int):=⟨(min a b).toNat,by omega⟩
   obtain⟨hi,hhi⟩:∃m:Nat,max a b=(m:Int):=⟨(max a b).toNat,by omega⟩
   have hS:stpF L M a b=if(byF ((hi:Int)-lo)).1=0 then(Yfx,false)else(⟨a,b,(byF ((hi:Int)-lo)).1,(byF ((hi:Int)-lo)).2,senF L lo hi (byF ((hi:Int)-lo)).1 (byF ((hi:Int)-lo)).2,(if senF L lo hi (byF ((hi:Int)-lo)).1 (byF ((hi:Int)-lo)).2=0 then(0,0)else ratF (tmsF (M lo) (byF ((hi:Int)-lo)).1) (tmsF (M hi) (byF ((hi:Int)-lo)).2)).1,(if senF L lo hi (byF ((hi:Int)-lo)).1 (byF ((hi:Int)-lo)).2=0 then(0,0)else ratF (tmsF (M lo) (byF ((hi:Int)-lo)).1) (tmsF (M hi) (byF ((hi:Int)-lo)).2)).2⟩,true):=by
     rw[stpF,hlo,hhi];rfl
   rw[hlo,hhi]at hmm⊢
   have hl:lo<140:=by omega
   have hh:hi<140:=by omega
   simp only[YCY]
   obtain⟨P,hP⟩:∃P,P=(byF ((hi:Int)-lo)).1:=⟨_,rfl⟩
   obtain⟨Q,hQ⟩:∃Q,Q=(byF ((hi:Int)-lo)).2:=⟨_,rfl⟩
   have hne:= @Ymr ((hi:Int)-lo)
   rw[<-hP,<-hQ]at hne hS⊢
   refine⟨by decide,by decide,fun hc=>?_,fun hc=>?_⟩
   . rw[hS,if_pos hc]at h
     exact Yll (x:=Yfx) h
   . rw[hS,if_neg hc]at h
     have hb1:=hne hc
     have hfl:=Yau M N
     have hd1:2<=lenL (Yl (lo*2) (Yar M N)):=by rw[Yep,hfl];omega
     have hd2:2<=lenL (Yl (hi*2) (Yar M N)):=by rw[Yep,hfl];omega
     refine⟨L,⟨fun q _=>Ye _,?_⟩,?_⟩
     . simp only[Yik,YC0,decide_eq_true_eq];omega
     obtain⟨Se,hSe⟩:∃Se,Se=senF L lo hi P Q:=⟨_,rfl⟩
     rw[<-hSe]at h⊢
     rw[Ygg M (by omega:lo<N)]
     dsimp only[Yic,Yib,Yid,Yia,byC,senC,tmsC,ratC,go_sem,reduceIte,YCS]
     simp only[Yd,YCS,YCU,reduceCtorEq,YCT]
     rw[Ygg M (by omega:hi<N)]
     dsimp only[Yic,Yib,Yid,Yia,byC,senC,tmsC,ratC,go_sem,reduceIte,YCS]
     simp only[Yd,YCS,YCU,reduceCtorEq,YCT]
     refine⟨fun hs=>⟨⟨by omega,by omega,by rw[hfl];omega⟩,hd1,⟨by omega,by omega,by rw[hfl];omega⟩,hd2,?_⟩,fun hs=>?_⟩
     . rw[if_neg hs]at h
       exact Yll (x:=⟨a,b,P,Q,Se,(ratF (tmsF (M lo) P) (tmsF (M hi) Q)).1,(ratF (tmsF (M lo) P) (tmsF (M hi) Q)).2⟩) h
     . rw[if_pos hs]at h
       exact Yll (x:=⟨a,b,P,Q,Se,0,0⟩) h
 . exact h.1.elim
end Go.Proofs.YtnfkhknfpaamoaaGreatDoor
