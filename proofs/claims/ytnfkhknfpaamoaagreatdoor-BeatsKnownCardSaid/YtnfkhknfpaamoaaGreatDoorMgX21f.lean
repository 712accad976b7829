/- Temperaments, walked: fifths, notes, Notes. -/
import Derived.Test.YtnfkhknfpaamoaaGreatDoorMgX21e
import Derived.Test.YtnfkhknfpaamoaaGreatDoorMgX21d
import Derived.LaidMore
import Derived.OpenShut
import Derived.Stop.Joined
import Derived.Deep.Slices
open And renaming intro->YBs
open Array renaming getElem?_eq_some_iff->YBv
open Bool renaming and_eq_true->YBq,false_eq_true->YBz,not_eq_true'->YBF,or_eq_false_iff->YBK,or_eq_true->YBQ
open Int renaming toNat_natCast->YBo,toNat_of_nonneg->YBD
open Go.IntWalk renaming i64_in->YBn,u64_in->YBJ
open List renaming length_append->YBI,mem_append->YBR,mem_cons->YBC,mem_cons_of_mem->YBy,mem_cons_self->YBx
open Nat renaming div_lt_iff_lt_mul->YBA,le_refl->YBt,lt_or_ge->YBB,mod_lt->YBO,mul_comm->YBM,reduceAdd->YBi,reduceEqDiff->YBj,reduceLeDiff->YBk
open Go.Proofs.Tryz renaming prog->YBm
set_option linter.all false
namespace Go.Proofs.YtnfkhknfpaamoaaGreatDoor
open Go Go.Vx
set_option maxRecDepth 100000
set_option maxHeartbeats 4000000
def v89:VF:=⟨58,[.cell 2 true 84],(ZR [u1 2 (.allocArr 12 7 [(.int .i64 0),(.int .i64 0),(.int .i64 0),(.int .i64 0),(.int .i64 0),(.int .i64 0),(.int .i64 0),(.int .i64 0),(.int .i64 0),(.int .i64 0),(.int .i64 0),(.int .i64 0),(.int .i64 0),(.int .i64 0),(.int .i64 0),(.int .i64 0),(.int .i64 0),(.int .i64 0),(.int .i64 0),(.int .i64 0),(.int .i64 0),(.int .i64 0),(.int .i64 0),(.int .i64 0),(.int .i64 0),(.int .i64 0),(.int .i64 0),(.int .i64 0),(.int .i64 0),(.int .i64 0),(.int .i64 0),(.int .i64 0),(.int .i64 0),(.int .i64 0),(.int .i64 0),(.int .i64 0),(.int .i64 0),(.int .i64 0),(.int .i64 0),(.int .i64 0),(.int .i64 0),(.int .i64 0),(.int .i64 0),(.int .i64 0),(.int .i64 0),(.int .i64 0),(.int .i64 0),(.int .i64 0),(.int .i64 0),(.int .i64 0),(.int .i64 0),(.int .i64 0),(.int .i64 0),(.int .i64 0),(.int .i64 0),(.int .i64 0),(.int .i64 0),(.int .i64 0),(.int .i64 0),(.int .i64 0),(.int .i64 0),(.int .i64 0),(.int .i64 0),(.int .i64 0),(.int .i64 0),(.int .i64 0),(.int .i64 0),(.int .i64 0),(.int .i64 0),(.int .i64 0),(.int .i64 0),(.int .i64 0),(.int .i64 0),(.int .i64 0),(.int .i64 0),(.int .i64 0),(.int .i64 0),(.int .i64 0),(.int .i64 0),(.int .i64 0),(.int .i64 0),(.int .i64 0),(.int .i64 0),(.int .i64 0)]) []] (ZR [u1 10 (.call 88) [.cn (.int .i64 531441),.cn (.int .i64 524288)],u1 3 (.alloc [(.int .i64 0),(.int .i64 0),(.int .i64 0),(.int .i64 0),(.int .i64 0),(.int .i64 0),(.int .i64 0)]) [],Zs 7 3 10] (.seq (ZR [Zm 11 0,u1 12 .nilCheck [.tm 11],Za 13 1 12,Zf 14 1 13] (ZC 14 (.region [u1 15 (.call 88) [.cn (.int .i64 81),.cn (.int .i64 80)],Zs 7 3 15]) .skip)) (ZR [u1 4 (.allocArr 12 7 [(.int .i64 0),(.int .i64 0),(.int .i64 0),(.int .i64 0),(.int .i64 0),(.int .i64 0),(.int .i64 0),(.int .i64 0),(.int .i64 0),(.int .i64 0),(.int .i64 0),(.int .i64 0),(.int .i64 0),(.int .i64 0),(.int .i64 0),(.int .i64 0),(.int .i64 0),(.int .i64 0),(.int .i64 0),(.int .i64 0),(.int .i64 0),(.int .i64 0),(.int .i64 0),(.int .i64 0),(.int .i64 0),(.int .i64 0),(.int .i64 0),(.int .i64 0),(.int .i64 0),(.int .i64 0),(.int .i64 0),(.int .i64 0),(.int .i64 0),(.int .i64 0),(.int .i64 0),(.int .i64 0),(.int .i64 0),(.int .i64 0),(.int .i64 0),(.int .i64 0),(.int .i64 0),(.int .i64 0),(.int .i64 0),(.int .i64 0),(.int .i64 0),(.int .i64 0),(.int .i64 0),(.int .i64 0),(.int .i64 0),(.int .i64 0),(.int .i64 0),(.int .i64 0),(.int .i64 0),(.int .i64 0),(.int .i64 0),(.int .i64 0),(.int .i64 0),(.int .i64 0),(.int .i64 0),(.int .i64 0),(.int .i64 0),(.int .i64 0),(.int .i64 0),(.int .i64 0),(.int .i64 0),(.int .i64 0),(.int .i64 0),(.int .i64 0),(.int .i64 0),(.int .i64 0),(.int .i64 0),(.int .i64 0),(.int .i64 0),(.int .i64 0),(.int .i64 0),(.int .i64 0),(.int .i64 0),(.int .i64 0),(.int .i64 0),(.int .i64 0),(.int .i64 0),(.int .i64 0),(.int .i64 0),(.int .i64 0)]) []] (ZR [u1 16 (.call 88) [.cn (.int .i64 128),.cn (.int .i64 1)],u1 5 (.alloc [(.int .i64 0),(.int .i64 0),(.int .i64 0),(.int .i64 0),(.int .i64 0),(.int .i64 0),(.int .i64 0)]) [],Zs 7 5 16] (.seq (ZR [Zm 17 0,u1 18 .nilCheck [.tm 17],Za 19 3 18,Zt 20 24 19,Zi 21 0] (.block 0 (.loop (ZR [Zq 22 .lss 21 12] (.seq (ZC 22 .skip (.exit 0)) (.seq (.block 1 (ZR [Zm 23 21,u1 24 (.index true 12 2) [.tm 20,.tm 21],Zn 7,Zm 6 23,Zs 2 7 24] (ZR [Zm 25 6,Zm 26 0,u1 27 .nilCheck [.tm 26],Za 28 2 27,Zf 29 1 28,Zr 30 .neq 25 29] (ZC 30 (ZR [Zt 32 7 3,Za 33 0 7,Zf 34 1 33,Za 35 1 7,Zf 36 1 35,u1 37 (.call 109) [.tm 32,.tm 34,.tm 36],Zm 31 37,Ze 38 0 31,Ze 39 1 31,u1 8 (.alloc [(.int .i64 0),(.int .i64 0),(.int .i64 0),(.int .i64 0),(.int .i64 0),(.int .i64 0),(.int .i64 0)]) [],Zs 7 8 38,Zm 9 39] (.seq (.draw [] [Zu 40 6,Zw 42 7 8,w1 41 (.call 88) [.cn (.int .i64 3),.cn (.int .i64 2)],Zz 43 110 41 42,w1 44 (.idxArr 12 7) [.tm 4,.tm 40],ZS 7 44 43]) (.draw [] [Zw 45 7 5,Zu 46 6,w1 47 (.idxArr 12 7) [.tm 4,.tm 46],Zw 48 7 47,Zz 49 110 45 48,ZS 7 5 49]))) .skip)))) (.region [Zp 50 21 1,Zm 21 50]))))))) (.seq (.draw [] [Zu 51 0,w1 52 .nilCheck [.tm 51],Zy 53 2 52,Zv 54 1 53,Zw 55 7 5,w1 56 (.idxArr 12 7) [.tm 4,.tm 54],ZS 7 56 55]) (ZR [Zt 57 84 4,Zs 84 2 57] .ret))))))))⟩
theorem YA0:Yg YBm Tryz.f89=some v89:=by kernel_rfl
def v63:VF:=⟨25,[.cell 2 true 84],(ZR [u1 2 (.allocArr 12 7 [(.int .i64 0),(.int .i64 0),(.int .i64 0),(.int .i64 0),(.int .i64 0),(.int .i64 0),(.int .i64 0),(.int .i64 0),(.int .i64 0),(.int .i64 0),(.int .i64 0),(.int .i64 0),(.int .i64 0),(.int .i64 0),(.int .i64 0),(.int .i64 0),(.int .i64 0),(.int .i64 0),(.int .i64 0),(.int .i64 0),(.int .i64 0),(.int .i64 0),(.int .i64 0),(.int .i64 0),(.int .i64 0),(.int .i64 0),(.int .i64 0),(.int .i64 0),(.int .i64 0),(.int .i64 0),(.int .i64 0),(.int .i64 0),(.int .i64 0),(.int .i64 0),(.int .i64 0),(.int .i64 0),(.int .i64 0),(.int .i64 0),(.int .i64 0),(.int .i64 0),(.int .i64 0),(.int .i64 0),(.int .i64 0),(.int .i64 0),(.int .i64 0),(.int .i64 0),(.int .i64 0),(.int .i64 0),(.int .i64 0),(.int .i64 0),(.int .i64 0),(.int .i64 0),(.int .i64 0),(.int .i64 0),(.int .i64 0),(.int .i64 0),(.int .i64 0),(.int .i64 0),(.int .i64 0),(.int .i64 0),(.int .i64 0),(.int .i64 0),(.int .i64 0),(.int .i64 0),(.int .i64 0),(.int .i64 0),(.int .i64 0),(.int .i64 0),(.int .i64 0),(.int .i64 0),(.int .i64 0),(.int .i64 0),(.int .i64 0),(.int .i64 0),(.int .i64 0),(.int .i64 0),(.int .i64 0),(.int .i64 0),(.int .i64 0),(.int .i64 0),(.int .i64 0),(.int .i64 0),(.int .i64 0),(.int .i64 0)]) []] (ZR [u1 3 (.allocArr 12 7 [(.int .i64 0),(.int .i64 0),(.int .i64 0),(.int .i64 0),(.int .i64 0),(.int .i64 0),(.int .i64 0),(.int .i64 0),(.int .i64 0),(.int .i64 0),(.int .i64 0),(.int .i64 0),(.int .i64 0),(.int .i64 0),(.int .i64 0),(.int .i64 0),(.int .i64 0),(.int .i64 0),(.int .i64 0),(.int .i64 0),(.int .i64 0),(.int .i64 0),(.int .i64 0),(.int .i64 0),(.int .i64 0),(.int .i64 0),(.int .i64 0),(.int .i64 0),(.int .i64 0),(.int .i64 0),(.int .i64 0),(.int .i64 0),(.int .i64 0),(.int .i64 0),(.int .i64 0),(.int .i64 0),(.int .i64 0),(.int .i64 0),(.int .i64 0),(.int .i64 0),(.int .i64 0),(.int .i64 0),(.int .i64 0),(.int .i64 0),(.int .i64 0),(.int .i64 0),(.int .i64 0),(.int .i64 0),(.int .i64 0),(.int .i64 0),(.int .i64 0),(.int .i64 0),(.int .i64 0),(.int .i64 0),(.int .i64 0),(.int .i64 0),(.int .i64 0),(.int .i64 0),(.int .i64 0),(.int .i64 0),(.int .i64 0),(.int .i64 0),(.int .i64 0),(.int .i64 0),(.int .i64 0),(.int .i64 0),(.int .i64 0),(.int .i64 0),(.int .i64 0),(.int .i64 0),(.int .i64 0),(.int .i64 0),(.int .i64 0),(.int .i64 0),(.int .i64 0),(.int .i64 0),(.int .i64 0),(.int .i64 0),(.int .i64 0),(.int .i64 0),(.int .i64 0),(.int .i64 0),(.int .i64 0),(.int .i64 0)]) []] (ZR [u1 7 (.call 88) [.cn (.int .i64 1),.cn (.int .i64 1)],u1 4 (.alloc [(.int .i64 0),(.int .i64 0),(.int .i64 0),(.int .i64 0),(.int .i64 0),(.int .i64 0),(.int .i64 0)]) [],Zs 7 4 7] (.seq (ZR [Zm 8 0,Zc 9 89 8,Zi 10 0] (.block 0 (.loop (ZR [Zq 11 .lss 10 12] (.seq (ZC 11 .skip (.exit 0)) (.seq (.block 1 (ZR [Zm 12 10,u1 13 (.index true 12 7) [.tm 9,.tm 10],u1 6 (.alloc [(.int .i64 0),(.int .i64 0),(.int .i64 0),(.int .i64 0),(.int .i64 0),(.int .i64 0),(.int .i64 0)]) [],Zm 5 12,Zs 7 6 13] (ZR [Zm 14 5,u1 15 (.ari .mul) [.cn (.int .i64 7),.tm 14],u1 16 .rem [.tm 15,.cn (.int .i64 12)],Zt 17 7 4,Zc 18 90 17,u1 19 (.idxArr 12 7) [.tm 3,.tm 16],Zs 7 19 18] (.region [Zt 20 7 4,Zt 21 7 6,Zd 22 91 20 21,Zs 7 4 22])))) (.region [Zp 23 10 1,Zm 10 23]))))))) (ZR [Zt 24 84 3,Zs 84 2 24] .ret)))))⟩
theorem YAE:Yg YBm Tryz.f63=some v63:=by kernel_rfl
def v29:VF:=⟨13,[.tmp 2,.tmp 3],(ZR [u1 1 .box [.tm 0],u1 2 .mov [.cn .nil],Zi 3 0] (.seq (ZR [Zt 6 27 1,Zc 7 62 6,Zm 4 7] (ZR [Zm 8 4,Zq 9 .neq 8 0] (ZC 9 (ZR [Zm 10 4,u1 2 .mov [.cn .nil],Zm 3 10] .ret) .skip))) (ZR [Zc 11 63 1,u1 5 (.allocArr 12 7 [(.int .i64 0),(.int .i64 0),(.int .i64 0),(.int .i64 0),(.int .i64 0),(.int .i64 0),(.int .i64 0),(.int .i64 0),(.int .i64 0),(.int .i64 0),(.int .i64 0),(.int .i64 0),(.int .i64 0),(.int .i64 0),(.int .i64 0),(.int .i64 0),(.int .i64 0),(.int .i64 0),(.int .i64 0),(.int .i64 0),(.int .i64 0),(.int .i64 0),(.int .i64 0),(.int .i64 0),(.int .i64 0),(.int .i64 0),(.int .i64 0),(.int .i64 0),(.int .i64 0),(.int .i64 0),(.int .i64 0),(.int .i64 0),(.int .i64 0),(.int .i64 0),(.int .i64 0),(.int .i64 0),(.int .i64 0),(.int .i64 0),(.int .i64 0),(.int .i64 0),(.int .i64 0),(.int .i64 0),(.int .i64 0),(.int .i64 0),(.int .i64 0),(.int .i64 0),(.int .i64 0),(.int .i64 0),(.int .i64 0),(.int .i64 0),(.int .i64 0),(.int .i64 0),(.int .i64 0),(.int .i64 0),(.int .i64 0),(.int .i64 0),(.int .i64 0),(.int .i64 0),(.int .i64 0),(.int .i64 0),(.int .i64 0),(.int .i64 0),(.int .i64 0),(.int .i64 0),(.int .i64 0),(.int .i64 0),(.int .i64 0),(.int .i64 0),(.int .i64 0),(.int .i64 0),(.int .i64 0),(.int .i64 0),(.int .i64 0),(.int .i64 0),(.int .i64 0),(.int .i64 0),(.int .i64 0),(.int .i64 0),(.int .i64 0),(.int .i64 0),(.int .i64 0),(.int .i64 0),(.int .i64 0),(.int .i64 0)]) [],Zs 84 5 11] (ZR [u1 12 (.sliceArr 12 7 false false) [.tm 5],Zm 2 12,Zi 3 0] .ret))))⟩
theorem YAg:Yg YBm Tryz.f29=some v29:=by kernel_rfl
def YcK(L:Nat->Rt):List SV:=encR (L 0)++(encR (L 1)++(encR (L 2)++(encR (L 3)++(encR (L 4)++(encR (L 5)++(encR (L 6)++(encR (L 7)++(encR (L 8)++(encR (L 9)++(encR (L 10)++(encR (L 11)++[])))))))))))
theorem Yy7{get:Nat->List SV}:YeB 12 0 get=get 0++(get 1++(get 2++(get 3++(get 4++(get 5++(get 6++(get 7++(get 8++(get 9++(get 10++(get 11++[]))))))))))):=rfl
attribute [go_sem] Yy7
theorem YjK(L:Nat->Rt){i:Nat}(h:i<12):Ys 7 (Ym (i*7) (YcK L))=encR (L i):=by
 rcases Yhl h with rfl|rfl|rfl|rfl|rfl|rfl|rfl|rfl|rfl|rfl|rfl|rfl <;> rfl
theorem Yqo{k:Nat}(h:k<12):YaJ 7 [SV.int .i64 0,SV.int .i64 0,SV.int .i64 0,SV.int .i64 0,SV.int .i64 0,SV.int .i64 0,SV.int .i64 0,SV.int .i64 0,SV.int .i64 0,SV.int .i64 0,SV.int .i64 0,SV.int .i64 0,SV.int .i64 0,SV.int .i64 0,SV.int .i64 0,SV.int .i64 0,SV.int .i64 0,SV.int .i64 0,SV.int .i64 0,SV.int .i64 0,SV.int .i64 0,SV.int .i64 0,SV.int .i64 0,SV.int .i64 0,SV.int .i64 0,SV.int .i64 0,SV.int .i64 0,SV.int .i64 0,SV.int .i64 0,SV.int .i64 0,SV.int .i64 0,SV.int .i64 0,SV.int .i64 0,SV.int .i64 0,SV.int .i64 0,SV.int .i64 0,SV.int .i64 0,SV.int .i64 0,SV.int .i64 0,SV.int .i64 0,SV.int .i64 0,SV.int .i64 0,SV.int .i64 0,SV.int .i64 0,SV.int .i64 0,SV.int .i64 0,SV.int .i64 0,SV.int .i64 0,SV.int .i64 0,SV.int .i64 0,SV.int .i64 0,SV.int .i64 0,SV.int .i64 0,SV.int .i64 0,SV.int .i64 0,SV.int .i64 0,SV.int .i64 0,SV.int .i64 0,SV.int .i64 0,SV.int .i64 0,SV.int .i64 0,SV.int .i64 0,SV.int .i64 0,SV.int .i64 0,SV.int .i64 0,SV.int .i64 0,SV.int .i64 0,SV.int .i64 0,SV.int .i64 0,SV.int .i64 0,SV.int .i64 0,SV.int .i64 0,SV.int .i64 0,SV.int .i64 0,SV.int .i64 0,SV.int .i64 0,SV.int .i64 0,SV.int .i64 0,SV.int .i64 0,SV.int .i64 0,SV.int .i64 0,SV.int .i64 0,SV.int .i64 0,SV.int .i64 0] k=encR Yax:=by
 rcases Yhl h with rfl|rfl|rfl|rfl|rfl|rfl|rfl|rfl|rfl|rfl|rfl|rfl <;> rfl
theorem Ya9{a b:Nat}(r:Rt):leL a b (encR r) (encR r):=Yd _ ⟨trivial,trivial,trivial,trivial,trivial,trivial,trivial,trivial⟩
theorem Yal(x:Rt):Rt.mk x.a x.b x.c x.d x.e x.f x.n=x:=rfl
def YoB(T:Tm):Rt:=if T.syn=true then(ofRF 81 80).1 else(ofRF 531441 524288).1
def fifR(T:Tm)(i:Nat):Rt:=(Ya7 (ofRF 3 2).1 (pwrF (YoB T) (T.p i).1 (T.p i).2).1 (-1)).1
def Ybe(T:Tm):Nat->Rt
 |0=>(ofRF 128 1).1
 |i+1=>if(i:Int)=T.wolf then Ybe T i else(Ya7 (Ybe T i) (fifR T i) (-1)).1
def fifL(T:Tm)(i k:Nat):Rt:=if k<i then(if(k:Int)=T.wolf then Yax else fifR T k)else Yax
def YcM(T:Tm)(k:Nat):Rt:=if k=T.wolf.toNat then Ybe T 12 else fifL T 12 k
theorem YoO(T:Tm)(j:Nat):(if j=T.wolf.toNat then [SV.int .i64 (Ybe T 12).a,SV.int .i64 (Ybe T 12).b,SV.int .i64 (Ybe T 12).c,SV.int .i64 (Ybe T 12).d,SV.int .i64 (Ybe T 12).e,SV.int .i64 (Ybe T 12).f,SV.int .i64 (Ybe T 12).n]else [SV.int .i64 (fifL T 12 j).a,SV.int .i64 (fifL T 12 j).b,SV.int .i64 (fifL T 12 j).c,SV.int .i64 (fifL T 12 j).d,SV.int .i64 (fifL T 12 j).e,SV.int .i64 (fifL T 12 j).f,SV.int .i64 (fifL T 12 j).n])=encR (YcM T j):=by
 unfold YcM;split <;> rfl
theorem YsO(T:Tm)(k:Nat):fifL T 0 k=Yax:=if_neg (Nat.not_lt_zero _)
theorem YjJ(L:Nat->Rt)(m:Nat):bndL m (YcK L):=by simp [YcK,encR,bndL,bnd]
theorem Yn2{k:SV->List HO->Prop}{al:Bool}{hp:List HO}{L:Nat->Rt}(h:k (.agg (YcK L)) []):Yw al k (.agg (YcK L)) hp:=
 YC (show k _ []from h) (Yz (.agg (YcK L)) (YjJ L _)) (fun _=>by simp [Yk,Yo,YcK,encR])
theorem YoN{T:Tm}{i:Nat}(h:¬(i:Int)=T.wolf):fifL T (i+1) i=fifR T i:=by
 unfold fifL;rw[if_pos (by omega),if_neg h]
theorem Yk5{T:Tm}{i k:Nat}(h:¬k=i):fifL T (i+1) k=fifL T i k:=by
 unfold fifL
 by_cases h1:k<i
 . rw[if_pos h1,if_pos (by omega)]
 . rw[if_neg h1,if_neg (by omega)]
theorem YsN{T:Tm}{i k:Nat}(h:(i:Int)=T.wolf):fifL T (i+1) k=fifL T i k:=by
 by_cases hk:k=i
 . subst hk;unfold fifL;rw[if_pos (by omega),if_pos h,if_neg (by omega)]
 . exact Yk5 hk
def fifC:Ctr:={ alias:=false,of:=fun l=>match l with
 | [.xp _ cs]=> .ex Tm fun T=> .pre (cs=encT T/\YbM T=0) (.fin (.agg (YcK (YcM T))) [])
 |_=>noC}
theorem YtX{T:Tm}(h:YbM T=0):(0<=T.wolf/\T.wolf<=11)/\(∀i,i<12->badT (T.p i)=false):=by
 unfold YbM at h
 split at h
 . cases h
 . split at h
   . cases h
   . rename_i h1 h2
     refine⟨by omega,fun i hi=>?_⟩
     cases hb:badT (T.p i)with
     |false=>rfl
     |true=>exact absurd (YsF hi hb) h2
def mc1:Ctr:=m2C 1
def mcm:Ctr:=m2C (-1)
def TH0:Env:={ ct:=fun n=>match n with|88=>some wholeC|110=>some mcm|91=>some mc1|109=>some powRC|90=>some folC|_=>none,fn:=fun _=>none,meth:=fun _ _=>none}
theorem Yb7:TH0.ct 88=some wholeC:=rfl
theorem Ybm:TH0.ct 110=some mcm:=rfl
theorem Yb9:TH0.ct 91=some mc1:=rfl
theorem Ybl:TH0.ct 109=some powRC:=rfl
theorem Yb8:TH0.ct 90=some folC:=rfl
theorem Yw8:Yn YBm TH0:=by
 refine⟨fun f c h=>?_,fun f vf h=>?_,(fun _ _ _ h=>by cases h),by kernel_rfl,(fun _ h=>by cases h)⟩
 . simp only[TH0]at h
   split at h
   . cases h;exact⟨Yqj,Tryz.f88,Tryz.func88,by kernel_rfl,by kernel_rfl⟩
   . cases h;exact⟨ovr_c,Tryz.f110,Tryz.func110,by kernel_rfl,by kernel_rfl⟩
   . cases h;exact⟨Yz5,Tryz.f91,Tryz.func91,by kernel_rfl,by kernel_rfl⟩
   . cases h;exact⟨pow_c,Tryz.f109,Tryz.func109,by kernel_rfl,by kernel_rfl⟩
   . cases h;exact⟨Yx7,Tryz.f90,Tryz.func90,by kernel_rfl,by kernel_rfl⟩
   . cases h
 . cases h
theorem fif_c:fifC.ok YBm 89:=by
 refine Yb Tryz.func89 YA0 Yw8 300 fifC fun args k h=>?_
 simp only[fifC]at h
 split at h
 . rename_i tt cs
   obtain⟨T,⟨rfl,hT⟩,h⟩:=h
   refine⟨[.xp tt (encT T)],by simp only[Ya],?_⟩
   obtain⟨hw,hp⟩:=YtX hT
   dsimp only[v89,encT,encP,encR,Yal,Yb7,Ybm,Yb9,Ybl,Yb8,wholeC,mc1,mcm,m2C,powRC,folC,go_sem,reduceIte,YBi]
   simp only[Yc,YBi,YBk,reduceCtorEq,YBj]
   refine⟨fun hs=>?_,fun hs=>?_⟩
   . have hC:YoB T=(ofRF 81 80).1:=if_pos hs
     obtain⟨C,hCe⟩:∃C,C=(ofRF 81 80).1:=⟨_,rfl⟩
     rw[<-hCe]at hC⊢
     clear hCe hs
     refine Loop.keep [0,1,0,0,0,14] Nat (fun i=>[(21,.int .i64 i)]) (fun i=>[(2,.own false 7 12 (fun k=>encR (fifL T i k))),(3,.box (encR (Ybe T i)))]) [] (fun i=>i<=12) (fun i=>12-i) ?_ ?_
     . refine⟨0,by omega,?_⟩
       dsimp only[encR,go_sem,reduceIte,YBi]
       simp only[Ya]
       refine⟨⟨by decide,by decide,by decide,by decide,rfl⟩,fun k hk=>?_,rfl,rfl,rfl,rfl,rfl,rfl,rfl⟩
       rw[Yqo hk,YsO]
       exact Ya9 Yax
     . rintro i hi
       dsimp only[Yal,Yb7,Ybm,Yb9,Ybl,Yb8,wholeC,mc1,mcm,m2C,powRC,folC,encR,YBo,go_sem,reduceIte,YBi]
       simp only[Yc,YBi,YBk,reduceCtorEq,YBj]
       refine⟨fun hlt=>?_,fun hge=>?_⟩
       . have hi12:i<12:=by omega
         have e:=Yil T.p hi12
         simp only[encP]at e
         rw[e]
         dsimp only[Yal,Yb7,Ybm,Yb9,Ybl,Yb8,wholeC,mc1,mcm,m2C,powRC,folC,encR,YBo,go_sem,reduceIte,YBi]
         simp only[Yc,YBi,YBk,reduceCtorEq,YBj]
         have hF:(Ya7 (ofRF 3 2).1 (pwrF C (T.p i).1 (T.p i).2).1 (-1)).1=fifR T i:=by rw[fifR,hC]
         simp only[if_true,Yal,hF]
         dsimp only[Yal,Yb7,Ybm,Yb9,Ybl,Yb8,wholeC,mc1,mcm,m2C,powRC,folC,encR,YBo,go_sem,reduceIte,YBi]
         simp only[Yc,YBi,YBk,reduceCtorEq,YBj]
         refine⟨⟨by omega,by omega⟩,fun hne=>⟨by decide,by decide,⟨by omega,by omega⟩,hi12,⟨by omega,by omega⟩,hi12,i+1,by omega,by omega,?_⟩,fun heq=>⟨i+1,by omega,by omega,?_⟩⟩
         . have hR:Ybe T (i+1)=(Ya7 (Ybe T i) (fifR T i) (-1)).1:=by rw[Ybe,if_neg hne]
           rw[hR,YBn ((i:Int)+1) (by omega)]
           simp only[Ya]
           refine⟨⟨by decide,by decide,by decide,by decide,by simp⟩,fun k hk=>?_⟩
           split
           . rename_i hki
             subst hki
             rw[YoN hne]
             exact Ya9 _
           . rename_i hki
             rw[Yk5 hki]
             exact Ya9 _
         . have hR:Ybe T (i+1)=Ybe T i:=by rw[Ybe,if_pos heq]
           rw[hR,YBn ((i:Int)+1) (by omega)]
           simp only[Ya]
           refine⟨⟨by decide,by decide,by decide,by decide,by simp⟩,fun k hk=>?_⟩
           rw[YsN heq]
           exact⟨rfl,rfl,rfl,rfl,rfl,rfl,rfl⟩
       . obtain rfl:i=12:=by omega
         simp only[YoO]
         dsimp only[encR,go_sem,reduceIte,YBi]
         simp only[Yc,YBi,YBk,reduceCtorEq,YBj]
         exact⟨⟨by omega,by omega⟩,by omega,by decide,Yn2 (L:=YcM T) h⟩
   . have hC:YoB T=(ofRF 531441 524288).1:=if_neg (by rw[hs];decide)
     obtain⟨C,hCe⟩:∃C,C=(ofRF 531441 524288).1:=⟨_,rfl⟩
     rw[<-hCe]at hC⊢
     clear hCe hs
     refine Loop.keep [0,1,0,0,0,14] Nat (fun i=>[(21,.int .i64 i)]) (fun i=>[(2,.own false 7 12 (fun k=>encR (fifL T i k))),(3,.box (encR (Ybe T i)))]) [] (fun i=>i<=12) (fun i=>12-i) ?_ ?_
     . refine⟨0,by omega,?_⟩
       dsimp only[encR,go_sem,reduceIte,YBi]
       simp only[Ya]
       refine⟨⟨by decide,by decide,by decide,by decide,rfl⟩,fun k hk=>?_,rfl,rfl,rfl,rfl,rfl,rfl,rfl⟩
       rw[Yqo hk,YsO]
       exact Ya9 Yax
     . rintro i hi
       dsimp only[Yal,Yb7,Ybm,Yb9,Ybl,Yb8,wholeC,mc1,mcm,m2C,powRC,folC,encR,YBo,go_sem,reduceIte,YBi]
       simp only[Yc,YBi,YBk,reduceCtorEq,YBj]
       refine⟨fun hlt=>?_,fun hge=>?_⟩
       . have hi12:i<12:=by omega
         have e:=Yil T.p hi12
         simp only[encP]at e
         rw[e]
         dsimp only[Yal,Yb7,Ybm,Yb9,Ybl,Yb8,wholeC,mc1,mcm,m2C,powRC,folC,encR,YBo,go_sem,reduceIte,YBi]
         simp only[Yc,YBi,YBk,reduceCtorEq,YBj]
         have hF:(Ya7 (ofRF 3 2).1 (pwrF C (T.p i).1 (T.p i).2).1 (-1)).1=fifR T i:=by rw[fifR,hC]
         simp only[if_true,Yal,hF]
         dsimp only[Yal,Yb7,Ybm,Yb9,Ybl,Yb8,wholeC,mc1,mcm,m2C,powRC,folC,encR,YBo,go_sem,reduceIte,YBi]
         simp only[Yc,YBi,YBk,reduceCtorEq,YBj]
         refine⟨⟨by omega,by omega⟩,fun hne=>⟨by decide,by decide,⟨by omega,by omega⟩,hi12,⟨by omega,by omega⟩,hi12,i+1,by omega,by omega,?_⟩,fun heq=>⟨i+1,by omega,by omega,?_⟩⟩
         . have hR:Ybe T (i+1)=(Ya7 (Ybe T i) (fifR T i) (-1)).1:=by rw[Ybe,if_neg hne]
           rw[hR,YBn ((i:Int)+1) (by omega)]
           simp only[Ya]
           refine⟨⟨by decide,by decide,by decide,by decide,by simp⟩,fun k hk=>?_⟩
           split
           . rename_i hki
             subst hki
             rw[YoN hne]
             exact Ya9 _
           . rename_i hki
             rw[Yk5 hki]
             exact Ya9 _
         . have hR:Ybe T (i+1)=Ybe T i:=by rw[Ybe,if_pos heq]
           rw[hR,YBn ((i:Int)+1) (by omega)]
           simp only[Ya]
           refine⟨⟨by decide,by decide,by decide,by decide,by simp⟩,fun k hk=>?_⟩
           rw[YsN heq]
           exact⟨rfl,rfl,rfl,rfl,rfl,rfl,rfl⟩
       . obtain rfl:i=12:=by omega
         simp only[YoO]
         dsimp only[encR,go_sem,reduceIte,YBi]
         simp only[Yc,YBi,YBk,reduceCtorEq,YBj]
         exact⟨⟨by omega,by omega⟩,by omega,by decide,Yn2 (L:=YcM T) h⟩
 . exact h.1.elim
theorem Yp2(n:Nat)(L:Nat->Rt):YbE n (YcK L)=YcK L:=rfl
theorem Yo5{a b:Nat}(L:Nat->Rt):leL a b (YcK L) (YcK L):=Yd _ (YjJ L _)
def YvA(L:Nat->Rt)(i:Nat)(r:Rt):Nat->Rt:=fun k=>if k=i then r else L k
def notL(T:Tm):Nat->(Nat->Rt)×Rt
 |0=>(fun _=>Yax,(ofRF 1 1).1)
 |i+1=>(YvA (notL T i).1 (7*i%12) (Yfc (notL T i).2).1,(Ya7 (notL T i).2 (YcM T i) 1).1)
def Ycz(T:Tm):Nat->Rt:=(notL T 12).1
def notC:Ctr:={ alias:=false,of:=fun l=>match l with
 | [.xp _ cs]=> .ex Tm fun T=> .pre (cs=encT T/\YbM T=0) (.fin (.agg (YcK (Ycz T))) [])
 |_=>noC}
def TH1:Env:={ ct:=fun n=>match n with|88=>some wholeC|91=>some mc1|90=>some folC|89=>some fifC|_=>none,fn:=fun _=>none,meth:=fun _ _=>none}
theorem Yhx:TH1.ct 88=some wholeC:=rfl
theorem YhA:TH1.ct 91=some mc1:=rfl
theorem Yhz:TH1.ct 90=some folC:=rfl
theorem Yhy:TH1.ct 89=some fifC:=rfl
theorem Yw9:Yn YBm TH1:=by
 refine⟨fun f c h=>?_,fun f vf h=>?_,(fun _ _ _ h=>by cases h),by kernel_rfl,(fun _ h=>by cases h)⟩
 . simp only[TH1]at h
   split at h
   . cases h;exact⟨Yqj,Tryz.f88,Tryz.func88,by kernel_rfl,by kernel_rfl⟩
   . cases h;exact⟨Yz5,Tryz.f91,Tryz.func91,by kernel_rfl,by kernel_rfl⟩
   . cases h;exact⟨Yx7,Tryz.f90,Tryz.func90,by kernel_rfl,by kernel_rfl⟩
   . cases h;exact⟨fif_c,Tryz.f89,Tryz.func89,by kernel_rfl,by kernel_rfl⟩
   . cases h
 . cases h
theorem not_c:notC.ok YBm 63:=by
 refine Yb Tryz.func63 YAE Yw9 300 notC fun args k h=>?_
 simp only[notC]at h
 split at h
 . rename_i tt cs
   obtain⟨T,⟨rfl,hT⟩,h⟩:=h
   refine⟨[.xp tt (encT T)],by simp only[Ya],?_⟩
   dsimp only[v63,encR,Yal,Yhx,YhA,Yhz,Yhy,wholeC,mc1,mcm,m2C,folC,fifC,go_sem,reduceIte,YBi]
   simp only[Yc,YBi,YBk,reduceCtorEq,YBj]
   refine⟨T,⟨rfl,hT⟩,?_⟩
   refine Loop.keep [2,0,0,4] Nat (fun i=>[(10,.int .i64 i)]) (fun i=>[(1,.own false 7 12 (fun k=>encR ((notL T i).1 k))),(2,.box (encR (notL T i).2))]) [] (fun i=>i<=12) (fun i=>12-i) ?_ ?_
   . refine⟨0,by omega,?_⟩
     dsimp only[encR,YcK,go_sem,reduceIte,YBi]
     simp only[Ya]
     refine⟨⟨by decide,by decide,by decide,rfl⟩,fun k hk=>?_,rfl,rfl,rfl,rfl,rfl,rfl,rfl⟩
     rw[Yqo hk]
     exact Ya9 Yax
   . rintro i hi
     dsimp only[encR,YBo,Yal,Yhx,YhA,Yhz,Yhy,wholeC,mc1,mcm,m2C,folC,fifC,go_sem,reduceIte,YBi]
     simp only[Yc,YBi,YBk,reduceCtorEq,YBj]
     refine⟨fun hlt=>?_,fun hge=>?_⟩
     . have hi12:i<12:=by omega
       have e7:(IntKind.i64.wrap (7*(i:Int))).tmod 12=((7*i%12:Nat):Int):=by
         rw[YBn _ (by omega),Int.tmod_eq_emod_of_nonneg (by omega)];omega
       simp only[Yp2,YjK (YcM T) hi12,e7,YBo]
       dsimp only[encR,YBo,Yal,Yhx,YhA,Yhz,Yhy,wholeC,mc1,mcm,m2C,folC,fifC,go_sem,reduceIte,YBi]
       simp only[Yc,YBi,YBk,reduceCtorEq,YBj]
       have hS:notL T (i+1)=(YvA (notL T i).1 (7*i%12) (Yfc (notL T i).2).1,(Ya7 (notL T i).2 (YcM T i) 1).1):=rfl
       refine⟨⟨by omega,by omega,rfl⟩,by decide,⟨by omega,by omega⟩,by omega,i+1,by omega,by omega,?_⟩
       rw[hS,YBn ((i:Int)+1) (by omega)]
       simp only[Ya]
       refine⟨⟨by decide,by decide,by decide,Yo5 _,by simp⟩,fun k hk=>?_⟩
       unfold YvA
       split
       . exact Ya9 _
       . exact Ya9 _
     . obtain rfl:i=12:=by omega
       exact⟨by decide,Yn2 (L:=Ycz T) h⟩
 . exact h.1.elim
theorem Ybr(T:Tm):ones (encT T):=by simp [encT,encP,ones,one];rfl
theorem YuV(L:Nat->Rt):ones (YcK L):=by simp [YcK,encR,ones,one]
theorem YxF{k:SV->List HO->Prop}{al:Bool}{hp:List HO}{e:Int}(h:k (.tup [.nil,.int .i64 e]) []):Yw al k (.tup [.nil,.int .i64 e]) hp:=
 YC h (Yz (.tup [.nil,.int .i64 e]) ⟨trivial,trivial,trivial⟩) (fun _=>by simp [Yk,Yo])
theorem Ytz{k:SV->List HO->Prop}{x:HO}{e:Int}{L:Nat->Rt}(h:k (.tup [.vs true false 12 7 (fun k=>encR (L k)),.int .i64 e]) []):Yw false k (.tup [.own 1 0 12 7,.int .i64 e]) [x,.own false 7 12 (YaJ 7 (YbE 1 (YcK L)))]:=by
 refine YC h ?_ (fun _=>by simp [Yk,Yo,encR])
 dsimp only[expo,go_sem,reduceIte,YBi]
 simp only[Ya]
 intro q hq
 rw[Yp2,YjK L hq]
 exact Ye _
def NotC:Ctr:={ alias:=false,of:=fun l=>match l with
 | [.agg cs]=> .ex Tm fun T=> .pre (cs=encT T/\T.nm.size<=9223372036854775807) (if YbM T≠0 then .fin (.tup [.nil,.int .i64 (YbM T)]) []else .fin (.tup [.vs true false 12 7 (fun k=>encR (Ycz T k)),.int .i64 0]) [])
 |_=>noC}
def TH2:Env:={ ct:=fun n=>match n with|62=>some chkTmC|63=>some notC|_=>none,fn:=fun _=>none,meth:=fun _ _=>none}
theorem YqM:TH2.ct 62=some chkTmC:=rfl
theorem YqN:TH2.ct 63=some notC:=rfl
theorem Yxa:Yn YBm TH2:=by
 refine⟨fun f c h=>?_,fun f vf h=>?_,(fun _ _ _ h=>by cases h),by kernel_rfl,(fun _ h=>by cases h)⟩
 . simp only[TH2]at h
   split at h
   . cases h;exact⟨Yow,Tryz.f62,Tryz.func62,by kernel_rfl,by kernel_rfl⟩
   . cases h;exact⟨not_c,Tryz.f63,Tryz.func63,by kernel_rfl,by kernel_rfl⟩
   . cases h
 . cases h
theorem Ytl:NotC.ok YBm 29:=by
 refine Yb Tryz.func29 YAg Yxa 300 NotC fun args k h=>?_
 simp only[NotC]at h
 split at h
 . rename_i cs
   obtain⟨T,⟨rfl,hnm⟩,h⟩:=h
   refine⟨[.agg (encT T)],⟨Yd _ (Yt T _),trivial⟩,?_⟩
   dsimp only[v29,YqM,YqN,chkTmC,notC,go_sem,reduceIte,YBi]
   simp only[Yc,YBi,YBk,reduceCtorEq,YBj]
   refine⟨Ybr T,YBt 27,T,⟨rfl,hnm⟩,fun hc=>?_,fun hc=>⟨T,⟨rfl,hc⟩,⟨rfl,YuV _,by decide⟩,?_⟩⟩
   . rw[if_pos hc]at h
     exact YxF (show k _ []from h)
   . rw[if_neg (by rw[hc];decide)]at h
     exact Ytz (show k _ []from h)
 . exact h.1.elim
def v47:VF:=⟨9,[.tmp 2],(ZR [u1 2 .mov [.cn (.bool false)]] (ZR [Zm 3 0,Zq 4 .geq 3 (-20000),Zm 5 4,Zg 6 5 true 0,u2 7 5 true (.cmp .leq) [.tm 6,.cn (.int .i64 50000)],u1 8 .and [.tm 5,.tm 7],Zm 2 8] .ret))⟩
theorem YAu:Yg YBm Tryz.f47=some v47:=by kernel_rfl
def v49:VF:=⟨9,[.cell 4 true 2],(ZR [Zn 4] (ZR [Zm 5 0,u1 6 (.ari .add) [.cn (.int .i64 273150),.tm 5],Zm 7 1,u1 8 (.build [(.int .i64 0),(.int .i64 0)] [(0,1),(1,1)]) [.tm 6,.tm 7],Zs 2 4 8] .ret))⟩
theorem YAw:Yg YBm Tryz.f49=some v49:=by kernel_rfl
def v48:VF:=⟨26,[.cell 6 true 2],(ZR [Zn 6] (ZR [Zm 11 0,Zm 12 2,Zm 13 1,u1 14 (.call 78) [.tm 11,.tm 12,.tm 13],Zm 10 14,Ze 15 0 10,Ze 16 1 10,Ze 17 2 10,Zm 7 15,Zm 8 16,Zm 9 17] (.seq (ZR [Zm 18 8] (ZC 18 (ZR [Zm 19 7,Zm 20 7,u1 21 (.build [(.int .i64 0),(.int .i64 0)] [(0,1),(1,1)]) [.tm 19,.tm 20],Zs 2 6 21] .ret) .skip)) (ZR [Zm 22 7,Zm 23 7,Zp 24 23 1,u1 25 (.build [(.int .i64 0),(.int .i64 0)] [(0,1),(1,1)]) [.tm 22,.tm 24],Zs 2 6 25] .ret))))⟩
theorem YAv:Yg YBm Tryz.f48=some v48:=by kernel_rfl
def pspF(s:Int)(l:List (Int×Int))(den:Int):Int×Int:=if(YgE s l den).2.1=true then((YgE s l den).1,(YgE s l den).1)else((YgE s l den).1,IntKind.i64.wrap ((YgE s l den).1+1))
def pspC:Ctr:={ alias:=false,of:=fun l=>match l with
 | [.int .i64 s,.int .i64 den,.vs _ _ n sz get]=> .ex (List (Int×Int)) fun l=> .pre (lsP 2 enc2 n sz get l/\1<=n/\n<=1000000000000) (.fin (.agg [.int .i64 (pspF s l den).1,.int .i64 (pspF s l den).2]) [])
 |_=>noC}
def YcA(t:Int):Bool:=decide (-20000<=t)&&decide (t<=50000)
theorem YdD{k:SV->List HO->Prop}{al:Bool}{hp:List HO}{x y:Int}(h:k (.agg [.int .i64 x,.int .i64 y]) []):Yw al k (.agg [.int .i64 x,.int .i64 y]) hp:=
 YC (show k _ []from h) (Yz (.agg [.int .i64 x,.int .i64 y]) ⟨trivial,trivial,trivial⟩) (fun _=>by simp [Yk,Yo])
theorem Ycg{k:SV->List HO->Prop}{al:Bool}{hp:List HO}{x y e:Int}(h:k (.tup [.agg [.int .i64 x,.int .i64 y],.int .i64 e]) []):Yw al k (.tup [.agg [.int .i64 x,.int .i64 y],.int .i64 e]) hp:=
 YC (show k _ []from h) (Yz (.tup [.agg [.int .i64 x,.int .i64 y],.int .i64 e]) ⟨⟨trivial,trivial,trivial⟩,trivial,trivial⟩) (fun _=>by simp [Yk,Yo])
def RP0:Env:={ ct:=fun n=>match n with|78=>some prodC|_=>none,fn:=fun _=>none,meth:=fun _ _=>none}
theorem YqE:RP0.ct 78=some prodC:=rfl
theorem YwU:Yn YBm RP0:=by
 refine⟨fun f c h=>?_,fun f vf h=>?_,(fun _ _ _ h=>by cases h),by kernel_rfl,(fun _ h=>by cases h)⟩
 . simp only[RP0]at h
   split at h
   . cases h;exact⟨YyY,Tryz.f78,Tryz.func78,by kernel_rfl,by kernel_rfl⟩
   . cases h
 . cases h
theorem psp_c:pspC.ok YBm 48:=by
 refine Yb Tryz.func48 YAv YwU 200 pspC fun args k h=>?_
 simp only[pspC]at h
 split at h
 . rename_i s den tt z n sz get
   obtain⟨l,⟨⟨rfl,rfl,hg⟩,hn1,hn⟩,h⟩:=h
   refine⟨[.int .i64 s,.int .i64 den,.vs tt z l.length 2 (fun k=>enc2 (l.getD k default))],⟨⟨rfl,rfl⟩,⟨rfl,rfl⟩,⟨id,rfl,rfl,rfl,hg⟩,trivial⟩,?_⟩
   dsimp only[v48,YqE,prodC,enc2,go_sem,reduceIte]
   simp only[Yc,YBi,YBk,reduceCtorEq,YBj]
   refine⟨l,⟨⟨rfl,rfl,fun k _=>Ye _⟩,hn1,hn⟩,by decide,by decide,by decide,fun hc=>?_,fun hc=>?_⟩
   . rw[pspF,if_pos hc]at h;exact YdD h
   . rw[pspF,if_neg (by rw[hc];decide)]at h;exact YdD h
 . exact h.1.elim
def v61:VF:=⟨23,[.tmp 2],(ZR [u1 1 .box [.tm 0],Zi 2 0] (.seq (ZR [Za 3 0 1,Zf 4 1 3,Zq 5 .lss 4 100000,Zm 6 5,Zj 7 6 false 0 1,Zh 8 6 false 1 7,u2 9 6 false (.cmp .gtr) [.tm 8,.cn (.int .i64 1000000)],u1 10 .or [.tm 6,.tm 9],Zm 11 10,Zj 12 11 false 1 1,Zh 13 11 false 1 12,u2 14 11 false (.call 47) [.tm 13],u2 15 11 false .not [.tm 14],u1 16 .or [.tm 11,.tm 15],Zm 17 16,Zj 18 17 false 2 1,Zh 19 17 false 1 18,u2 20 17 false (.call 47) [.tm 19],u2 21 17 false .not [.tm 20],u1 22 .or [.tm 17,.tm 21]] (ZC 22 (ZR [Zi 2 2] .ret) .skip)) (ZR [Zi 2 0] .ret)))⟩
theorem YAC:Yg YBm Tryz.f61=some v61:=by kernel_rfl
def v51:VF:=⟨77,[.tmp 4,.tmp 5],(ZR [u1 4 .mov [.cn .nil],Zi 5 0] (.seq (.draw [(6,.box [(.int .i64 0),(.int .i64 0),(.int .i64 0),(.int .i64 0),(.int .i64 0),(.int .i64 0),(.int .i64 0)])] [Zu 13 0,w1 14 .nilCheck [.tm 13],Zy 15 3 14,Zv 16 1 15,Zu 17 1,w1 18 .rem [.tm 17,.cn (.int .i64 12)],ZX 19 7 16 18,Zw 20 7 19,Zu 21 0,w1 22 .nilCheck [.tm 21],Zy 23 3 22,Zv 24 1 23,w1 25 (.idxAddr 7) [.tm 24,.cn (.int .i64 9)],Zw 26 7 25,Zz 27 72 20 26,Zu 12 27,ZE 28 0 12,ZE 29 1 12,ZS 7 6 28,Zu 7 29]) (ZR [Zt 31 7 6,Zc 32 73 31,Zm 30 32,Ze 33 0 30,Ze 34 1 30,Ze 35 2 30,Zm 8 33,Zm 9 34,Zm 10 35] (.seq (ZR [Zm 36 8,Zl 37 36,Zi 38 0] (.block 0 (.loop (ZR [Zr 39 .lss 38 37] (.seq (ZC 39 .skip (.exit 0)) (.seq (.block 1 (ZR [Zm 40 38,Zm 11 40] (.region [Zm 41 8,Zm 42 11,Zx 43 2 41 42,Za 44 1 43,Zf 45 1 44,u1 46 (.ari .mul) [.tm 45,.cn (.int .i64 2)],Zx 47 2 41 42,Za 48 1 47,Zs 1 48 46]))) (.region [Zp 49 38 1,Zm 38 49]))))))) (.seq (.draw [] [Zu 50 8,Zu 51 9,w1 52 (.ari .mul) [.cn (.int .i64 2),.tm 51],Zu 53 1,w1 54 .quo [.tm 53,.cn (.int .i64 12)],w1 55 (.ari .sub) [.tm 54,.cn (.int .i64 5)],w1 56 (.ari .mul) [.tm 52,.tm 55],w1 57 (.build [(.int .i64 0),(.int .i64 0)] [(0,1),(1,1)]) [.cn (.int .i64 2),.tm 56],Zu 58 0,w1 59 .nilCheck [.tm 58],Zy 60 0 59,Zy 61 2 60,Zv 62 1 61,Zu 63 9,Zu 65 0,w1 66 .nilCheck [.tm 65],Zy 67 0 66,Zy 68 1 67,Zv 69 1 68,Zu 70 9,w1 71 .neg [.tm 70],Zu 75 9,w1 76 (.ari .mul) [.cn (.int .i64 2),.tm 75],Zz 64 49 62 63,Zz 72 49 69 71,w1 73 (.buildSlice 2 3 [(.int .i64 0),(.int .i64 0)] [(0,2),(2,2),(4,2)]) [.tm 57,.tm 64,.tm 72],⟨u1 74 (.append 2 16 [(.int .i64 0),(.int .i64 0)]) [.tm 50,.tm 73],[.tm 9,.tm 75,.tm 75,.tm 76]⟩,Zu 4 74,Zu 5 76]) .ret)))))⟩
theorem YAx:Yg YBm Tryz.f51=some v51:=by kernel_rfl
def chkS(a t0 t:Int):Int:=if a<100000\/1000000<a\/YcA t0=false\/YcA t=false then 2 else 0
def chkSC:Ctr:={ alias:=false,of:=fun l=>match l with
 | [.agg [.int .i64 a,.int .i64 t0,.int .i64 t]]=> .fin (.int .i64 (chkS a t0 t)) []
 |_=>noC}
def dblT(x:Int×Int):Int×Int:=(x.1,x.2*2)
def Yj8(L:Nat->Rt)(note:Int):Rt:=(Ya7 (L (note%12).toNat) (L 9) (-1)).1
def trmL(r:Rt):List (Int×Int):=if chkR r=0 then Yy r else []
def trmD(r:Rt):Int:=if chkR r=0 then r.n else 0
def YeP(L:Nat->Rt)(t0 t note:Int):List (Int×Int)×Int:=
 ((trmL (Yj8 L note)).map dblT++[(2,2*trmD (Yj8 L note)*(note/12-5)),(273150+t,trmD (Yj8 L note)),(273150+t0, -trmD (Yj8 L note))],2*trmD (Yj8 L note))
def dblA(l:List (Int×Int))(i k:Nat):Int×Int:=if k<i then dblT (l.getD k default)else l.getD k default
theorem Ynh{r:Rt}(h:chkR r=0):∀x,x∈Yy r-> -100000<=x.2/\x.2<=100000:=by
 obtain⟨_,h1,h2,h3,h4,h5,h6,_⟩:=Yk0 h
 have key:∀(p n:Int),badN n=false->∀x,x∈tm1 p n-> -100000<=x.2/\x.2<=100000:=fun p n hn x hx=>by
   unfold tm1 at hx
   split at hx
   . cases hx
   . rw[List.mem_singleton]at hx;subst hx;exact Yd4 hn
 intro x hx
 simp only[Yy,YBR]at hx
 rcases hx with hx|hx|hx|hx|hx|hx
 . exact key _ _ h1 x hx
 . exact key _ _ h2 x hx
 . exact key _ _ h3 x hx
 . exact key _ _ h4 x hx
 . exact key _ _ h5 x hx
 . exact key _ _ h6 x hx
theorem YmE{a b c d e f:Int}{k:Nat}(hk:k<3):lenL (Ys 2 (Ym (k*2) [SV.int .i64 a,SV.int .i64 b,SV.int .i64 c,SV.int .i64 d,SV.int .i64 e,SV.int .i64 f]))=2/\ones (Ys 2 (Ym (k*2) [SV.int .i64 a,SV.int .i64 b,SV.int .i64 c,SV.int .i64 d,SV.int .i64 e,SV.int .i64 f])):=by
 rcases(show k=0\/k=1\/k=2 by omega)with rfl|rfl|rfl <;> exact⟨rfl,trivial,trivial,trivial⟩
def termC:Ctr:={ alias:=false,of:=fun l=>match l with
 | [.xp _ [.int .i64 _,.int .i64 t0,.int .i64 t,.vs _ _ n sz get],.int .i64 note]=> .ex (Nat->Rt) fun L=> .pre ((n=12/\sz=7/\∀k,k<12->leXL (get k) (encR (L k)))/\(0<=note/\note<=139)/\YcA t0=true/\YcA t=true)
     (.fin (.tup [.vs true false (YeP L t0 t note).1.length 2 (fun k=>enc2 ((YeP L t0 t note).1.getD k default)),.int .i64 (YeP L t0 t note).2]) [])
 |_=>noC}
def valdC:Ctr:={ alias:=false,of:=fun l=>match l with
 | [.int .i64 t]=> .fin (.bool (YcA t)) []
 |_=> .pre False (.fin (.bool false) [])}
def TIv:Env:={ ct:=fun _=>none,fn:=fun _=>none,meth:=fun _ _=>none}
theorem YnK:Yn YBm TIv:=by
 refine⟨fun f c h=>?_,fun f vf h=>?_,(fun _ _ _ h=>by cases h),by kernel_rfl,(fun _ h=>by cases h)⟩
 . cases h
 . cases h
theorem YBb:valdC.ok YBm 47:=by
 refine Yb Tryz.func47 YAu YnK 300 valdC fun args k h=>?_
 simp only[valdC]at h
 split at h
 . rename_i t
   refine⟨[.int .i64 t],by simp [leL,le],?_⟩
   dsimp only[v47,go_sem,reduceIte,YBi]
   simp only[Yc,YBi,YBk,reduceCtorEq,YBj]
   exact YN h
 . exact h.1.elim
def TI0:Env:={ ct:=fun n=>match n with|47=>some valdC|_=>none,fn:=fun _=>none,meth:=fun _ _=>none}
theorem YqO:TI0.ct 47=some valdC:=rfl
theorem Yxb:Yn YBm TI0:=by
 refine⟨fun f c h=>?_,fun f vf h=>?_,(fun _ _ _ h=>by cases h),by kernel_rfl,(fun _ h=>by cases h)⟩
 . simp only[TI0]at h
   split at h
   . cases h;exact⟨YBb,Tryz.f47,Tryz.func47,by kernel_rfl,by kernel_rfl⟩
   . cases h
 . cases h
theorem YsI:chkSC.ok YBm 61:=by
 refine Yb Tryz.func61 YAC Yxb 300 chkSC fun args k h=>?_
 simp only[chkSC]at h
 split at h
 . rename_i a t0 t
   refine⟨[.agg [.int .i64 a,.int .i64 t0,.int .i64 t]],by simp [leL,le],?_⟩
   dsimp only[v61,YqO,valdC,go_sem,reduceIte,YBi]
   simp only[Yc,YBi,YBk,reduceCtorEq,YBj]
   have h:k (.int .i64 (chkS a t0 t)) []:=h
   refine⟨fun hc=>?_,fun hc=>?_⟩
   . rw[chkS,if_pos (by simpa [or_assoc]using hc)]at h;exact Yj h
   . rw[chkS,if_neg (by simpa [or_assoc,and_assoc]using hc)]at h;exact Yj h
 . exact h.1.elim
def warmC:Ctr:={ alias:=false,of:=fun l=>match l with
 | [.int .i64 t,.int .i64 num]=> .pre (YcA t=true) (.fin (.agg [.int .i64 (273150+t),.int .i64 num]) [])
 |_=>noC}
theorem Ysp{t:Int}(h:YcA t=true): -20000<=t/\t<=50000:=by simpa [YcA]using h
theorem YBd:warmC.ok YBm 49:=by
 refine Yb Tryz.func49 YAw YnK 300 warmC fun args k h=>?_
 simp only[warmC]at h
 split at h
 . rename_i t num
   obtain⟨ht,h⟩:=h
   have ht:=Ysp ht
   refine⟨[.int .i64 t,.int .i64 num],by simp [leL,le],?_⟩
   dsimp only[v49,go_sem,reduceIte,YBi]
   simp only[Yc,YBi,YBk,reduceCtorEq,YBj]
   rw[YBn (273150+t) (by omega)]
   exact YdD h
 . exact h.1.elim
def TI1:Env:={ ct:=fun n=>match n with|72=>some Y2|73=>some trmC|49=>some warmC|_=>none,fn:=fun _=>none,meth:=fun _ _=>none}
theorem Yd1:TI1.ct 72=some Y2:=rfl
theorem Yd2:TI1.ct 73=some trmC:=rfl
theorem Yd0:TI1.ct 49=some warmC:=rfl
theorem Yxc:Yn YBm TI1:=by
 refine⟨fun f c h=>?_,fun f vf h=>?_,(fun _ _ _ h=>by cases h),by kernel_rfl,(fun _ h=>by cases h)⟩
 . simp only[TI1]at h
   split at h
   . cases h;exact⟨YoH,Tryz.f72,Tryz.func72,by kernel_rfl,by kernel_rfl⟩
   . cases h;exact⟨YvG,Tryz.f73,Tryz.func73,by kernel_rfl,by kernel_rfl⟩
   . cases h;exact⟨YBd,Tryz.f49,Tryz.func49,by kernel_rfl,by kernel_rfl⟩
   . cases h
 . cases h
theorem Yz2:termC.ok YBm 51:=by
 refine Yb Tryz.func51 YAx Yxc 600 termC fun args k h=>?_
 simp only[termC]at h
 split at h
 . rename_i tt a t0 t tv zv n sz get note
   obtain⟨L,⟨⟨rfl,rfl,hg⟩,hn,h0,h1⟩,h⟩:=h
   refine⟨[.xp tt [.int .i64 a,.int .i64 t0,.int .i64 t,.vs tv zv 12 7 (fun k=>encR (L k))],.int .i64 note],?_,?_⟩
   . simp only[Yfv,Yix,YrV,Ymc,and_true,true_and]
     exact⟨id,⟨rfl,rfl⟩,⟨rfl,rfl⟩,⟨rfl,rfl⟩,⟨id,rfl,rfl,rfl,hg⟩,trivial⟩
   dsimp only[v51,Yal,Yd1,Yd2,Y2,YbX,trmC,encR,Yd0,warmC,go_sem,reduceIte,YBi]
   simp only[Yc,YBi,YBk,reduceCtorEq,YBj]
   obtain⟨m,rfl⟩:∃m:Nat,note=(m:Int):=⟨note.toNat,by omega⟩
   have em:(m:Int).tmod 12=((m%12:Nat):Int):=by rw[Int.tmod_eq_emod_of_nonneg (by omega)];omega
   simp only[em,YBo]
   obtain⟨r,hr⟩:∃r,r=Yj8 L m:=⟨_,rfl⟩
   have hr':(Ya7 (L (m%12)) (L (Int.toNat 9)) (-1)).1=r:=by rw[hr,Yj8,show((m:Int)%12).toNat=m%12 by omega];rfl
   simp only[hr']
   refine⟨by decide,⟨by omega,by omega⟩,by decide,by decide,by decide,?_⟩
   by_cases hc:chkR r=0
   . rw[if_neg (fun hh=>hh hc)]
     dsimp only[Yal,Yd1,Yd2,Y2,YbX,trmC,encR,Yd0,warmC,go_sem,reduceIte,YBi]
     simp only[Yc,YBi,YBk,reduceCtorEq,YBj]
     intro z
     refine⟨by decide,by decide,by decide,?_⟩
     have hlen:=Ydr r
     refine Loop.keep [0,0,2,0,2,0,27] Nat (fun i=>[(38,.int .i64 i)]) (fun i=>[(2,.own z 2 (Yy r).length (fun k=>enc2 (dblA (Yy r) i k)))]) [] (fun i=>i<=(Yy r).length) (fun i=>(Yy r).length-i) ?_ ?_
     . refine⟨0,Nat.zero_le _,?_⟩
       dsimp only[enc2,go_sem,reduceIte,YBi]
       simp only[Ya]
       refine⟨⟨by decide,rfl⟩,fun k hk=>?_⟩
       rw[dblA,if_neg (Nat.not_lt_zero _)]
       exact⟨rfl,rfl⟩
     . rintro i hi
       dsimp only[Yal,Yd1,Yd2,Y2,YbX,trmC,encR,Yd0,warmC,enc2,YBo,go_sem,reduceIte,YBi]
       simp only[Yc,YBi,YBk,reduceCtorEq,YBj]
       refine⟨fun hlt=>?_,fun hge=>?_⟩
       . have hil:i<(Yy r).length:=by omega
         have hx:=Ynh hc _ (YI hil)
         have ei:dblA (Yy r) i i=(Yy r).getD i default:=if_neg (Nat.lt_irrefl _)
         rw[ei,YBn (((Yy r).getD i default).2*2) (by omega),Ye9 hil (by omega)]
         refine⟨⟨by omega,by omega⟩,hil,⟨by omega,by omega⟩,hil,i+1,by omega,by omega,?_⟩
         simp only[Ya]
         refine⟨by decide,fun k hk=>?_⟩
         by_cases hki:k=i
         . subst hki
           rw[if_pos rfl,dblA,if_pos (by omega)]
           exact⟨⟨rfl,rfl⟩,⟨rfl,rfl⟩,trivial⟩
         . rw[if_neg hki]
           have:dblA (Yy r) (i+1) k=dblA (Yy r) i k:=by
             unfold dblA
             by_cases h1:k<i
             . rw[if_pos h1,if_pos (by omega)]
             . rw[if_neg h1,if_neg (by omega)]
           rw[this]
           exact⟨⟨rfl,rfl⟩,⟨rfl,rfl⟩,trivial⟩
       . obtain rfl:i=(Yy r).length:=by omega
         have hd:=Yd6 hc
         have e1:IntKind.i64.wrap (2*r.n)=2*r.n:=YBn _ (by omega)
         have e2:IntKind.i64.wrap (IntKind.i64.wrap ((m:Int).tdiv 12)-5)=(m:Int)/12-5:=by
           rw[Int.tdiv_eq_ediv_of_nonneg (by omega),YBn ((m:Int)/12) (by omega),YBn _ (by omega)]
         have hm:=YaX (x:=2*r.n) (y:=(m:Int)/12-5) (X:=2000) (Y:=20) (by omega) (by omega)
         have e3:IntKind.i64.wrap (2*r.n*((m:Int)/12-5))=2*r.n*((m:Int)/12-5):=YBn _ (by omega)
         have e4:IntKind.i64.wrap (0-r.n)= -r.n:=by rw[YBn _ (by omega)];omega
         rw[e1,e2,e3,e4]
         refine⟨by decide,h1,h0,by decide,⟨by unfold YV;omega,fun k hk=>YmE hk⟩,?_⟩
         have hT:YeP L t0 t m=((Yy r).map dblT++[(2,2*r.n*((m:Int)/12-5)),(273150+t,r.n),(273150+t0, -r.n)],2*r.n):=by
           rw[YeP,<-hr,trmL,if_pos hc,trmD,if_pos hc]
         refine YC (show k _ []from h) ?_ (fun _=>by simp [Yk,Yo,enc2])
         rw[hT]
         dsimp only[expo,go_sem,reduceIte,YBi]
         simp only[Ya]
         refine⟨by simp,by simp,fun q hq=>?_⟩
         by_cases h2:q<(Yy r).length
         . simp only[if_pos h2,dblA]
           rw[Ybi (by simpa using h2),Ypt h2]
           exact Ye _
         . simp only[if_neg h2]
           rw[Ybj (by simp;omega),List.length_map]
           rcases(show q-(Yy r).length=0\/q-(Yy r).length=1\/q-(Yy r).length=2 by omega)with e|e|e <;> (rw[e];exact Ye _)
   . rw[if_pos hc]
     dsimp only[Yal,Yd1,Yd2,Y2,YbX,trmC,encR,Yd0,warmC,go_sem,reduceIte,YBi]
     simp only[Yc,YBi,YBk,reduceCtorEq,YBj]
     refine⟨by decide,by decide,by decide,?_⟩
     refine Loop.keep [0,0,2,0,2,0,27] Nat (fun i=>[(38,.int .i64 i)]) (fun _=>[]) [] (fun i=>i=0) (fun i=>i) ?_ ?_
     . refine⟨0,rfl,?_⟩
       dsimp only[go_sem,reduceIte,YBi]
       simp only[Ya]
       rfl
     . rintro i rfl
       dsimp only[Yal,Yd1,Yd2,Y2,YbX,trmC,encR,Yd0,warmC,enc2,YBo,go_sem,reduceIte,YBi]
       simp only[Yc,YBi,YBk,reduceCtorEq,YBj]
       have e2:IntKind.i64.wrap (IntKind.i64.wrap ((m:Int).tdiv 12)-5)=(m:Int)/12-5:=by
         rw[Int.tdiv_eq_ediv_of_nonneg (by omega),YBn ((m:Int)/12) (by omega),YBn _ (by omega)]
       have e3:IntKind.i64.wrap (IntKind.i64.wrap (2*0)*((m:Int)/12-5))=2*0*((m:Int)/12-5):=by
         rw[show IntKind.i64.wrap (2*0)=0 by decide,Int.mul_zero,Int.zero_mul];decide
       rw[e2,e3]
       refine⟨fun hh=>absurd hh (by decide),fun _=>⟨by decide,h1,h0,by decide,⟨by unfold YV;omega,fun k hk=>YmE hk⟩,?_⟩⟩
       have hT:YeP L t0 t m=([(2,2*0*((m:Int)/12-5)),(273150+t,0),(273150+t0, -0)],2*0):=by
         rw[YeP,<-hr,trmL,if_neg hc,trmD,if_neg hc];rfl
       refine YC (show k _ []from h) ?_ (fun _=>by simp [Yk,Yo,enc2])
       rw[hT]
       dsimp only[expo,go_sem,reduceIte,YBi]
       simp only[Ya]
       refine⟨⟨by decide,rfl,fun q hq=>?_⟩,by decide⟩
       rw[show IntKind.i64.wrap (0-0)= -0 by decide]
       rcases(show q=0\/q=1\/q=2 by omega)with rfl|rfl|rfl <;> exact Ye _
 . exact h.1.elim
def v45:VF:=⟨19,[.cell 6 true 2],(ZR [Zn 6] (ZR [Zm 10 0,Zm 11 1,Zd 12 51 10 11,Zm 9 12,Ze 13 0 9,Ze 14 1 9,Zm 7 13,Zm 8 14] (ZR [Zm 15 2,Zm 16 8,Zm 17 7,u1 18 (.call 48) [.tm 15,.tm 16,.tm 17],Zs 2 6 18] .ret)))⟩
theorem YAs:Yg YBm Tryz.f45=some v45:=by kernel_rfl
def v43:VF:=⟨31,[.cell 8 true 2,.tmp 9],(ZR [u1 4 .box [.tm 0],u1 5 .box [.tm 1],Zn 8,Zi 9 0] (ZR [Zt 13 3 4,Zt 14 27 5,Zd 15 53 13 14,Zm 12 15,Ze 16 0 12,Ze 17 1 12,Zm 10 16,Zm 11 17] (.seq (.block 0 (ZR [Zm 19 11,Zq 20 .neq 19 0,Zm 18 20] (ZC 18 (ZR [u1 21 (.build [(.int .i64 0),(.int .i64 0)] []) [],Zm 22 11,Zs 2 8 21,Zm 9 22] .ret) (ZR [Zm 24 2,Zc 25 77 24,u1 26 .not [.tm 25],Zm 23 26] (ZC 23 (ZR [u1 27 (.build [(.int .i64 0),(.int .i64 0)] []) [],Zs 2 8 27,Zi 9 2] .ret) .skip))))) (ZR [Zm 28 3,Zm 29 10,u1 30 .callv [.tm 28,.tm 29],Zs 2 8 30,Zi 9 0] .ret))))⟩
theorem YAr:Yg YBm Tryz.f43=some v43:=by kernel_rfl
def v53:VF:=⟨26,[.tmp 4,.tmp 5],(ZR [u1 2 .box [.tm 0],u1 3 .box [.tm 1],u1 4 .mov [.cn (.val (.pointer none))],Zi 5 0] (.seq (ZR [Zt 9 3 2,Zc 10 61 9,Zm 6 10] (ZR [Zm 11 6,Zq 12 .neq 11 0] (ZC 12 (ZR [Zm 13 6,u1 4 .mov [.cn (.val (.pointer none))],Zm 5 13] .ret) .skip))) (ZR [Zt 15 27 3,Zc 16 29 15,Zm 14 16,Ze 17 0 14,Ze 18 1 14,Zm 7 17,Zm 8 18] (.seq (ZR [Zm 19 8,Zq 20 .neq 19 0] (ZC 20 (ZR [Zm 21 8,u1 4 .mov [.cn (.val (.pointer none))],Zm 5 21] .ret) .skip)) (ZR [Zt 22 3 2,Zm 23 7,u1 24 (.build [(.int .i64 0),(.int .i64 0),(.int .i64 0),.nil] [(0,3),(3,1)]) [.tm 22,.tm 23],u1 25 .box [.tm 24],Zm 4 25,Zi 5 0] .ret)))))⟩
theorem YAy:Yg YBm Tryz.f53=some v53:=by kernel_rfl
def v77:VF:=⟨9,[.tmp 2],(ZR [u1 2 .mov [.cn (.bool false)]] (ZR [Zm 3 0,Zq 4 .geq 3 0,Zm 5 4,Zg 6 5 true 0,u2 7 5 true (.cmp .leq) [.tm 6,.cn (.int .i64 139)],u1 8 .and [.tm 5,.tm 7],Zm 2 8] .ret))⟩
theorem YAQ:Yg YBm Tryz.f77=some v77:=by kernel_rfl
def v46:VF:=⟨11,[.cell 4 true 2],(ZR [Zn 4] (ZR [Zm 5 0,Zf 6 1 1,Za 7 0 2,Zf 8 1 7,u1 9 (.ari .mul) [.cn (.int .i64 1000),.tm 8],u1 10 (.call 45) [.tm 5,.tm 6,.tm 9],Zs 2 4 10] .ret))⟩
theorem YAt:Yg YBm Tryz.f46=some v46:=by kernel_rfl
def v22:VF:=⟨15,[.cell 6 true 2,.tmp 7],(ZR [u1 3 .box [.tm 0],u1 4 .box [.tm 1],u1 5 .box [.tm 2],Zn 6,Zi 7 0] (ZR [Zt 8 3 3,Zt 9 27 4,Zf 10 1 5,u1 11 (.mkfn (.func 46) 0) [.tm 5,.tm 3],u1 12 (.call 43) [.tm 8,.tm 9,.tm 10,.tm 11],Ze 13 0 12,Ze 14 1 12,Zs 2 6 13,Zm 7 14] .ret))⟩
theorem YAd:Yg YBm Tryz.f22=some v22:=by kernel_rfl
theorem YaD(T:Tm):Ys 27 (encT T)=encT T:=rfl
theorem lenT(T:Tm):lenL (encT T)=27:=rfl
def Yue(L:Nat->Rt)(t0 t note u:Int):Int×Int:=pspF u (YeP L t0 t note).1 (YeP L t0 t note).2
def freqC:Ctr:={ alias:=false,of:=fun l=>match l with
 | [.xp _ [.int .i64 _,.int .i64 t0,.int .i64 t,.vs _ _ n sz get],.int .i64 note,.int .i64 u]=> .ex (Nat->Rt) fun L=> .pre ((n=12/\sz=7/\∀k,k<12->leXL (get k) (encR (L k)))/\(0<=note/\note<=139)/\YcA t0=true/\YcA t=true)
     (.fin (.agg [.int .i64 (Yue L t0 t note u).1,.int .i64 (Yue L t0 t note u).2]) [])
 |_=>noC}
theorem Yqb(L:Nat->Rt)(t0 t note:Int):3<=(YeP L t0 t note).1.length/\(YeP L t0 t note).1.length<=9:=by
 have:(trmL (Yj8 L note)).length<=6:=by
   unfold trmL;split
   . exact Ydr _
   . simp
 simp only[YeP,YBI,List.length_map,List.length_cons,List.length_nil]
 omega
def TJ0:Env:={ ct:=fun n=>match n with|51=>some termC|48=>some pspC|_=>none,fn:=fun _=>none,meth:=fun _ _=>none}
theorem YqQ:TJ0.ct 51=some termC:=rfl
theorem YqP:TJ0.ct 48=some pspC:=rfl
theorem Yxd:Yn YBm TJ0:=by
 refine⟨fun f c h=>?_,fun f vf h=>?_,(fun _ _ _ h=>by cases h),by kernel_rfl,(fun _ h=>by cases h)⟩
 . simp only[TJ0]at h
   split at h
   . cases h;exact⟨Yz2,Tryz.f51,Tryz.func51,by kernel_rfl,by kernel_rfl⟩
   . cases h;exact⟨psp_c,Tryz.f48,Tryz.func48,by kernel_rfl,by kernel_rfl⟩
   . cases h
 . cases h
theorem Yx9:freqC.ok YBm 45:=by
 refine Yb Tryz.func45 YAs Yxd 600 freqC fun args k h=>?_
 simp only[freqC]at h
 split at h
 . rename_i tt a t0 t tv zv n sz get note u
   obtain⟨L,⟨⟨rfl,rfl,hg⟩,hn,h0,h1⟩,h⟩:=h
   refine⟨[.xp tt [.int .i64 a,.int .i64 t0,.int .i64 t,.vs tv zv 12 7 (fun k=>encR (L k))],.int .i64 note,.int .i64 u],?_,?_⟩
   . simp only[Yfv,Yix,YrV,Ymc,and_true,true_and]
     exact⟨id,⟨rfl,rfl⟩,⟨rfl,rfl⟩,⟨rfl,rfl⟩,⟨id,rfl,rfl,rfl,hg⟩,trivial⟩
   have hl:=Yqb L t0 t note
   dsimp only[v45,YqQ,YqP,termC,pspC,go_sem,reduceIte,YBi]
   simp only[Yc,YBi,YBk,reduceCtorEq,YBj]
   refine⟨L,⟨fun q _=>Ye _,hn,h0,h1⟩,by decide,by decide,(YeP L t0 t note).1,⟨⟨rfl,rfl,fun q _=>Ye _⟩,by omega,by omega⟩,?_⟩
   exact YdD (show k _ []from h)
 . exact h.1.elim
theorem YxW{a t0 t:Int}(h:chkS a t0 t=0):(100000<=a/\a<=1000000)/\YcA t0=true/\YcA t=true:=by
 unfold chkS at h
 split at h
 . cases h
 . rename_i hn
   simp only[not_or,Bool.not_eq_false]at hn
   exact⟨by omega,hn.2.2.1,hn.2.2.2⟩
def Yke(u a t0 t:Int)(T:Tm)(note:Int):(Int×Int)×Int:=
 if chkS a t0 t≠0 then((0,0),chkS a t0 t)else if YbM T≠0 then((0,0),YbM T)else if note<0\/139<note then((0,0),2)
 else(Yue (Ycz T) t0 t note u,0)
def micC:Ctr:={ alias:=false,of:=fun l=>match l with
 | [.agg [.int .i64 a,.int .i64 t0,.int .i64 t],.agg cs,.int .i64 note]=> .ex Tm fun T=> .pre (cs=encT T/\T.nm.size<=9223372036854775807) (.fin (.tup [.agg [.int .i64 (Yke (1000*a) a t0 t T note).1.1,.int .i64 (Yke (1000*a) a t0 t T note).1.2],.int .i64 (Yke (1000*a) a t0 t T note).2]) [])
 |_=>noC}
def TJ1:Env:={ ct:=fun n=>match n with|45=>some freqC|61=>some chkSC|29=>some NotC|_=>none,fn:=fun n=>match n with|43=>some v43|53=>some v53|77=>some v77|46=>some v46|_=>none,meth:=fun _ _=>none}
theorem YhD:TJ1.ct 45=some freqC:=rfl
theorem YhG:TJ1.ct 61=some chkSC:=rfl
theorem YhB:TJ1.ct 29=some NotC:=rfl
theorem YhC:TJ1.ct 43=none:=rfl
theorem YhI:TJ1.fn 43=some v43:=rfl
theorem YhF:TJ1.ct 53=none:=rfl
theorem YhK:TJ1.fn 53=some v53:=rfl
theorem YhH:TJ1.ct 77=none:=rfl
theorem YhL:TJ1.fn 77=some v77:=rfl
theorem YhE:TJ1.ct 46=none:=rfl
theorem YhJ:TJ1.fn 46=some v46:=rfl
theorem Yxe:Yn YBm TJ1:=by
 refine⟨fun f c h=>?_,fun f vf h=>?_,(fun _ _ _ h=>by cases h),by kernel_rfl,(fun _ h=>by cases h)⟩
 . simp only[TJ1]at h
   split at h
   . cases h;exact⟨Yx9,Tryz.f45,Tryz.func45,by kernel_rfl,by kernel_rfl⟩
   . cases h;exact⟨YsI,Tryz.f61,Tryz.func61,by kernel_rfl,by kernel_rfl⟩
   . cases h;exact⟨Ytl,Tryz.f29,Tryz.func29,by kernel_rfl,by kernel_rfl⟩
   . cases h
 . simp only[TJ1]at h
   split at h
   . cases h;exact⟨Tryz.f43,Tryz.func43,YAr,Tryz.f43,Tryz.func43,by kernel_rfl,by kernel_rfl⟩
   . cases h;exact⟨Tryz.f53,Tryz.func53,YAy,Tryz.f53,Tryz.func53,by kernel_rfl,by kernel_rfl⟩
   . cases h;exact⟨Tryz.f77,Tryz.func77,YAQ,Tryz.f77,Tryz.func77,by kernel_rfl,by kernel_rfl⟩
   . cases h;exact⟨Tryz.f46,Tryz.func46,YAt,Tryz.f46,Tryz.func46,by kernel_rfl,by kernel_rfl⟩
   . cases h
theorem YyE:micC.ok YBm 22:=by
 refine Yb Tryz.func22 YAd Yxe 900 micC fun args k h=>?_
 simp only[micC]at h
 split at h
 . rename_i a t0 t cs note
   obtain⟨T,⟨rfl,hnm⟩,h⟩:=h
   refine⟨[.agg [.int .i64 a,.int .i64 t0,.int .i64 t],.agg (encT T),.int .i64 note],⟨⟨⟨rfl,rfl⟩,⟨rfl,rfl⟩,⟨rfl,rfl⟩,trivial⟩,Yd _ (Yt T _),⟨rfl,rfl⟩,trivial⟩,?_⟩
   dsimp only[v22,YaD,lenT,YhD,freqC,YhG,chkSC,YhB,NotC,YhC,YhI,v43,YhF,YhK,v53,YhH,YhL,v77,YhE,YhJ,v46,go_sem,reduceIte,YBi]
   simp only[Yc,YBi,YBk,reduceCtorEq,YBj]
   refine⟨Ybr T,Ybr T,Ybr T,fun hs=>?_,fun hs=>⟨T,⟨rfl,hnm⟩,?_⟩⟩
   . rw[Yke,if_pos hs]at h
     exact⟨by decide,by decide,fun _=>⟨by decide,by decide,Ycg (show k _ []from h)⟩,fun hh=>absurd hh hs⟩
   . rw[Yke,if_neg (fun hh=>hh hs)]at h
     by_cases hT:YbM T=0
     . rw[if_neg (fun hh=>hh hT)]at h⊢
       dsimp only[YaD,lenT,YhD,freqC,YhG,chkSC,YhB,NotC,YhC,YhI,v43,YhF,YhK,v53,YhH,YhL,v77,YhE,YhJ,v46,go_sem,reduceIte,YBi]
       simp only[Yc,YBi,YBk,reduceCtorEq,YBj]
       refine⟨by decide,by decide,fun hh=>absurd trivial hh,?_⟩
       obtain⟨ha,hb0,hb1⟩:=YxW hs
       rw[YBn (1000*a) (by omega)]
       refine⟨by decide,by decide,fun hh=>absurd trivial hh,fun hc=>?_,fun hc=>⟨Ycz T,⟨fun q _=>Ye _,?_,hb0,hb1⟩,by decide,by decide,?_⟩⟩
       . have hc:note<0\/139<note:=by simp only[Bool.and_eq_false_iff,decide_eq_false_iff_not]at hc;omega
         rw[if_pos hc]at h
         exact⟨by decide,by decide,Ycg (show k _ []from h)⟩
       . simpa using hc
       . have hc:0<=note/\note<=139:=by simpa using hc
         rw[if_neg (by omega)]at h
         exact Ycg (show k _ []from h)
     . rw[if_pos hT]at h⊢
       dsimp only[YaD,lenT,YhD,freqC,YhG,chkSC,YhB,NotC,YhC,YhI,v43,YhF,YhK,v53,YhH,YhL,v77,YhE,YhJ,v46,go_sem,reduceIte,YBi]
       simp only[Yc,YBi,YBk,reduceCtorEq,YBj]
       exact⟨by decide,by decide,fun _=>⟨by decide,by decide,fun _=>⟨by decide,by decide,Ycg (show k _ []from h)⟩,fun hh=>absurd hh hT⟩,fun hh=>absurd hh hT⟩
 . exact h.1.elim
abbrev Iv:=Int×Int
def YcC(x:Int):Bool:=decide (-4611686018427387904<=x)&&decide (x<=4611686018427387904)
def ivE(l:List Iv):Int:=if l.all (fun a=>YcC a.1&&YcC a.2)then(if l.all (fun a=>decide (a.1<=a.2))then 0 else 2)else 7
theorem Yuw{l:List Iv}{i:Nat}(h:i<l.length)(hb:(YcC (l.getD i default).1&&YcC (l.getD i default).2)=false):ivE l=7:=by
 rw[ivE,if_neg]
 intro hall
 have:=List.all_eq_true.1 hall _ (YI h)
 rw[hb]at this;cases this
theorem ivE_2{l:List Iv}(ha:∀j,j<l.length->(YcC (l.getD j default).1&&YcC (l.getD j default).2)=true){i:Nat}(h:i<l.length)(hb:(l.getD i default).2<(l.getD i default).1):ivE l=2:=by
 rw[ivE,if_pos,if_neg]
 . intro hall
   have:=List.all_eq_true.1 hall _ (YI h)
   simp only[decide_eq_true_eq]at this;omega
 . refine List.all_eq_true.2 fun x hx=>?_
   obtain⟨j,hj,rfl⟩:=YiD hx
   exact ha j hj
theorem ivE_0{l:List Iv}(ha:∀j,j<l.length->(YcC (l.getD j default).1&&YcC (l.getD j default).2)=true)(hb:∀j,j<l.length->(l.getD j default).1<=(l.getD j default).2):ivE l=0:=by
 rw[ivE,if_pos,if_pos]
 . refine List.all_eq_true.2 fun x hx=>?_
   obtain⟨j,hj,rfl⟩:=YiD hx
   simpa using hb j hj
 . refine List.all_eq_true.2 fun x hx=>?_
   obtain⟨j,hj,rfl⟩:=YiD hx
   exact ha j hj
theorem numOk_iff{x:Int}:YcC x=true↔ -4611686018427387904<=x/\x<=4611686018427387904:=by
 simp [YcC]
theorem ivE1{a:Iv}(h:ivE [a]=0):(-4611686018427387904<=a.1/\a.1<=4611686018427387904)/\(-4611686018427387904<=a.2/\a.2<=4611686018427387904)/\a.1<=a.2:=by
 unfold ivE at h
 split at h
 . rename_i h1
   split at h
   . rename_i h2
     simp only[List.all_cons,List.all_nil,Bool.and_true,YBq,decide_eq_true_eq]at h1 h2
     exact⟨numOk_iff.1 h1.1,numOk_iff.1 h1.2,h2⟩
   . cases h
 . cases h
theorem ivE2{a b:Iv}(h:ivE [a,b]=0):((-4611686018427387904<=a.1/\a.1<=4611686018427387904)/\(-4611686018427387904<=a.2/\a.2<=4611686018427387904)/\a.1<=a.2)/\(-4611686018427387904<=b.1/\b.1<=4611686018427387904)/\(-4611686018427387904<=b.2/\b.2<=4611686018427387904)/\b.1<=b.2:=by
 unfold ivE at h
 split at h
 . rename_i h1
   split at h
   . rename_i h2
     simp only[List.all_cons,List.all_nil,Bool.and_true,YBq,decide_eq_true_eq]at h1 h2
     exact⟨⟨numOk_iff.1 h1.1.1,numOk_iff.1 h1.1.2,h2.1⟩,numOk_iff.1 h1.2.1,numOk_iff.1 h1.2.2,h2.2⟩
   . cases h
 . cases h
def rndT(up:Bool)(x d:Int):Int:=if up then -((-x)/d)else x/d
def rndB(t:Int):Int×Bool:=if -4611686018427387904<=t/\t<=4611686018427387904 then(t,true)else(0,false)
def rndF(up:Bool)(x d:Int):Int×Bool:=rndB (rndT up x d)
def YzY(a b:Int×Bool):Iv×Int:=if a.2&&b.2 then((a.1,b.1),0)else((0,0),7)
def lowI(x:Int)(r:List Int):Int:=r.foldl (fun low y=>if y<low then y else low) x
def YdN(x:Int)(r:List Int):Int:=r.foldl (fun high y=>if high<y then y else high) x
def Ynd(d:Int)(x:Int)(r:List Int):Iv×Int:=YzY (rndF false (lowI x r) d) (rndF true (YdN x r) d)
theorem Ypn(x:Int):∀(r:List Int),lowI x r∈x::r/\∀y∈x::r,lowI x r<=y:=by
 intro r
 induction r generalizing x with
 |nil=>exact⟨YBx,fun y hy=>by simp at hy;subst hy;exact Int.le_refl _⟩
 |cons a r ih=>
   have e:lowI x (a::r)=lowI (if a<x then a else x) r:=rfl
   rw[e]
   obtain⟨h1,h2⟩:=ih (if a<x then a else x)
   have h3:=h2 _ YBx
   generalize lowI (if a<x then a else x) r=L at*
   refine⟨?_,fun y hy=>?_⟩
   . rcases YBC.1 h1 with h|h
     . rw[h];split <;> simp
     . simp [h]
   . rcases YBC.1 hy with rfl|hy
     . split at h3 <;> omega
     . rcases YBC.1 hy with rfl|hy
       . split at h3 <;> omega
       . exact h2 _ (YBy _ hy)
theorem YmT(x:Int):∀(r:List Int),YdN x r∈x::r/\∀y∈x::r,y<=YdN x r:=by
 intro r
 induction r generalizing x with
 |nil=>exact⟨YBx,fun y hy=>by simp at hy;subst hy;exact Int.le_refl _⟩
 |cons a r ih=>
   have e:YdN x (a::r)=YdN (if x<a then a else x) r:=rfl
   rw[e]
   obtain⟨h1,h2⟩:=ih (if x<a then a else x)
   have h3:=h2 _ YBx
   generalize YdN (if x<a then a else x) r=L at*
   refine⟨?_,fun y hy=>?_⟩
   . rcases YBC.1 h1 with h|h
     . rw[h];split <;> simp
     . simp [h]
   . rcases YBC.1 hy with rfl|hy
     . split at h3 <;> omega
     . rcases YBC.1 hy with rfl|hy
       . split at h3 <;> omega
       . exact h2 _ (YBy _ hy)
def bump(up neg:Bool)(r:Nat):Nat:=if decide (r≠0)&&(up !=neg)then 1 else 0
theorem Yvs{up:Bool}{x:Int}{d:Nat}(hd:0<d):rndT up x d=nsg (decide (x<0)) (x.natAbs/d+bump up (decide (x<0)) (x.natAbs%d)):=by
 have hm:=YBO x.natAbs hd
 have e:=Nat.div_add_mod x.natAbs d
 have pos:∀n:Nat,(n:Int)/(d:Int)=((n/d:Nat):Int):=fun n=>(Int.natCast_ediv n d).symm
 have neg:∀n:Nat,(-(n:Int))/(d:Int)= -(((n/d+if n%d=0 then 0 else 1:Nat)):Int):=fun n=>by
   have e:=Nat.div_add_mod n d
   have hm:=YBO n hd
   by_cases h0:n%d=0
   . rw[if_pos h0]
     have:(n:Int)=((n/d:Nat):Int)*(d:Int):=by
       have:n=n/d*d:=by rw[YBM];omega
       exact_mod_cast this
     conv=>lhs;rw[this,<-Int.neg_mul]
     rw[Int.mul_ediv_cancel _ (by omega)];simp
   . rw[if_neg h0]
     have hq:(n:Int)=(d:Int)*((n/d:Nat):Int)+((n%d:Nat):Int):=by exact_mod_cast e.symm
     apply Int.le_antisymm
     . apply Int.le_of_lt_add_one
       rw[Int.ediv_lt_iff_lt_mul (by omega)]
       conv=>lhs;rw[hq]
       have hm:((n%d:Nat):Int)>0:=by omega
       generalize n%d=m at*
       generalize n/d=q at*
       push_cast
       grind
     . rw[Int.le_ediv_iff_mul_le (by omega)]
       conv=>rhs;rw[hq]
       have hm:((n%d:Nat):Int)<d:=by omega
       generalize n%d=m at*
       generalize n/d=q at*
       push_cast
       grind
 obtain⟨n,hn⟩:∃n:Nat,n=x.natAbs:=⟨_,rfl⟩
 rw[<-hn]
 unfold rndT bump nsg
 by_cases hx:x<0
 . have ex:x= -(n:Int):=by omega
   cases up
   . simp only[hx,decide_true,if_true,YBz,if_false]
     rw[ex,neg n]
     by_cases h0:n%d=0 <;> simp [h0]
   . simp only[hx,decide_true,if_true,bne_self_eq_false,Bool.and_false,YBz,if_false]
     rw[ex,Int.neg_neg,pos n];simp
 . have ex:x=(n:Int):=by omega
   cases up
   . simp only[hx,decide_false,YBz,if_false,bne_self_eq_false,Bool.and_false]
     rw[ex,pos n];simp
   . simp only[hx,decide_false,YBz,if_false,if_true]
     rw[ex,neg n]
     by_cases h0:n%d=0 <;> simp [h0]
def Yf1(v:Int):List SV:=[.bool (decide (v<0)),.int .u64 ((v.natAbs/18446744073709551616:Nat):Int),.int .u64 ((v.natAbs%18446744073709551616:Nat):Int)]
def YrY(x:Int)(n:Bool)(h l:Int):Prop:=n=decide (x<0)/\h=((x.natAbs/18446744073709551616:Nat):Int)/\l=((x.natAbs%18446744073709551616:Nat):Int)
theorem Yai(x:Int):YrY x (decide (x<0)) ((x.natAbs/18446744073709551616:Nat):Int) ((x.natAbs%18446744073709551616:Nat):Int):=⟨rfl,rfl,rfl⟩
def big(x:Int):Prop:=x.natAbs<340282366920938463463374607431768211456
def fitF(lo hi:Int):Iv×Int:=if YcC lo&&YcC hi then((lo,hi),0)else((0,0),7)
def errI(e:Int):Iv×Int:=((0,0),e)
def addF(a b:Iv):Iv×Int:=if ivE [a,b]≠0 then errI (ivE [a,b])else fitF (a.1+b.1) (a.2+b.2)
def subF(a b:Iv):Iv×Int:=if ivE [a,b]≠0 then errI (ivE [a,b])else addF a (-b.2, -b.1)
def sclF(a:Iv)(num den:Int):Iv×Int:=if ivE [a]≠0 then errI (ivE [a])else if den<1\/4611686018427387904<den\/num< -4611686018427387904\/4611686018427387904<num then errI 2 else Ynd den (a.1*num) [a.2*num]
def YmU(a b:Iv):Iv×Int:=if ivE [a,b]≠0 then errI (ivE [a,b])else((min a.1 b.1,max a.2 b.2),0)
def v97:VF:=⟨9,[.tmp 2],(ZR [u1 2 .mov [.cn (.bool false)]] (ZR [Zm 3 0,Zq 4 .geq 3 (-4611686018427387904),Zm 5 4,Zg 6 5 true 0,u2 7 5 true (.cmp .leq) [.tm 6,.cn (.int .i64 4611686018427387904)],u1 8 .and [.tm 5,.tm 7],Zm 2 8] .ret))⟩
theorem YA8:Yg YBm Tryz.f97=some v97:=by kernel_rfl
def v75:VF:=⟨36,[.tmp 2],(ZR [Zi 2 0] (.seq (ZR [Zm 7 0,Zl 8 7,Zi 9 0] (.block 0 (.loop (ZR [Zr 10 .lss 9 8] (.seq (ZC 10 .skip (.exit 0)) (.seq (.block 1 (ZR [Zx 11 2 7 9,Zt 12 2 11,Zn 4,Zs 2 4 12] (ZR [Za 13 0 4,Zf 14 1 13,Zc 15 97 14,u1 16 .not [.tm 15],Zm 17 16,Zj 18 17 false 1 4,Zh 19 17 false 1 18,u2 20 17 false (.call 97) [.tm 19],u2 21 17 false .not [.tm 20],u1 22 .or [.tm 17,.tm 21]] (ZC 22 (ZR [Zi 2 7] .ret) .skip)))) (.region [Zp 23 9 1,Zm 9 23]))))))) (.seq (ZR [Zm 24 0,Zl 25 24,Zi 26 0] (.block 2 (.loop (ZR [Zr 27 .lss 26 25] (.seq (ZC 27 .skip (.exit 2)) (.seq (.block 3 (ZR [Zx 28 2 24 26,Zt 29 2 28,Zn 6,Zs 2 6 29] (ZR [Za 30 0 6,Zf 31 1 30,Za 32 1 6,Zf 33 1 32,Zr 34 .gtr 31 33] (ZC 34 (ZR [Zi 2 2] .ret) .skip)))) (.region [Zp 35 26 1,Zm 26 35]))))))) (ZR [Zi 2 0] .ret))))⟩
theorem YAO:Yg YBm Tryz.f75=some v75:=by kernel_rfl
def v121:VF:=⟨8,[.tmp 2],(ZR [u1 2 .mov [.cn (.int .u64 0)]] (ZR [Zm 3 0,Zm 4 0,u1 5 .neg [.tm 4],u1 6 .max [.tm 3,.tm 5],u1 7 (.conv .u64) [.tm 6],Zm 2 7] .ret))⟩
theorem Yv3:Yg YBm Tryz.f121=some v121:=by kernel_rfl
def v99:VF:=⟨29,[.cell 4 true 3],(ZR [u1 4 (.alloc [(.bool false),(.int .u64 0),(.int .u64 0)]) []] (ZR [Zm 8 0,Zc 9 121 8,Zm 10 1,Zc 11 121 10,Zd 12 120 9 11,Zm 7 12,Ze 13 0 7,Ze 14 1 7,Zm 5 13,Zm 6 14] (ZR [Zm 15 0,Zq 16 .lss 15 0,Zm 17 1,Zq 18 .lss 17 0,u1 19 (.eqb true) [.tm 16,.tm 18],Zm 20 19,Zg 21 20 true 5,Zg 22 20 true 6,u2 23 20 true (.bit .or) [.tm 21,.tm 22],u2 24 20 true (.cmp .neq) [.tm 23,.cn (.int .u64 0)],u1 25 .and [.tm 20,.tm 24],Zm 26 5,Zm 27 6,u1 28 (.build [(.bool false),(.int .u64 0),(.int .u64 0)] [(0,1),(1,1),(2,1)]) [.tm 25,.tm 26,.tm 27],Zs 3 4 28] .ret)))⟩
theorem YBa:Yg YBm Tryz.f99=some v99:=by kernel_rfl
def v118:VF:=⟨39,[.tmp 4],(ZR [u1 2 .box [.tm 0],u1 3 .box [.tm 1],u1 4 .mov [.cn (.bool false)]] (.seq (ZR [Zt 6 3 2,Zt 7 3 3,u1 8 (.eqv false [false,true,true]) [.tm 6,.tm 7]] (ZC 8 (ZR [u1 4 .mov [.cn (.bool false)]] .ret) .skip)) (.seq (ZR [Za 9 0 2,Zf 10 1 9,Za 11 0 3,Zf 12 1 11,u1 13 (.eqb true) [.tm 10,.tm 12]] (ZC 13 (ZR [Za 14 0 2,Zf 15 1 14,Zm 4 15] .ret) .skip)) (ZR [Za 16 1 2,Zf 17 1 16,Za 18 1 3,Zf 19 1 18,Zr 20 .lss 17 19,Zm 21 20,Zj 22 21 false 1 2,Zh 23 21 false 1 22,Zj 24 21 false 1 3,Zh 25 21 false 1 24,u2 26 21 false (.cmp .eql) [.tm 23,.tm 25],Zg 27 21 false 26,Zj 28 27 true 2 2,Zh 29 27 true 1 28,Zj 30 27 true 2 3,Zh 31 27 true 1 30,u2 32 27 true (.cmp .lss) [.tm 29,.tm 31],u2 33 21 false .and [.tm 27,.tm 32],u1 34 .or [.tm 21,.tm 33],Zm 5 34] (ZR [Zm 35 5,Za 36 0 2,Zf 37 1 36,u1 38 (.eqb true) [.tm 35,.tm 37],Zm 4 38] .ret)))))⟩
theorem Yv0:Yg YBm Tryz.f118=some v118:=by kernel_rfl
def v119:VF:=⟨56,[.tmp 6,.tmp 7],(ZR [u1 3 .box [.tm 0],Zi 6 0,u1 7 .mov [.cn (.bool false)]] (.seq (ZR [Za 10 1 3,Zf 11 1 10,Zm 12 1,Zr 13 .geq 11 12] (ZC 13 (ZR [Zi 6 0,u1 7 .mov [.cn (.bool false)]] .ret) .skip)) (ZR [Za 15 1 3,Zf 16 1 15,Za 17 2 3,Zf 18 1 17,Zm 19 1,u1 20 (.call 130) [.tm 16,.tm 18,.tm 19],Zm 14 20,Ze 21 0 14,Ze 22 1 14,Zm 8 21,Zm 9 22] (.seq (ZR [Zm 23 9,u1 24 (.cmp .neq) [.tm 23,.cn (.int .u64 0)],Zm 25 24,Zg 26 25 true 2,Zj 27 25 true 0 3,Zh 28 25 true 1 27,u2 29 25 true (.eqb true) [.tm 26,.tm 28],u1 30 .and [.tm 25,.tm 29]] (ZC 30 (.region [Zm 31 8,u1 32 (.ari .add) [.tm 31,.cn (.int .u64 1)],Zm 8 32]) .skip)) (.seq (ZR [Zm 33 8,u1 34 (.cmp .gtr) [.tm 33,.cn (.int .u64 4611686018427387904)],Zm 35 34,Zg 36 35 false 8,u2 37 35 false (.cmp .eql) [.tm 36,.cn (.int .u64 0)],Zg 38 35 false 37,Zg 39 38 true 9,u2 40 38 true (.cmp .neq) [.tm 39,.cn (.int .u64 0)],u2 41 35 false .and [.tm 38,.tm 40],Zg 42 35 false 41,Zg 43 42 true 2,Zj 44 42 true 0 3,Zh 45 42 true 1 44,u2 46 42 true (.eqb true) [.tm 43,.tm 45],u2 47 35 false .and [.tm 42,.tm 46],u1 48 .or [.tm 35,.tm 47]] (ZC 48 (ZR [Zi 6 0,u1 7 .mov [.cn (.bool false)]] .ret) .skip)) (.seq (ZR [Za 49 0 3,Zf 50 1 49] (ZC 50 (ZR [Zm 51 8,u1 52 (.conv .i64) [.tm 51],u1 53 .neg [.tm 52],Zm 6 53,u1 7 .mov [.cn (.bool true)]] .ret) .skip)) (ZR [Zm 54 8,u1 55 (.conv .i64) [.tm 54],Zm 6 55,u1 7 .mov [.cn (.bool true)]] .ret)))))))⟩
theorem Yv1:Yg YBm Tryz.f119=some v119:=by kernel_rfl
def v98:VF:=⟨58,[.cell 4 true 2,.tmp 5],(ZR [Zn 4,Zi 5 0] (.seq (.draw [(6,.box [(.bool false),(.int .u64 0),(.int .u64 0)]),(7,.box [(.bool false),(.int .u64 0),(.int .u64 0)])] [Zu 14 1,w1 15 (.idxAddr 3) [.tm 14,.cn (.int .i64 0)],Zw 16 3 15,Zu 17 1,w1 18 (.idxAddr 3) [.tm 17,.cn (.int .i64 0)],Zw 19 3 18,⟨Zs 3 6 16,[.tm 18]⟩,ZS 3 7 19]) (.seq (ZR [Zm 20 1,u1 21 (.slice 3 true false) [.tm 20,.cn (.int .i64 1)],Zl 22 21,Zi 23 0] (.block 0 (.loop (ZR [Zr 24 .lss 23 22] (.seq (ZC 24 .skip (.exit 0)) (.seq (.block 1 (ZR [Zx 25 3 21 23,Zt 26 3 25,u1 9 (.alloc [(.bool false),(.int .u64 0),(.int .u64 0)]) [],Zs 3 9 26] (.seq (ZR [Zt 27 3 9,Zt 28 3 6,Zd 29 118 27 28] (ZC 29 (.region [Zt 30 3 9,Zs 3 6 30]) .skip)) (ZR [Zt 31 3 7,Zt 32 3 9,Zd 33 118 31 32] (ZC 33 (.region [Zt 34 3 9,Zs 3 7 34]) .skip))))) (.region [Zp 35 23 1,Zm 23 35]))))))) (ZR [Zt 37 3 6,Zm 38 0,u1 39 (.call 119) [.tm 37,.tm 38,.cn (.bool false)],Zm 36 39,Ze 40 0 36,Ze 41 1 36,Zm 10 40,Zm 11 41] (ZR [Zt 43 3 7,Zm 44 0,u1 45 (.call 119) [.tm 43,.tm 44,.cn (.bool true)],Zm 42 45,Ze 46 0 42,Ze 47 1 42,Zm 12 46,Zm 13 47] (.seq (ZR [Zm 48 11,u1 49 .not [.tm 48],Zm 50 49,Zg 51 50 false 13,u2 52 50 false .not [.tm 51],u1 53 .or [.tm 50,.tm 52]] (ZC 53 (ZR [u1 54 (.build [(.int .i64 0),(.int .i64 0)] []) [],Zs 2 4 54,Zi 5 7] .ret) .skip)) (ZR [Zm 55 10,Zm 56 12,u1 57 (.build [(.int .i64 0),(.int .i64 0)] [(0,1),(1,1)]) [.tm 55,.tm 56],Zs 2 4 57,Zi 5 0] .ret)))))))⟩
theorem YA9:Yg YBm Tryz.f98=some v98:=by kernel_rfl
def v113:VF:=⟨18,[.cell 4 true 2,.tmp 5],(ZR [Zn 4,Zi 5 0] (.seq (ZR [Zm 6 0,Zc 7 97 6,u1 8 .not [.tm 7],Zm 9 8,Zg 10 9 false 1,u2 11 9 false (.call 97) [.tm 10],u2 12 9 false .not [.tm 11],u1 13 .or [.tm 9,.tm 12]] (ZC 13 (ZR [u1 14 (.build [(.int .i64 0),(.int .i64 0)] []) [],Zs 2 4 14,Zi 5 7] .ret) .skip)) (ZR [Zm 15 0,Zm 16 1,u1 17 (.build [(.int .i64 0),(.int .i64 0)] [(0,1),(1,1)]) [.tm 15,.tm 16],Zs 2 4 17,Zi 5 0] .ret)))⟩
theorem YvV:Yg YBm Tryz.f113=some v113:=by kernel_rfl
def numC:Ctr:={ alias:=false,of:=fun l=>match l with| [.int .i64 n]=> .fin (.bool (YcC n)) [] |_=>noC}
def ivlC:Ctr:={ alias:=false,of:=fun a=>match a with
 | [.vs _ _ n sz get]=> .ex (List Iv) fun l=> .pre (lsP 2 enc2 n sz get l/\l.length<=1000000) (.fin (.int .i64 (ivE l)) [])
 |_=>noC}
def sizC:Ctr:={ alias:=false,of:=fun l=>match l with
 | [.int .i64 n]=> .pre (-9223372036854775808<=n/\n<=9223372036854775807) (.fin (.int .u64 (n.natAbs:Int)) [])
 |_=>noC}
def timC:Ctr:={ alias:=false,of:=fun l=>match l with
 | [.int .i64 a,.int .i64 b]=> .pre ((-9223372036854775808<=a/\a<=9223372036854775807)/\ -9223372036854775808<=b/\b<=9223372036854775807) (.fin (.agg (Yf1 (a*b))) [])
 |_=>noC}
def lessC:Ctr:={ alias:=false,of:=fun l=>match l with
 | [.agg [.bool n,.int .u64 h,.int .u64 lo],.agg [.bool n',.int .u64 h',.int .u64 lo']]=> .ex Int fun x=> .ex Int fun y=> .pre (YrY x n h lo/\YrY y n' h' lo') (.fin (.bool (decide (x<y))) [])
 |_=>noC}
def overC:Ctr:={ alias:=false,of:=fun l=>match l with
 | [.agg [.bool n,.int .u64 h,.int .u64 lo],.int .u64 d,.bool up]=> .ex Int fun x=> .pre (YrY x n h lo/\big x/\0<d/\d<=18446744073709551615) (.fin (.tup [.int .i64 (rndF up x d).1,.bool (rndF up x d).2]) [])
 |_=>noC}
def spanC:Ctr:={ alias:=false,of:=fun l=>match l with
 | [.int .u64 d,.vs _ _ n sz get]=> .ex Int fun x=> .ex (List Int) fun r=> .pre (lsP 3 Yf1 n sz get (x::r)/\r.length<=1000/\(∀y∈x::r,big y)/\0<d/\d<=18446744073709551615) (.fin (.tup [.agg (enc2 (Ynd d x r).1),.int .i64 (Ynd d x r).2]) [])
 |_=>noC}
def fitC:Ctr:={ alias:=false,of:=fun l=>match l with
 | [.int .i64 a,.int .i64 b]=> .fin (.tup [.agg (enc2 (fitF a b).1),.int .i64 (fitF a b).2]) []
 |_=>noC}
def P0:Env:={ ct:=fun _=>none,fn:=fun _=>none,meth:=fun _ _=>none}
theorem YwH:Yn YBm P0:=by
 refine⟨fun f c h=>?_,fun f vf h=>?_,(fun _ _ _ h=>by cases h),by kernel_rfl,(fun _ h=>by cases h)⟩
 . cases h
 . cases h
theorem Ymg:numC.ok YBm 97:=by
 refine Yb Tryz.func97 YA8 YwH 100 numC fun args k h=>⟨args,?_⟩
 simp only[numC]at h
 split at h
 . refine⟨by simp [leL,le],?_⟩
   (try dsimp only[v97,go_sem,reduceIte])
   (try simp only[Yc,YBi,YBk,reduceCtorEq,YBj])
   exact YN h
 . exact h.1.elim
theorem YzX:sizC.ok YBm 121:=by
 refine Yb Tryz.func121 Yv3 YwH 100 sizC fun args k h=>⟨args,?_⟩
 simp only[sizC]at h
 split at h
 . rename_i n
   obtain⟨⟨h0,h1⟩,h⟩:=h
   refine⟨by simp [leL,le],?_⟩
   (try dsimp only[v121,go_sem,reduceIte])
   (try simp only[Yc,YBi,YBk,reduceCtorEq,YBj])
   have e:IntKind.u64.wrap (max n (IntKind.i64.wrap (0-n)))=(n.natAbs:Int):=by
     rcases Int.lt_or_le n (-9223372036854775807)with h'|h'
     . obtain rfl:n= -9223372036854775808:=by omega
       decide
     . rw[YBn _ (by omega),YBJ _ (by omega)];omega
   rw[e]
   exact Yj h
 . exact h.1.elim
def P1:Env:={ ct:=fun n=>match n with|97=>some numC|121=>some sizC|120=>some mul64C|130=>some div64C|_=>none,fn:=fun _=>none,meth:=fun _ _=>none}
theorem Ytm:P1.ct 97=some numC:=rfl
theorem Yqt:P1.ct 121=some sizC:=rfl
theorem Yqs:P1.ct 120=some mul64C:=rfl
theorem Yqu:P1.ct 130=some div64C:=rfl
theorem Yqv:Yn YBm P1:=by
 refine⟨fun f c h=>?_,fun f vf h=>?_,(fun _ _ _ h=>by cases h),by kernel_rfl,(fun _ h=>by cases h)⟩
 . simp only[P1]at h
   split at h
   . cases h;exact⟨Ymg,Tryz.f97,Tryz.func97,by kernel_rfl,by kernel_rfl⟩
   . cases h;exact⟨YzX,Tryz.f121,Tryz.func121,by kernel_rfl,by kernel_rfl⟩
   . cases h;exact⟨YiE,Tryz.f120,Tryz.func120,by kernel_rfl,by kernel_rfl⟩
   . cases h;exact⟨YrA,Tryz.f130,Tryz.func130,by kernel_rfl,by kernel_rfl⟩
   . cases h
 . cases h
theorem YsT:ivlC.ok YBm 75:=by
 refine Yb Tryz.func75 YAO Yqv 400 ivlC fun args k h=>?_
 simp only[ivlC]at h
 split at h
 . rename_i tt z n sz get
   obtain⟨l,⟨⟨rfl,rfl,hg⟩,hmax⟩,h⟩:=h
   refine⟨[.vs tt z l.length 2 (fun k=>enc2 (l.getD k default))],by simpa [leL,le]using hg,?_⟩
   (try dsimp only[v75,enc2,go_sem,reduceIte])
   (try simp only[Yc,YBi,YBk,reduceCtorEq,YBj])
   refine Loop.keep [0,6,0,0] Nat (fun i=>[(9,.int .i64 i)]) (fun _=>[]) [] (fun i=>i<=l.length/\∀j,j<i->(YcC (l.getD j default).1&&YcC (l.getD j default).2)=true) (fun i=>l.length-i) ?_ ?_
   . refine⟨0,⟨Nat.zero_le _,fun j h=>by omega⟩,?_⟩
     (try dsimp only[go_sem,reduceIte])
     simp only[Ya]
     simp
   . rintro i ⟨hi,ha⟩
     (try dsimp only[Ytm,numC,enc2,YBo,go_sem,reduceIte])
     (try simp only[Yc,YBi,YBk,reduceCtorEq,YBj])
     refine⟨fun hlt=>⟨⟨by omega,hlt⟩,fun hb=>Yj ?_,fun hb=>?_⟩,fun hge=>?_⟩
     . have e:=Yuw (l:=l) (i:=i) (by omega) (by rw[<-Bool.not_and,YBF]at hb;exact hb)
       rw[e]at h;exact h
     . rw[<-Bool.not_and]at hb
       refine⟨i+1,⟨by omega,fun j hj=>?_⟩,by omega,?_⟩
       . rcases YBB j i with h'|h'
         . exact ha j h'
         . obtain rfl:j=i:=by omega
           simpa using hb
       . have hw:=Ye9 (i:=i) (n:=l.length) (by omega) (by omega)
         simp only[hw,Ya] <;> simp
     . obtain rfl:i=l.length:=by omega
       refine Loop.keep [0,23,0,0] Nat (fun i=>[(26,.int .i64 i)]) (fun _=>[]) [] (fun i=>i<=l.length/\∀j,j<i->(l.getD j default).1<=(l.getD j default).2) (fun i=>l.length-i) ?_ ?_
       . refine⟨0,⟨Nat.zero_le _,fun j h=>by omega⟩,?_⟩
         (try dsimp only[go_sem,reduceIte])
         simp only[Ya]
         simp
       . rintro i ⟨hi,hc⟩
         (try dsimp only[enc2,YBo,go_sem,reduceIte])
         (try simp only[Yc,YBi,YBk,reduceCtorEq,YBj])
         refine⟨fun hlt=>⟨⟨by omega,hlt⟩,fun hb=>Yj ?_,fun hb=>?_⟩,fun hge=>?_⟩
         . have e:=ivE_2 ha (i:=i) (by omega) (by omega)
           rw[e]at h;exact h
         . refine⟨i+1,⟨by omega,fun j hj=>?_⟩,by omega,?_⟩
           . rcases YBB j i with h'|h'
             . exact hc j h'
             . obtain rfl:j=i:=by omega
               omega
           . have hw:=Ye9 (i:=i) (n:=l.length) (by omega) (by omega)
             simp only[hw,Ya] <;> simp
         . obtain rfl:i=l.length:=by omega
           rw[ivE_0 ha hc]at h
           exact Yj h
 . exact h.1.elim
theorem Yte:timC.ok YBm 99:=by
 refine Yb Tryz.func99 YBa Yqv 200 timC fun args k h=>⟨args,?_⟩
 simp only[timC]at h
 split at h
 . rename_i a b
   obtain⟨⟨ha,hb⟩,h⟩:=h
   refine⟨by simp [leL,le],?_⟩
   (try dsimp only[v99,Yqt,Yqs,sizC,mul64C,go_sem,reduceIte])
   (try simp only[Yc,YBi,YBk,reduceCtorEq,YBj])
   obtain⟨P,hP⟩:∃P,P=a.natAbs*b.natAbs:=⟨_,rfl⟩
   have hPb:P<=9223372036854775808*9223372036854775808:=by rw[hP];exact Nat.mul_le_mul (by omega) (by omega)
   have e0:(a.natAbs:Int)*(b.natAbs:Int)=(P:Int):=by rw[hP];exact(Int.natCast_mul _ _).symm
   have e1:(P:Int)/18446744073709551616=((P/18446744073709551616:Nat):Int):=by omega
   have e2:(P:Int)%18446744073709551616=((P%18446744073709551616:Nat):Int):=by omega
   rw[e0,e1,e2,YxK (by omega) (by omega)]
   refine⟨ha,hb,⟨⟨by omega,by omega⟩,by omega,by omega⟩,by decide,by decide,?_⟩
   have e3:(a*b).natAbs=P:=by rw[hP,Int.natAbs_mul]
   have e4:(!(decide (a<0)==decide (b<0))&& !decide (((P/18446744073709551616||| P%18446744073709551616:Nat):Int)=0))=decide (a*b<0):=by
     have z:decide (((P/18446744073709551616||| P%18446744073709551616:Nat):Int)=0)=decide (P=0):=by
       congr 1
       apply propext
       have:= @Nat.or_eq_zero_iff (P/18446744073709551616) (P%18446744073709551616)
       omega
     rw[z]
     have hz:P=0↔a=0\/b=0:=by rw[hP,Nat.mul_eq_zero];omega
     rcases Int.lt_trichotomy a 0 with h1|h1|h1 <;> rcases Int.lt_trichotomy b 0 with h2|h2|h2
     . have:=Int.mul_pos_of_neg_of_neg h1 h2
       simp [h1,h2];omega
     . subst h2;simp [hz]
     . have:=Int.mul_neg_of_neg_of_pos h1 h2
       have hb':¬b<0:=by omega
       simp [h1,hb',this,hz];omega
     . subst h1;simp [hz]
     . subst h1;simp [hz]
     . subst h1;simp [hz]
     . have:=Int.mul_neg_of_pos_of_neg h1 h2
       have ha':¬a<0:=by omega
       simp [h2,ha',this,hz];omega
     . subst h2;simp [hz]
     . have:=Int.mul_pos h1 h2
       have ha':¬a<0:=by omega
       have hb':¬b<0:=by omega
       simp [ha',hb'];omega
   rw[e4]
   have h:k (.agg (Yf1 (a*b))) []:=h
   rw[Yf1,e3]at h
   exact YC (show k _ []from h) (Yz (.agg [.bool (decide (a*b<0)),.int .u64 ((P/18446744073709551616:Nat):Int),.int .u64 ((P%18446744073709551616:Nat):Int)]) ⟨trivial,trivial,trivial,trivial⟩) (fun _=>by simp [Yk,Yo])
 . exact h.1.elim
theorem YuG:lessC.ok YBm 118:=by
 refine Yb Tryz.func118 Yv0 Yqv 200 lessC fun args k h=>⟨args,?_⟩
 simp only[lessC]at h
 split at h
 . rename_i n hi lo n' hi' lo'
   obtain⟨x,y,⟨⟨rfl,rfl,rfl⟩,rfl,rfl,rfl⟩,h⟩:=h
   refine⟨by simp [leL,le],?_⟩
   (try dsimp only[v118,go_sem,reduceIte])
   (try simp only[Yc,YBi,YBk,reduceCtorEq,YBj])
   refine⟨fun hc=>YN ?_,fun hc=>⟨fun hd=>YN ?_,fun hd=>⟨fun h1 h2=>by rw[decide_eq_false h1,decide_eq_true h2];rfl,YN ?_⟩⟩⟩
   . simp only[YBq,Bool.and_true,decide_eq_true_eq,beq_iff_eq,decide_eq_decide]at hc
     have:x=y:=by omega
     subst this
     have h:k (.bool (decide (x<x))) []:=h
     rw[decide_eq_false (Int.lt_irrefl x)]at h
     exact h
   . have:decide (x<y)=decide (x<0):=by
       rw[beq_eq_false_iff_ne,ne_eq,decide_eq_decide]at hd
       rw[decide_eq_decide];omega
     rw[<-this];exact h
   . have:(!((decide (((x.natAbs/18446744073709551616:Nat):Int)<((y.natAbs/18446744073709551616:Nat):Int)) || decide (((x.natAbs/18446744073709551616:Nat):Int)=((y.natAbs/18446744073709551616:Nat):Int))&&decide (((x.natAbs%18446744073709551616:Nat):Int)<((y.natAbs%18446744073709551616:Nat):Int)))==decide (x<0)))=decide (x<y):=by
       simp only[beq_iff_eq,decide_eq_decide]at hd
       simp only[Bool.and_eq_false_iff,Bool.and_true,decide_eq_false_iff_not,beq_eq_false_iff_ne,ne_eq,decide_eq_decide]at hc
       have e:(decide (((x.natAbs/18446744073709551616:Nat):Int)<((y.natAbs/18446744073709551616:Nat):Int)) || decide (((x.natAbs/18446744073709551616:Nat):Int)=((y.natAbs/18446744073709551616:Nat):Int))&&decide (((x.natAbs%18446744073709551616:Nat):Int)<((y.natAbs%18446744073709551616:Nat):Int)))=decide (x.natAbs<y.natAbs):=by
         rw[Bool.eq_iff_iff]
         simp only[YBQ,YBq,decide_eq_true_eq]
         omega
       rw[e]
       by_cases hx:x<0
       . rw[decide_eq_true hx,Bool.eq_iff_iff,YBF,beq_eq_false_iff_ne,ne_eq,decide_eq_true_eq,decide_eq_true_eq];omega
       . rw[decide_eq_false hx,Bool.eq_iff_iff,YBF,beq_eq_false_iff_ne,ne_eq,decide_eq_false_iff_not,decide_eq_true_eq];omega
     rw[this];exact h
 . exact h.1.elim
theorem Ylg:overC.ok YBm 119:=by
 refine Yb Tryz.func119 Yv1 Yqv 200 overC fun args k h=>⟨args,?_⟩
 simp only[overC]at h
 split at h
 . rename_i n hi lo d up
   obtain⟨x,⟨⟨rfl,rfl,rfl⟩,hbx,hd0,hd1⟩,h⟩:=h
   refine⟨by simp [leL,le],?_⟩
   (try dsimp only[v119,Yqu,div64C,go_sem,reduceIte])
   (try simp only[Yc,YBi,YBk,reduceCtorEq,YBj])
   obtain⟨d,rfl⟩:=Int.eq_ofNat_of_zero_le (by omega:0<=d)
   obtain⟨m,hm⟩:∃m,m=x.natAbs:=⟨_,rfl⟩
   have hT:=Yvs (up:=up) (x:=x) (d:=d) (by omega)
   have e0:((m/18446744073709551616:Nat):Int)*18446744073709551616+((m%18446744073709551616:Nat):Int)=m:=by omega
   have e1:(m:Int)/(d:Int)=((m/d:Nat):Int):=(Int.natCast_ediv _ _).symm
   have e2:(m:Int)%(d:Int)=((m%d:Nat):Int):=(Int.natCast_emod _ _).symm
   rw[<-hm]at hT⊢
   rw[e0,e1,e2]
   have hF:rndF up x d=rndB (nsg (decide (x<0)) (m/d+bump up (decide (x<0)) (m%d))):=by unfold rndF;rw[hT]
   have hfail:4611686018427387904<m/d+bump up (decide (x<0)) (m%d)->rndF up x d=(0,false):=fun hh=>by
     rw[hF,rndB,if_neg]
     have:=YpC (decide (x<0)) (m/d+bump up (decide (x<0)) (m%d))
     omega
   have hgood:m/d+bump up (decide (x<0)) (m%d)<=4611686018427387904->rndF up x d=(nsg (decide (x<0)) (m/d+bump up (decide (x<0)) (m%d)),true):=fun hh=>by
     rw[hF,rndB,if_pos]
     have:=YpC (decide (x<0)) (m/d+bump up (decide (x<0)) (m%d))
     omega
   have h:k (.tup [.int .i64 (rndF up x d).1,.bool (rndF up x d).2]) []:=h
   have fin:∀(t:Int)(b:Bool)(hp:List HO),rndF up x d=(t,b)->Yw overC.alias k (.tup [.int .i64 t,.bool b]) hp:=fun t b hp hh=>by
     rw[hh]at h
     exact YC (show k _ []from h) (Yz (.tup [.int .i64 t,.bool b]) ⟨trivial,trivial,trivial⟩) (fun _=>by simp [Yk,Yo])
   have hQ1:¬(d:Int)<=((m/18446744073709551616:Nat):Int)->m/d<18446744073709551616:=fun hc=>by
     rw[YBA (by omega)]
     have h1:m/18446744073709551616<d:=by omega
     rw[YBA (by decide)]at h1
     rw[YBM];exact h1
   have hQ2:(d:Int)<=((m/18446744073709551616:Nat):Int)->18446744073709551616<=m/d:=fun hc=>by
     rw[Nat.le_div_iff_mul_le (by omega)]
     have h1:d<=m/18446744073709551616:=by omega
     rw[Nat.le_div_iff_mul_le (by decide)]at h1
     rw[YBM];exact h1
   have hd0':(0:Int)<(d:Int):=hd0
   clear hT e1 e2
   generalize m/d=Q at*
   generalize m%d=R at*
   have ez:(!decide ((R:Int)=0))=decide (R≠0):=by
     rw[<-decide_not];congr 1;exact propext (by omega)
   refine⟨fun hc=>fin _ _ _ (hfail ?_),fun hc=>⟨⟨⟨by omega,by omega⟩,by omega,by omega,by omega⟩,by decide,by decide,fun hb=>?_,fun hb=>?_⟩⟩
   . have:=hQ2 hc
     omega
   . have hQ:=hQ1 hc
     rw[ez]at hb⊢
     have hbump:bump up (decide (x<0)) (R)=1:=by unfold bump;exact if_pos hb
     rw[hbump]at hfail hgood
     have hcond:∀w:Int,((decide (4611686018427387904<w) || decide (w=0)&&decide (R≠0)&& !(up==decide (x<0)))=true↔4611686018427387904<w\/w=0):=fun w=>by
       rw[Bool.and_assoc,hb,Bool.and_true,YBQ,decide_eq_true_eq,decide_eq_true_eq]
     have hw:(4611686018427387904<IntKind.u64.wrap ((Q:Int)+1)\/IntKind.u64.wrap ((Q:Int)+1)=0)↔4611686018427387904<Q+1:=by
       rw[Yqe];omega
     refine⟨fun h1 h2=>by rw[decide_eq_false h1,decide_eq_true h2];rfl,fun h1 h2=>by rw[decide_eq_false h1,h2];rfl,fun hcc=>fin _ _ _ (hfail (hw.1 ((hcond _).1 hcc))),fun hcc=>?_⟩
     have hsm:Q+1<=4611686018427387904:=by
       refine Nat.le_of_not_lt fun hh=>?_
       have:=(hcond _).2 (hw.2 hh)
       rw[hcc]at this;cases this
     have hg:=hgood hsm
     rw[YBJ _ (by omega)]
     refine⟨fun hx=>fin _ _ _ ?_,fun hx=>fin _ _ _ ?_⟩
     . rw[hg,YBn ((Q:Int)+1) (by omega),YBn _ (by omega)]
       unfold nsg
       simp only[hx,decide_true,if_true]
       congr 1 <;> omega
     . rw[hg,YBn _ (by omega)]
       unfold nsg
       simp only[hx,decide_false,YBz,if_false]
       rfl
   . have hQ:=hQ1 hc
     rw[ez]at hb⊢
     have hbump:bump up (decide (x<0)) (R)=0:=by unfold bump;exact if_neg (by rw[show(up !=decide (x<0))= !(up==decide (x<0))from rfl,hb];simp)
     rw[hbump,Nat.add_zero]at hfail hgood
     have hcond:∀w:Int,((decide (4611686018427387904<w) || decide (w=0)&&decide (R≠0)&& !(up==decide (x<0)))=true↔4611686018427387904<w):=fun w=>by
       rw[Bool.and_assoc,hb,Bool.and_false,Bool.or_false,decide_eq_true_eq]
     refine⟨fun h1 h2=>by rw[decide_eq_false h1,decide_eq_true h2];rfl,fun h1 h2=>by rw[decide_eq_false h1,h2];rfl,fun hcc=>fin _ _ _ (hfail (by have:=(hcond _).1 hcc;omega)),fun hcc=>?_⟩
     have hsm:Q<=4611686018427387904:=by
       refine Nat.le_of_not_lt fun hh=>?_
       have:=(hcond (Q:Int)).2 (by omega)
       rw[hcc]at this;cases this
     have hg:=hgood hsm
     refine⟨fun hx=>fin _ _ _ ?_,fun hx=>fin _ _ _ ?_⟩
     . rw[hg,YBn (Q:Int) (by omega),YBn _ (by omega)]
       unfold nsg
       simp only[hx,decide_true,if_true]
       congr 1 <;> omega
     . rw[hg,YBn _ (by omega)]
       unfold nsg
       simp only[hx,decide_false,YBz,if_false]
 . exact h.1.elim
def P2:Env:={ ct:=fun n=>match n with|97=>some numC|118=>some lessC|119=>some overC|_=>none,fn:=fun _=>none,meth:=fun _ _=>none}
theorem Ytn:P2.ct 97=some numC:=rfl
theorem Yqw:P2.ct 118=some lessC:=rfl
theorem Yqx:P2.ct 119=some overC:=rfl
theorem YwI:Yn YBm P2:=by
 refine⟨fun f c h=>?_,fun f vf h=>?_,(fun _ _ _ h=>by cases h),by kernel_rfl,(fun _ h=>by cases h)⟩
 . simp only[P2]at h
   split at h
   . cases h;exact⟨Ymg,Tryz.f97,Tryz.func97,by kernel_rfl,by kernel_rfl⟩
   . cases h;exact⟨YuG,Tryz.f118,Tryz.func118,by kernel_rfl,by kernel_rfl⟩
   . cases h;exact⟨Ylg,Tryz.f119,Tryz.func119,by kernel_rfl,by kernel_rfl⟩
   . cases h
 . cases h
theorem YsP:fitC.ok YBm 113:=by
 refine Yb Tryz.func113 YvV YwI 200 fitC fun args k h=>⟨args,?_⟩
 simp only[fitC]at h
 split at h
 . rename_i a b
   refine⟨by simp [leL,le],?_⟩
   (try dsimp only[v113,Ytn,numC,go_sem,reduceIte])
   (try simp only[Yc,YBi,YBk,reduceCtorEq,YBj])
   refine⟨fun hc=>?_,fun hc=>?_⟩
   . rw[fitF,if_neg (by rw[<-Bool.not_and,YBF]at hc;simp [hc])]at h
     exact YC (show k _ []from h) (Yz (.tup [.agg (enc2 (0,0)),.int .i64 7]) ⟨⟨trivial,trivial,trivial⟩,trivial,trivial⟩) (fun _=>by simp [enc2,Yk,Yo])
   . rw[fitF,if_pos (by rw[<-Bool.not_and,Bool.not_eq_false']at hc;exact hc)]at h
     exact YC (show k _ []from h) (Yz (.tup [.agg (enc2 (a,b)),.int .i64 0]) ⟨⟨trivial,trivial,trivial⟩,trivial,trivial⟩) (fun _=>by simp [enc2,Yk,Yo])
 . exact h.1.elim
theorem Yp5:spanC.ok YBm 98:=by
 refine Yb Tryz.func98 YA9 YwI 400 spanC fun args k h=>?_
 simp only[spanC]at h
 split at h
 . rename_i d tt z n sz get
   obtain⟨x,r,⟨⟨rfl,rfl,hg⟩,hmax,hbig,hd0,hd1⟩,h⟩:=h
   refine⟨[.int .u64 d,.vs tt z (x::r).length 3 (fun k=>Yf1 ((x::r).getD k default))],⟨⟨rfl,rfl⟩,by simpa [le]using hg,trivial⟩,?_⟩
   (try dsimp only[v98,Yf1,go_sem,reduceIte])
   (try simp only[Yc,YBi,YBk,reduceCtorEq,YBj])
   have hlen:((x::r).length:Int)=r.length+1:=by simp
   refine⟨⟨by decide,by omega⟩,⟨by decide,by omega⟩,⟨by decide,by omega⟩,?_⟩
   have hlen2:(x::r).length-(0+1)=r.length:=by simp
   refine Loop.keep [0,0,2,0,0,0,13,0] Nat (fun i=>[(23,.int .i64 i)]) (fun i=>[(1,.box (Yf1 (lowI x (r.take i)))),(2,.box (Yf1 (YdN x (r.take i))))]) [] (fun i=>i<=r.length) (fun i=>r.length-i) ?_ ?_
   . refine⟨0,Nat.zero_le _,?_⟩
     (try dsimp only[Yf1,go_sem,reduceIte])
     simp only[Ya]
     refine⟨by simp,?_,?_⟩ <;> simp [lowI,YdN] <;> rfl
   . rintro i hi
     (try dsimp only[Yqw,Yqx,lessC,overC,Yf1,YBo,go_sem,reduceIte])
     (try simp only[Yc,YBi,YBk,reduceCtorEq,YBj])
     have ey:(x::r).getD (1+i) default=r.getD i default:=by rw[Nat.add_comm];rfl
     have elen:(((x::r).length-1:Nat):Int)=r.length:=by simp
     simp only[ey,elen]
     refine⟨fun hlt=>⟨⟨by omega,by omega⟩,r.getD i default,lowI x (r.take i),⟨Yai _,Yai _⟩,?_⟩,fun hge=>?_⟩
     . have eL:lowI x (r.take (i+1))=if r.getD i default<lowI x (r.take i)then r.getD i default else lowI x (r.take i):=YF (by omega)
       have eH:YdN x (r.take (i+1))=if YdN x (r.take i)<r.getD i default then r.getD i default else YdN x (r.take i):=YF (by omega)
       have hw:=Ye9 (i:=i) (n:=r.length) (by omega) (by omega)
       refine⟨fun h1=>⟨YdN x (r.take i),r.getD i default,⟨Yai _,Yai _⟩,fun h2=>⟨i+1,by omega,by omega,?_⟩,fun h2=>⟨i+1,by omega,by omega,?_⟩⟩,
         fun h1=>⟨YdN x (r.take i),r.getD i default,⟨Yai _,Yai _⟩,fun h2=>⟨i+1,by omega,by omega,?_⟩,fun h2=>⟨i+1,by omega,by omega,?_⟩⟩⟩
       . simp only[eL,eH,if_pos h1,if_pos h2,hw,Ya]
         simp
       . simp only[eL,eH,if_pos h1,if_neg h2,hw,Ya]
         simp
       . simp only[eL,eH,if_neg h1,if_pos h2,hw,Ya]
         simp
       . simp only[eL,eH,if_neg h1,if_neg h2,hw,Ya]
         simp
     . obtain rfl:i=r.length:=by omega
       rw[List.take_length]
       have hl:=Ypn x r
       have hh:=YmT x r
       refine⟨lowI x r,⟨Yai _,hbig _ hl.1,hd0,hd1⟩,by decide,by decide,YdN x r,⟨Yai _,hbig _ hh.1,hd0,hd1⟩,by decide,by decide,?_⟩
       have h:k (.tup [.agg (enc2 (Ynd d x r).1),.int .i64 (Ynd d x r).2]) []:=h
       unfold Ynd YzY at h
       refine⟨fun hb=>?_,fun hb=>?_⟩
       . rw[if_neg (by rw[<-Bool.not_and,YBF]at hb;rw[hb];simp)]at h
         exact YC (show k _ []from h) (Yz (.tup [.agg (enc2 (0,0)),.int .i64 7]) ⟨⟨trivial,trivial,trivial⟩,trivial,trivial⟩) (fun _=>by simp [enc2,Yk,Yo])
       . rw[if_pos (by rw[<-Bool.not_and,Bool.not_eq_false']at hb;exact hb)]at h
         exact YC (show k _ []from h) (Yz (.tup [.agg (enc2 ((rndF false (lowI x r) d).1,(rndF true (YdN x r) d).1)),.int .i64 0]) ⟨⟨trivial,trivial,trivial⟩,trivial,trivial⟩) (fun _=>by simp [enc2,Yk,Yo])
 . exact h.1.elim
def v94:VF:=⟨37,[.cell 4 true 2,.tmp 5],(ZR [u1 2 .box [.tm 0],u1 3 .box [.tm 1],Zn 4,Zi 5 0] (.seq (ZR [Zt 7 2 2,Zt 8 2 3,u1 9 (.buildSlice 2 2 [(.int .i64 0),(.int .i64 0)] [(0,2),(2,2)]) [.tm 7,.tm 8],Zc 10 75 9,Zm 6 10] (ZR [Zm 11 6,Zq 12 .neq 11 0] (ZC 12 (ZR [u1 13 (.build [(.int .i64 0),(.int .i64 0)] []) [],Zm 14 6,Zs 2 4 13,Zm 5 14] .ret) .skip))) (.seq (ZR [Za 15 1 2,Zf 16 1 15,Zq 17 .eql 16 4611686018427387904,Zm 18 17,Zj 19 18 true 1 3,Zh 20 18 true 1 19,u2 21 18 true (.cmp .eql) [.tm 20,.cn (.int .i64 4611686018427387904)],u1 22 .and [.tm 18,.tm 21]] (ZC 22 (ZR [u1 23 (.build [(.int .i64 0),(.int .i64 0)] []) [],Zs 2 4 23,Zi 5 7] .ret) .skip)) (ZR [Za 24 0 2,Zf 25 1 24,Za 26 0 3,Zf 27 1 26,Zo 28 .add 25 27,Za 29 1 2,Zf 30 1 29,Za 31 1 3,Zf 32 1 31,Zo 33 .add 30 32,Zd 34 113 28 33,Ze 35 0 34,Ze 36 1 34,Zs 2 4 35,Zm 5 36] .ret))))⟩
theorem YA5:Yg YBm Tryz.f94=some v94:=by kernel_rfl
def v71:VF:=⟨26,[.cell 4 true 2,.tmp 5],(ZR [u1 2 .box [.tm 0],u1 3 .box [.tm 1],Zn 4,Zi 5 0] (.seq (ZR [Zt 7 2 2,Zt 8 2 3,u1 9 (.buildSlice 2 2 [(.int .i64 0),(.int .i64 0)] [(0,2),(2,2)]) [.tm 7,.tm 8],Zc 10 75 9,Zm 6 10] (ZR [Zm 11 6,Zq 12 .neq 11 0] (ZC 12 (ZR [u1 13 (.build [(.int .i64 0),(.int .i64 0)] []) [],Zm 14 6,Zs 2 4 13,Zm 5 14] .ret) .skip))) (ZR [Zt 15 2 2,Za 16 1 3,Zf 17 1 16,u1 18 .neg [.tm 17],Za 19 0 3,Zf 20 1 19,u1 21 .neg [.tm 20],u1 22 (.build [(.int .i64 0),(.int .i64 0)] [(0,1),(1,1)]) [.tm 18,.tm 21],Zd 23 94 15 22,Ze 24 0 23,Ze 25 1 23,Zs 2 4 24,Zm 5 25] .ret)))⟩
theorem YAK:Yg YBm Tryz.f71=some v71:=by kernel_rfl
def v76:VF:=⟨45,[.cell 6 true 2,.tmp 7],(ZR [u1 3 .box [.tm 0],Zn 6,Zi 7 0] (ZR [Zt 9 2 3,u1 10 (.buildSlice 2 1 [(.int .i64 0),(.int .i64 0)] [(0,2)]) [.tm 9],Zc 11 75 10,Zm 8 11] (.seq (.block 0 (ZR [Zm 13 8,Zq 14 .neq 13 0,Zm 12 14] (ZC 12 (ZR [u1 15 (.build [(.int .i64 0),(.int .i64 0)] []) [],Zm 16 8,Zs 2 6 15,Zm 7 16] .ret) (ZR [Zm 18 2,Zq 19 .lss 18 1,Zm 20 19,Zg 21 20 false 2,u2 22 20 false (.call 97) [.tm 21],u2 23 20 false .not [.tm 22],u1 24 .or [.tm 20,.tm 23],Zm 25 24,Zg 26 25 false 1,u2 27 25 false (.call 97) [.tm 26],u2 28 25 false .not [.tm 27],u1 29 .or [.tm 25,.tm 28],Zm 17 29] (ZC 17 (ZR [u1 30 (.build [(.int .i64 0),(.int .i64 0)] []) [],Zs 2 6 30,Zi 7 2] .ret) .skip))))) (.seq (.draw [] [Zu 31 2,w1 32 (.conv .u64) [.tm 31],Zy 33 0 3,Zv 34 1 33,Zu 35 1,Zy 37 1 3,Zv 38 1 37,Zu 39 1,Zz 36 99 34 35,Zz 40 99 38 39,w1 41 (.buildSlice 3 2 [(.bool false),(.int .u64 0),(.int .u64 0)] [(0,3),(3,3)]) [.tm 36,.tm 40],Zz 42 98 32 41,ZE 43 0 42,ZE 44 1 42,ZS 2 6 43,Zu 7 44]) .ret))))⟩
theorem YAP:Yg YBm Tryz.f76=some v76:=by kernel_rfl
def v41:VF:=⟨26,[.cell 4 true 2,.tmp 5],(ZR [u1 2 .box [.tm 0],u1 3 .box [.tm 1],Zn 4,Zi 5 0] (.seq (ZR [Zt 7 2 2,Zt 8 2 3,u1 9 (.buildSlice 2 2 [(.int .i64 0),(.int .i64 0)] [(0,2),(2,2)]) [.tm 7,.tm 8],Zc 10 75 9,Zm 6 10] (ZR [Zm 11 6,Zq 12 .neq 11 0] (ZC 12 (ZR [u1 13 (.build [(.int .i64 0),(.int .i64 0)] []) [],Zm 14 6,Zs 2 4 13,Zm 5 14] .ret) .skip))) (ZR [Za 15 0 2,Zf 16 1 15,Za 17 0 3,Zf 18 1 17,u1 19 .min [.tm 16,.tm 18],Za 20 1 2,Zf 21 1 20,Za 22 1 3,Zf 23 1 22,u1 24 .max [.tm 21,.tm 23],u1 25 (.build [(.int .i64 0),(.int .i64 0)] [(0,1),(1,1)]) [.tm 19,.tm 24],Zs 2 4 25,Zi 5 0] .ret)))⟩
theorem YAp:Yg YBm Tryz.f41=some v41:=by kernel_rfl
def iv2C(f:Iv->Iv->Iv×Int):Ctr:={ alias:=false,of:=fun a=>match a with
 | [.agg [.int .i64 x,.int .i64 y],.agg [.int .i64 z,.int .i64 w]]=> .fin (.tup [.agg (enc2 (f (x,y) (z,w)).1),.int .i64 (f (x,y) (z,w)).2]) []
 |_=>noC}
def addC:=iv2C addF
def subC:=iv2C subF
def hullC:=iv2C YmU
def sclC:Ctr:={ alias:=false,of:=fun a=>match a with
 | [.agg [.int .i64 x,.int .i64 y],.int .i64 n,.int .i64 d]=> .fin (.tup [.agg (enc2 (sclF (x,y) n d).1),.int .i64 (sclF (x,y) n d).2]) []
 |_=>noC}
def P3:Env:={ ct:=fun n=>match n with|97=>some numC|75=>some ivlC|99=>some timC|119=>some overC|98=>some spanC|113=>some fitC|_=>none,fn:=fun _=>none,meth:=fun _ _=>none}
theorem Yto:P3.ct 75=some ivlC:=rfl
theorem Yqy:P3.ct 113=some fitC:=rfl
theorem P3_ok:Yn YBm P3:=by
 refine⟨fun f c h=>?_,fun f vf h=>?_,(fun _ _ _ h=>by cases h),by kernel_rfl,(fun _ h=>by cases h)⟩
 . simp only[P3]at h
   split at h
   . cases h;exact⟨Ymg,Tryz.f97,Tryz.func97,by kernel_rfl,by kernel_rfl⟩
   . cases h;exact⟨YsT,Tryz.f75,Tryz.func75,by kernel_rfl,by kernel_rfl⟩
   . cases h;exact⟨Yte,Tryz.f99,Tryz.func99,by kernel_rfl,by kernel_rfl⟩
   . cases h;exact⟨Ylg,Tryz.f119,Tryz.func119,by kernel_rfl,by kernel_rfl⟩
   . cases h;exact⟨Yp5,Tryz.f98,Tryz.func98,by kernel_rfl,by kernel_rfl⟩
   . cases h;exact⟨YsP,Tryz.f113,Tryz.func113,by kernel_rfl,by kernel_rfl⟩
   . cases h
 . cases h
theorem Ydw{k:SV->List HO->Prop}{al:Bool}{hp:List HO}{r:Iv×Int}(h:k (.tup [.agg (enc2 r.1),.int .i64 r.2]) []):Yw al k (.tup [.agg [.int .i64 r.1.1,.int .i64 r.1.2],.int .i64 r.2]) hp:=
 YC (show k _ []from h) (Yz (.tup [.agg (enc2 r.1),.int .i64 r.2]) ⟨⟨trivial,trivial,trivial⟩,trivial,trivial⟩) (fun _=>by simp [enc2,Yk,Yo])
theorem YtJ{a b:Int}(ha: -9223372036854775808<=a/\a<=9223372036854775808)(hb: -9223372036854775808<=b/\b<=9223372036854775808):big (a*b):=by
 unfold big
 rw[Int.natAbs_mul]
 have:=Nat.mul_le_mul (show a.natAbs<=9223372036854775808 by omega) (show b.natAbs<=9223372036854775808 by omega)
 omega
theorem Ys1{a:Int}(h: -4611686018427387904<=a/\a<=4611686018427387904):IntKind.i64.wrap (0-a)= -a:=by rw[YBn _ (by omega)];omega
theorem YxD:addC.ok YBm 94:=by
 refine Yb Tryz.func94 YA5 P3_ok 200 addC fun args k h=>⟨args,?_⟩
 simp only[addC,iv2C]at h
 split at h
 . rename_i x y z w
   refine⟨by simp [leL,le],?_⟩
   (try dsimp only[v94,Yto,Yqy,ivlC,fitC,enc2,go_sem,reduceIte])
   (try simp only[Yc,YBi,YBk,reduceCtorEq,YBj])
   have h:k (.tup [.agg (enc2 (addF (x,y) (z,w)).1),.int .i64 (addF (x,y) (z,w)).2]) []:=h
   refine⟨by decide,[(x,y),(z,w)],⟨⟨rfl,rfl,fun k hk=>match k,hk with|0,_=>Ye _|1,_=>Ye _⟩,by simp⟩,fun hc=>?_,fun hc=>?_⟩
   . rw[addF,if_pos hc]at h
     exact Ydw (r:=errI (ivE [(x,y),(z,w)])) h
   . obtain⟨⟨h1,h2,h3⟩,h4,h5,h6⟩:=ivE2 hc
     dsimp only at h1 h2 h3 h4 h5 h6
     rw[addF,if_neg (by rw[hc];simp)]at h
     dsimp only at h
     refine⟨fun hm=>?_,fun hm=>⟨by decide,by decide,?_⟩⟩
     . rw[YBq,decide_eq_true_eq,decide_eq_true_eq]at hm
       have:YcC (y+w)=false:=by
         rw[Bool.eq_false_iff];intro hh;have:=numOk_iff.1 hh;omega
       rw[fitF,this,Bool.and_false]at h
       exact Ydw (r:=((0,0),7)) h
     . rw[Bool.and_eq_false_iff,decide_eq_false_iff_not,decide_eq_false_iff_not]at hm
       rw[YBn (x+z) (by omega),YBn (y+w) (by omega)]
       exact Ydw h
 . exact h.1.elim
def P4:Env:={ ct:=fun n=>match n with|97=>some numC|75=>some ivlC|99=>some timC|119=>some overC|98=>some spanC|113=>some fitC|94=>some addC|_=>none,fn:=fun _=>none,meth:=fun _ _=>none}
theorem Ytq:P4.ct 97=some numC:=rfl
theorem YkI:P4.ct 75=some ivlC:=rfl
theorem Yts:P4.ct 99=some timC:=rfl
theorem Ytr:P4.ct 98=some spanC:=rfl
theorem Ytp:P4.ct 94=some addC:=rfl
theorem Ytt:Yn YBm P4:=by
 refine⟨fun f c h=>?_,fun f vf h=>?_,(fun _ _ _ h=>by cases h),by kernel_rfl,(fun _ h=>by cases h)⟩
 . simp only[P4]at h
   split at h
   . cases h;exact⟨Ymg,Tryz.f97,Tryz.func97,by kernel_rfl,by kernel_rfl⟩
   . cases h;exact⟨YsT,Tryz.f75,Tryz.func75,by kernel_rfl,by kernel_rfl⟩
   . cases h;exact⟨Yte,Tryz.f99,Tryz.func99,by kernel_rfl,by kernel_rfl⟩
   . cases h;exact⟨Ylg,Tryz.f119,Tryz.func119,by kernel_rfl,by kernel_rfl⟩
   . cases h;exact⟨Yp5,Tryz.f98,Tryz.func98,by kernel_rfl,by kernel_rfl⟩
   . cases h;exact⟨YsP,Tryz.f113,Tryz.func113,by kernel_rfl,by kernel_rfl⟩
   . cases h;exact⟨YxD,Tryz.f94,Tryz.func94,by kernel_rfl,by kernel_rfl⟩
   . cases h
 . cases h
theorem Ytd:subC.ok YBm 71:=by
 refine Yb Tryz.func71 YAK Ytt 200 subC fun args k h=>⟨args,?_⟩
 simp only[subC,iv2C]at h
 split at h
 . rename_i x y z w
   refine⟨by simp [leL,le],?_⟩
   (try dsimp only[v71,YkI,Ytp,ivlC,addC,iv2C,enc2,go_sem,reduceIte])
   (try simp only[Yc,YBi,YBk,reduceCtorEq,YBj])
   have h:k (.tup [.agg (enc2 (subF (x,y) (z,w)).1),.int .i64 (subF (x,y) (z,w)).2]) []:=h
   refine⟨by decide,[(x,y),(z,w)],⟨⟨rfl,rfl,fun k hk=>match k,hk with|0,_=>Ye _|1,_=>Ye _⟩,by simp⟩,fun hc=>?_,fun hc=>?_⟩
   . rw[subF,if_pos hc]at h
     exact Ydw (r:=errI (ivE [(x,y),(z,w)])) h
   . obtain⟨⟨h1,h2,h3⟩,h4,h5,h6⟩:=ivE2 hc
     dsimp only at h1 h2 h3 h4 h5 h6
     rw[subF,if_neg (by rw[hc];simp)]at h
     dsimp only at h
     rw[Ys1 h4,Ys1 h5]
     exact⟨by decide,by decide,Ydw h⟩
 . exact h.1.elim
theorem Yun:hullC.ok YBm 41:=by
 refine Yb Tryz.func41 YAp Ytt 200 hullC fun args k h=>⟨args,?_⟩
 simp only[hullC,iv2C]at h
 split at h
 . rename_i x y z w
   refine⟨by simp [leL,le],?_⟩
   (try dsimp only[v41,YkI,ivlC,enc2,go_sem,reduceIte])
   (try simp only[Yc,YBi,YBk,reduceCtorEq,YBj])
   have h:k (.tup [.agg (enc2 (YmU (x,y) (z,w)).1),.int .i64 (YmU (x,y) (z,w)).2]) []:=h
   refine⟨by decide,[(x,y),(z,w)],⟨⟨rfl,rfl,fun k hk=>match k,hk with|0,_=>Ye _|1,_=>Ye _⟩,by simp⟩,fun hc=>?_,fun hc=>?_⟩
   . rw[YmU,if_pos hc]at h
     exact Ydw (r:=errI (ivE [(x,y),(z,w)])) h
   . obtain⟨⟨h1,h2,h3⟩,h4,h5,h6⟩:=ivE2 hc
     dsimp only at h1 h2 h3 h4 h5 h6
     rw[YmU,if_neg (by rw[hc];simp)]at h
     exact Ydw (r:=((_,_),_)) h
 . exact h.1.elim
theorem YzS:sclC.ok YBm 76:=by
 refine Yb Tryz.func76 YAP Ytt 200 sclC fun args k h=>⟨args,?_⟩
 simp only[sclC]at h
 split at h
 . rename_i x y n d
   refine⟨by simp [leL,le],?_⟩
   (try dsimp only[v76,YkI,Ytq,Yts,Ytr,ivlC,numC,timC,spanC,Yf1,enc2,go_sem,reduceIte])
   (try simp only[Yc,YBi,YBk,reduceCtorEq,YBj])
   have h:k (.tup [.agg (enc2 (sclF (x,y) n d).1),.int .i64 (sclF (x,y) n d).2]) []:=h
   refine⟨by decide,[(x,y)],⟨⟨rfl,rfl,fun k hk=>match k,hk with|0,_=>Ye _⟩,by simp⟩,?_⟩
   refine⟨fun hc=>?_,fun hc=>?_⟩
   . rw[sclF,if_pos hc]at h
     exact Ydw (r:=errI (ivE [(x,y)])) h
   . obtain⟨h1,h2,h3⟩:=ivE1 hc
     dsimp only at h1 h2 h3
     rw[sclF,if_neg (by rw[hc];simp)]at h
     dsimp only at h
     have hnd:=numOk_iff (x:=d)
     have hnn:=numOk_iff (x:=n)
     have hcond:(decide (d<1) || !YcC d|| !YcC n)=true↔(d<1\/4611686018427387904<d\/n< -4611686018427387904\/4611686018427387904<n):=by
       rw[YBQ,YBQ,decide_eq_true_eq,YBF,YBF,Bool.eq_false_iff,Bool.eq_false_iff,ne_eq,ne_eq,hnd,hnn]
       omega
     refine⟨fun hb=>?_,fun hb=>?_⟩
     . rw[if_pos (hcond.1 hb)]at h
       exact Ydw (r:=errI 2) h
     . have hb':¬(d<1\/4611686018427387904<d\/n< -4611686018427387904\/4611686018427387904<n):=fun hh=>by
         have:=hcond.2 hh
         rw[hb]at this;cases this
       rw[if_neg hb']at h
       rw[YBJ d (by omega)]
       refine⟨⟨⟨by omega,by omega⟩,by omega,by omega⟩,⟨⟨by omega,by omega⟩,by omega,by omega⟩,by decide,
         x*n,[y*n],⟨⟨rfl,rfl,fun k hk=>match k,hk with|0,_=>Ye _|1,_=>Ye _⟩,by simp,?_,by omega,by omega⟩,by decide,by decide,Ydw h⟩
       intro p hp
       simp only[YBC,List.not_mem_nil,or_false]at hp
       rcases hp with rfl|rfl <;> exact YtJ (by omega) (by omega)
 . exact h.1.elim
def v56:VF:=⟨12,[.tmp 2,.tmp 3],(ZR [Zi 2 0,Zi 3 0] (.seq (ZR [Zm 5 0,Zc 6 79 5,Zm 4 6] (ZR [Zm 7 4,Zq 8 .neq 7 0] (ZC 8 (ZR [Zm 9 4,Zi 2 0,Zm 3 9] .ret) .skip))) (ZR [Zm 10 0,Zc 11 80 10,Zm 2 11,Zi 3 0] .ret)))⟩
theorem YAz:Yg YBm Tryz.f56=some v56:=by kernel_rfl
def v38:VF:=⟨36,[.tmp 8],(ZR [u1 8 .mov [.cn (.bool false)]] (ZR [Zm 9 0,Zq 10 .geq 9 0,Zm 11 10,Zg 12 11 true 0,Zg 13 11 true 1,u2 14 11 true (.cmp .lss) [.tm 12,.tm 13],u1 15 .and [.tm 11,.tm 14],Zm 16 15,Zg 17 16 true 1,u2 18 16 true (.cmp .leq) [.tm 17,.cn (.int .i64 139)],u1 19 .and [.tm 16,.tm 18],Zm 20 19,Zg 21 20 true 2,u2 22 20 true (.cmp .gtr) [.tm 21,.cn (.int .i64 0)],u1 23 .and [.tm 20,.tm 22],Zm 24 23,Zg 25 24 true 2,u2 26 24 true (.cmp .leq) [.tm 25,.cn (.int .i64 16)],u1 27 .and [.tm 24,.tm 26],Zm 28 27,Zg 29 28 true 3,u2 30 28 true (.cmp .gtr) [.tm 29,.cn (.int .i64 0)],u1 31 .and [.tm 28,.tm 30],Zm 32 31,Zg 33 32 true 3,u2 34 32 true (.cmp .leq) [.tm 33,.cn (.int .i64 16)],u1 35 .and [.tm 32,.tm 34],Zm 8 35] .ret))⟩
theorem YAm:Yg YBm Tryz.f38=some v38:=by kernel_rfl
def v39:VF:=⟨61,[.tmp 10],(ZR [Zi 10 0] (.seq (.draw [(11,.box [(.int .i64 0),(.int .i64 0),(.int .i64 0),(.int .i64 0),(.int .i64 0),(.int .i64 0),(.int .i64 0)])] [Zu 19 0,Zu 20 2,w1 21 .rem [.tm 20,.cn (.int .i64 12)],ZX 22 7 19 21,Zw 23 7 22,Zu 24 0,Zu 25 1,w1 26 .rem [.tm 25,.cn (.int .i64 12)],ZX 27 7 24 26,Zw 28 7 27,Zz 29 72 23 28,Zu 18 29,ZE 30 0 18,ZE 31 1 18,ZS 7 11 30,Zu 12 31]) (ZR [Zt 33 7 11,Zc 34 73 33,Zm 32 34,Ze 35 0 32,Ze 36 1 32,Ze 37 2 32,Zm 13 35,Zm 14 36,Zm 15 37] (ZR [Zm 39 13,Zm 40 14,Zm 41 2,u1 42 .quo [.tm 41,.cn (.int .i64 12)],Zm 43 1,u1 44 .quo [.tm 43,.cn (.int .i64 12)],Zo 45 .sub 42 44,Zo 46 .mul 40 45,u1 47 (.build [(.int .i64 0),(.int .i64 0)] [(0,1),(1,1)]) [.cn (.int .i64 2),.tm 46],Zm 48 4,Zm 49 14,u1 50 (.build [(.int .i64 0),(.int .i64 0)] [(0,1),(1,1)]) [.tm 48,.tm 49],Zm 51 3,Zm 52 14,u1 53 .neg [.tm 52],u1 54 (.build [(.int .i64 0),(.int .i64 0)] [(0,1),(1,1)]) [.tm 51,.tm 53],u1 55 (.buildSlice 2 3 [(.int .i64 0),(.int .i64 0)] [(0,2),(2,2),(4,2)]) [.tm 47,.tm 50,.tm 54],u1 56 (.append 2 16 [(.int .i64 0),(.int .i64 0)]) [.tm 39,.tm 55],Zc 57 56 56,Zm 38 57,Ze 58 0 38,Ze 59 1 38,Zm 16 58,Zm 17 59] (ZR [Zm 60 16,Zm 10 60] .ret)))))⟩
theorem YAn:Yg YBm Tryz.f39=some v39:=by kernel_rfl
def sgnF(l:List (Int×Int)):Int×Int:=if YfL l≠0 then(0,YfL l)else(Yli l,0)
def sgnC:Ctr:={ alias:=false,of:=fun l=>match l with
 | [.vs _ _ n sz get]=> .ex (List (Int×Int)) fun l=> .pre (lsP 2 enc2 n sz get l/\n<=1000000000000) (.fin (.tup [.int .i64 (sgnF l).1,.int .i64 (sgnF l).2]) [])
 |_=>noC}
def TK0:Env:={ ct:=fun n=>match n with|79=>some chkTC|80=>some signC|_=>none,fn:=fun _=>none,meth:=fun _ _=>none}
theorem YqR:TK0.ct 79=some chkTC:=rfl
theorem YqS:TK0.ct 80=some signC:=rfl
theorem Yxf:Yn YBm TK0:=by
 refine⟨fun f c h=>?_,fun f vf h=>?_,(fun _ _ _ h=>by cases h),by kernel_rfl,(fun _ h=>by cases h)⟩
 . simp only[TK0]at h
   split at h
   . cases h;exact⟨Yov,Tryz.f79,Tryz.func79,by kernel_rfl,by kernel_rfl⟩
   . cases h;exact⟨Yp3,Tryz.f80,Tryz.func80,by kernel_rfl,by kernel_rfl⟩
   . cases h
 . cases h
theorem sgn_c:sgnC.ok YBm 56:=by
 refine Yb Tryz.func56 YAz Yxf 600 sgnC fun args k h=>?_
 simp only[sgnC]at h
 split at h
 . rename_i tt z n sz get
   obtain⟨l,⟨⟨rfl,rfl,hg⟩,hn⟩,h⟩:=h
   refine⟨[.vs tt z l.length 2 (fun k=>enc2 (l.getD k default))],⟨⟨id,rfl,rfl,rfl,hg⟩,trivial⟩,?_⟩
   dsimp only[v56,YqR,YqS,chkTC,signC,enc2,go_sem,reduceIte,YBi]
   simp only[Yc,YBi,YBk,reduceCtorEq,YBj]
   refine⟨l,⟨⟨rfl,rfl,fun q _=>Ye _⟩,by omega⟩,fun hc=>?_,fun hc=>?_⟩
   . rw[sgnF,if_pos hc]at h
     exact Yag h
   . rw[sgnF,if_neg (fun hh=>hh hc)]at h
     obtain⟨hl,hn⟩:=Yk1 hc
     refine⟨l,⟨⟨rfl,rfl,fun q _=>Ye _⟩,fun x hx=>?_,by omega⟩,Yag h⟩
     have:=hl x hx
     simp only[okT0,YBK,decide_eq_false_iff_not]at this
     unfold okT;omega
 . exact h.1.elim
def YkW(lo hi p q:Int):Bool:=decide (0<=lo)&&decide (lo<hi)&&decide (hi<=139)&&decide (0<p)&&decide (p<=16)&&decide (0<q)&&decide (q<=16)
def bvalC:Ctr:={ alias:=false,of:=fun l=>match l with
 | [.int .i64 lo,.int .i64 hi,.int .i64 p,.int .i64 q]=> .fin (.bool (YkW lo hi p q)) []
 |_=>noC}
theorem YsH:bvalC.ok YBm 38:=by
 refine Yb Tryz.func38 YAm YnK 600 bvalC fun args k h=>?_
 simp only[bvalC]at h
 split at h
 . rename_i lo hi p q
   refine⟨[.int .i64 lo,.int .i64 hi,.int .i64 p,.int .i64 q],by simp [leL,le],?_⟩
   dsimp only[v38,go_sem,reduceIte,YBi]
   simp only[Yc,YBi,YBk,reduceCtorEq,YBj]
   exact YN h
 . exact h.1.elim
theorem YtU{lo hi p q:Int}(h:YkW lo hi p q=true):0<=lo/\lo<hi/\hi<=139/\0<p/\p<=16/\0<q/\q<=16:=by
 simp only[YkW,YBq,decide_eq_true_eq]at h;omega
def senR(L:Nat->Rt)(lo hi:Int):Rt:=(Ya7 (L (hi%12).toNat) (L (lo%12).toNat) (-1)).1
def senL(L:Nat->Rt)(lo hi p q:Int):List (Int×Int):=
 trmL (senR L lo hi)++[(2,trmD (senR L lo hi)*(hi/12-lo/12)),(q,trmD (senR L lo hi)),(p, -trmD (senR L lo hi))]
def senF(L:Nat->Rt)(lo hi p q:Int):Int:=(sgnF (senL L lo hi p q)).1
def senC:Ctr:={ alias:=false,of:=fun l=>match l with
 | [.vs _ _ n sz get,.int .i64 lo,.int .i64 hi,.int .i64 p,.int .i64 q]=> .ex (Nat->Rt) fun L=> .pre ((n=12/\sz=7/\∀k,k<12->leXL (get k) (encR (L k)))/\YkW lo hi p q=true)
     (.fin (.int .i64 (senF L lo hi p q)) [])
 |_=>noC}
def TK1:Env:={ ct:=fun n=>match n with|72=>some Y2|73=>some trmC|56=>some sgnC|_=>none,fn:=fun _=>none,meth:=fun _ _=>none}
theorem YhN:TK1.ct 72=some Y2:=rfl
theorem YhO:TK1.ct 73=some trmC:=rfl
theorem YhM:TK1.ct 56=some sgnC:=rfl
theorem Yxg:Yn YBm TK1:=by
 refine⟨fun f c h=>?_,fun f vf h=>?_,(fun _ _ _ h=>by cases h),by kernel_rfl,(fun _ h=>by cases h)⟩
 . simp only[TK1]at h
   split at h
   . cases h;exact⟨YoH,Tryz.f72,Tryz.func72,by kernel_rfl,by kernel_rfl⟩
   . cases h;exact⟨YvG,Tryz.f73,Tryz.func73,by kernel_rfl,by kernel_rfl⟩
   . cases h;exact⟨sgn_c,Tryz.f56,Tryz.func56,by kernel_rfl,by kernel_rfl⟩
   . cases h
 . cases h
theorem YzT:senC.ok YBm 39:=by
 refine Yb Tryz.func39 YAn Yxg 600 senC fun args k h=>?_
 simp only[senC]at h
 split at h
 . rename_i tv zv n sz get lo hi p q
   obtain⟨L,⟨⟨rfl,rfl,hg⟩,hv⟩,h⟩:=h
   refine⟨[.vs tv zv 12 7 (fun k=>encR (L k)),.int .i64 lo,.int .i64 hi,.int .i64 p,.int .i64 q],⟨⟨id,rfl,rfl,rfl,hg⟩,⟨rfl,rfl⟩,⟨rfl,rfl⟩,⟨rfl,rfl⟩,⟨rfl,rfl⟩,trivial⟩,?_⟩
   dsimp only[v39,Yal,YhN,YhO,Y2,YbX,trmC,encR,YhM,sgnC,go_sem,reduceIte,YBi]
   simp only[Yc,YBi,YBk,reduceCtorEq,YBj]
   obtain⟨v0,v1,v2,v3,v4,v5,v6⟩:=YtU hv
   obtain⟨a,rfl⟩:∃m:Nat,lo=(m:Int):=⟨lo.toNat,by omega⟩
   obtain⟨b,rfl⟩:∃m:Nat,hi=(m:Int):=⟨hi.toNat,by omega⟩
   have ea:(a:Int).tmod 12=((a%12:Nat):Int):=by rw[Int.tmod_eq_emod_of_nonneg (by omega)];omega
   have eb:(b:Int).tmod 12=((b%12:Nat):Int):=by rw[Int.tmod_eq_emod_of_nonneg (by omega)];omega
   simp only[ea,eb,YBo]
   obtain⟨r,hr⟩:∃r,r=senR L a b:=⟨_,rfl⟩
   have hr':(Ya7 (L (b%12)) (L (a%12)) (-1)).1=r:=by rw[hr,senR,show((a:Int)%12).toNat=a%12 by omega,show((b:Int)%12).toNat=b%12 by omega]
   simp only[hr']
   have e2:IntKind.i64.wrap (IntKind.i64.wrap ((b:Int).tdiv 12)-IntKind.i64.wrap ((a:Int).tdiv 12))=(b:Int)/12-(a:Int)/12:=by
     rw[Int.tdiv_eq_ediv_of_nonneg (by omega),Int.tdiv_eq_ediv_of_nonneg (by omega),YBn ((a:Int)/12) (by omega),YBn ((b:Int)/12) (by omega),YBn _ (by omega)]
   refine⟨by decide,⟨by omega,by omega⟩,by decide,⟨by omega,by omega⟩,by decide,by decide,?_⟩
   by_cases hc:chkR r=0
   . rw[if_neg (fun hh=>hh hc)]
     dsimp only[Yal,YhN,YhO,Y2,YbX,trmC,encR,YhM,sgnC,go_sem,reduceIte,YBi]
     simp only[Yc,YBi,YBk,reduceCtorEq,YBj]
     have hlen:=Ydr r
     have hd:=Yd6 hc
     have hm:=YaX (x:=r.n) (y:=(b:Int)/12-(a:Int)/12) (X:=1000) (Y:=20) (by omega) (by omega)
     rw[e2]
     intro z
     rw[YBn (r.n*((b:Int)/12-(a:Int)/12)) (by omega),show IntKind.i64.wrap (0-r.n)= -r.n by rw[YBn _ (by omega)];omega]
     have hS:senL L a b p q=Yy r++[(2,r.n*((b:Int)/12-(a:Int)/12)),(q,r.n),(p, -r.n)]:=by
       rw[senL,<-hr,trmL,if_pos hc,trmD,if_pos hc]
     have h:k (.int .i64 (senF L a b p q)) []:=h
     rw[senF,hS]at h
     refine⟨by decide,by decide,by decide,by decide,by decide,by decide,⟨by unfold YV;omega,fun k hk=>YmE hk⟩,_,⟨⟨rfl,?_,fun j hj=>?_⟩,by omega⟩,by decide,by decide,Yj h⟩
     . simp
     . by_cases h2:j<(Yy r).length
       . simp only[if_pos h2]
         rw[Ybi h2]
         exact Ye _
       . simp only[if_neg h2]
         rw[Ybj (by omega)]
         rcases(show j-(Yy r).length=0\/j-(Yy r).length=1\/j-(Yy r).length=2 by omega)with e|e|e <;> (rw[e];exact Ye _)
   . rw[if_pos hc]
     dsimp only[Yal,YhN,YhO,Y2,YbX,trmC,encR,YhM,sgnC,go_sem,reduceIte,YBi]
     simp only[Yc,YBi,YBk,reduceCtorEq,YBj]
     rw[e2,show IntKind.i64.wrap (0*((b:Int)/12-(a:Int)/12))=0*((b:Int)/12-(a:Int)/12)by rw[Int.zero_mul];decide,show IntKind.i64.wrap (0-0)= -0 by decide]
     have hS:senL L a b p q=[(2,0*((b:Int)/12-(a:Int)/12)),(q,0),(p, -0)]:=by
       rw[senL,<-hr,trmL,if_neg hc,trmD,if_neg hc];rfl
     have h:k (.int .i64 (senF L a b p q)) []:=h
     rw[senF,hS]at h
     refine⟨by decide,by decide,by decide,by decide,by decide,by decide,⟨by unfold YV;omega,fun k hk=>YmE hk⟩,_,⟨rfl,rfl,fun j hj=>?_⟩,by decide,by decide,Yj h⟩
     rcases(show j=0\/j=1\/j=2 by omega)with rfl|rfl|rfl <;> exact Ye _
 . exact h.1.elim
def v16:VF:=⟨34,[.tmp 10,.tmp 11],(ZR [u1 5 .box [.tm 0],Zi 10 0,Zi 11 0] (ZR [Zt 15 27 5,Zc 16 29 15,Zm 14 16,Ze 17 0 14,Ze 18 1 14,Zm 12 17,Zm 13 18] (.seq (ZR [Zm 19 13,Zq 20 .neq 19 0] (ZC 20 (ZR [Zm 21 13,Zi 10 0,Zm 11 21] .ret) .skip)) (.seq (ZR [Zm 22 1,Zm 23 2,Zm 24 3,Zm 25 4,u1 26 (.call 38) [.tm 22,.tm 23,.tm 24,.tm 25],u1 27 .not [.tm 26]] (ZC 27 (ZR [Zi 10 0,Zi 11 2] .ret) .skip)) (ZR [Zm 28 12,Zm 29 1,Zm 30 2,Zm 31 3,Zm 32 4,u1 33 (.call 39) [.tm 28,.tm 29,.tm 30,.tm 31,.tm 32],Zm 10 33,Zi 11 0] .ret)))))⟩
theorem YAa:Yg YBm Tryz.f16=some v16:=by kernel_rfl
def v65:VF:=⟨14,[.cell 4 true 2],(ZR [u1 2 .box [.tm 0],Zn 4] (ZR [Zt 8 2 2,Zm 9 1,u1 10 (.call 76) [.tm 8,.tm 9,.cn (.int .i64 1)],Zm 7 10,Ze 11 0 7,Ze 12 1 7,Zn 5,Zs 2 5 11,Zm 6 12] (ZR [Zt 13 2 5,Zs 2 4 13] .ret)))⟩
theorem YAG:Yg YBm Tryz.f65=some v65:=by kernel_rfl
def v42:VF:=⟨11,[.cell 2 true 2],(ZR [u1 1 .box [.tm 0],Zn 2] (ZR [Zt 6 2 1,u1 7 (.call 76) [.tm 6,.cn (.int .i64 1),.cn (.int .i64 1000)],Zm 5 7,Ze 8 0 5,Ze 9 1 5,Zn 3,Zs 2 3 8,Zm 4 9] (ZR [Zt 10 2 3,Zs 2 2 10] .ret)))⟩
theorem YAq:Yg YBm Tryz.f42=some v42:=by kernel_rfl
def v37:VF:=⟨27,[.cell 4 true 2],(ZR [u1 2 .box [.tm 0],u1 3 .box [.tm 1],Zn 4] (ZR [Zt 8 2 3,Zt 9 2 2,Zd 10 71 8 9,Zm 7 10,Ze 11 0 7,Ze 12 1 7,Zn 5,Zs 2 5 11,Zm 6 12] (ZR [Za 13 0 5,Zf 14 1 13,Za 15 1 5,Zf 16 1 15,u1 17 .neg [.tm 16],u1 18 .max [.cn (.int .i64 0),.tm 14,.tm 17],Za 19 1 5,Zf 20 1 19,Za 21 0 5,Zf 22 1 21,u1 23 .neg [.tm 22],u1 24 .max [.tm 20,.tm 23],u1 25 (.build [(.int .i64 0),(.int .i64 0)] [(0,1),(1,1)]) [.tm 18,.tm 24],Zc 26 42 25,Zs 2 4 26] .ret)))⟩
theorem YAl:Yg YBm Tryz.f37=some v37:=by kernel_rfl
def v28:VF:=⟨11,[.tmp 4],(ZR [u1 2 .box [.tm 0],u1 3 .box [.tm 1],Zi 4 0] (.seq (.draw [] [Zw 5 3 2,Zw 7 27 3,w1 6 (.call 61) [.tm 5],w1 8 (.call 62) [.tm 7],w1 9 (.buildSlice 1 2 [(.int .i64 0)] [(0,1),(1,1)]) [.tm 6,.tm 8],w1 10 (.call 60) [.tm 9],Zu 4 10]) .ret))⟩
theorem YAf:Yg YBm Tryz.f28=some v28:=by kernel_rfl
def v36:VF:=⟨52,[.cell 12 true 2,.cell 13 true 2,.tmp 14],(ZR [u1 6 .box [.tm 0],u1 7 .box [.tm 1],Zn 12,Zn 13,Zi 14 0] (.seq (ZR [Zt 16 3 6,Zt 17 27 7,Zd 18 28 16 17,Zm 15 18] (ZR [Zm 19 15,Zq 20 .neq 19 0] (ZC 20 (.seq (.draw [] [Zw 21 2 12,Zw 22 2 13,Zu 23 15,⟨Zs 2 12 21,[.tm 13]⟩,ZS 2 13 22,Zu 14 23]) .ret) .skip))) (.seq (ZR [Zm 24 2,Zm 25 3,Zm 26 4,Zm 27 5,u1 28 (.call 38) [.tm 24,.tm 25,.tm 26,.tm 27],u1 29 .not [.tm 28]] (ZC 29 (.seq (.draw [] [Zw 30 2 12,Zw 31 2 13,⟨Zs 2 12 30,[.tm 13]⟩,ZS 2 13 31,w1 14 .mov [.cn (.int .i64 2)]]) .ret) .skip)) (ZR [Zt 33 3 6,Zt 34 27 7,Zm 35 2,u1 36 (.call 22) [.tm 33,.tm 34,.tm 35],Zm 32 36,Ze 37 0 32,Ze 38 1 32,Zs 2 12 37] (ZR [Zt 40 3 6,Zt 41 27 7,Zm 42 3,u1 43 (.call 22) [.tm 40,.tm 41,.tm 42],Zm 39 43,Ze 44 0 39,Ze 45 1 39,Zs 2 13 44] (.seq (.draw [] [Zw 46 2 12,Zu 47 4,Zw 49 2 13,Zu 50 5,Zz 48 65 46 47,Zz 51 65 49 50,ZS 2 12 48,ZS 2 13 51,w1 14 .mov [.cn (.int .i64 0)]]) .ret))))))⟩
theorem YAk:Yg YBm Tryz.f36=some v36:=by kernel_rfl
def v14:VF:=⟨49,[.cell 12 true 2,.tmp 13],(ZR [u1 6 .box [.tm 0],u1 7 .box [.tm 1],Zn 12,Zi 13 0] (ZR [Zt 20 3 6,Zt 21 27 7,Zm 22 2,Zm 23 3,Zm 24 4,Zm 25 5,u1 26 (.call 36) [.tm 20,.tm 21,.tm 22,.tm 23,.tm 24,.tm 25],Zm 19 26,Ze 27 0 19,Ze 28 1 19,Ze 29 2 19,Zn 14,Zn 15,Zs 2 14 27,Zs 2 15 28,Zm 16 29] (.seq (ZR [Zm 30 16,Zq 31 .neq 30 0] (ZC 31 (ZR [u1 32 (.build [(.int .i64 0),(.int .i64 0)] []) [],Zm 33 16,Zs 2 12 32,Zm 13 33] .ret) .skip)) (.seq (ZR [Zt 35 27 7,Zm 36 2,Zm 37 3,Zm 38 4,Zm 39 5,u1 40 (.call 16) [.tm 35,.tm 36,.tm 37,.tm 38,.tm 39],Zm 34 40,Ze 41 0 34,Ze 42 1 34,Zm 17 41,Zm 18 42] (ZR [Zm 43 17,Zq 44 .eql 43 0] (ZC 44 (ZR [u1 45 (.build [(.int .i64 0),(.int .i64 0)] []) [],Zs 2 12 45,Zi 13 0] .ret) .skip))) (ZR [Zt 46 2 14,Zt 47 2 15,Zd 48 37 46 47,Zs 2 12 48,Zi 13 0] .ret)))))⟩
theorem Yz8:Yg YBm Tryz.f14=some v14:=by kernel_rfl
def SenF(T:Tm)(lo hi p q:Int):Int×Int:=
 if YbM T≠0 then(0,YbM T)else if YkW lo hi p q=false then(0,2)else(senF (Ycz T) lo hi p q,0)
def SenC:Ctr:={ alias:=false,of:=fun l=>match l with
 | [.agg cs,.int .i64 lo,.int .i64 hi,.int .i64 p,.int .i64 q]=> .ex Tm fun T=> .pre (cs=encT T/\T.nm.size<=9223372036854775807)
     (.fin (.tup [.int .i64 (SenF T lo hi p q).1,.int .i64 (SenF T lo hi p q).2]) [])
 |_=>noC}
def TL0:Env:={ ct:=fun n=>match n with|29=>some NotC|38=>some bvalC|39=>some senC|_=>none,fn:=fun _=>none,meth:=fun _ _=>none}
theorem YhP:TL0.ct 29=some NotC:=rfl
theorem YhQ:TL0.ct 38=some bvalC:=rfl
theorem YhR:TL0.ct 39=some senC:=rfl
theorem Yxh:Yn YBm TL0:=by
 refine⟨fun f c h=>?_,fun f vf h=>?_,(fun _ _ _ h=>by cases h),by kernel_rfl,(fun _ h=>by cases h)⟩
 . simp only[TL0]at h
   split at h
   . cases h;exact⟨Ytl,Tryz.f29,Tryz.func29,by kernel_rfl,by kernel_rfl⟩
   . cases h;exact⟨YsH,Tryz.f38,Tryz.func38,by kernel_rfl,by kernel_rfl⟩
   . cases h;exact⟨YzT,Tryz.f39,Tryz.func39,by kernel_rfl,by kernel_rfl⟩
   . cases h
 . cases h
theorem Ytv:SenC.ok YBm 16:=by
 refine Yb Tryz.func16 YAa Yxh 600 SenC fun args k h=>?_
 simp only[SenC]at h
 split at h
 . rename_i cs lo hi p q
   obtain⟨T,⟨rfl,hnm⟩,h⟩:=h
   refine⟨[.agg (encT T),.int .i64 lo,.int .i64 hi,.int .i64 p,.int .i64 q],⟨Yd _ (Yt T _),⟨rfl,rfl⟩,⟨rfl,rfl⟩,⟨rfl,rfl⟩,⟨rfl,rfl⟩,trivial⟩,?_⟩
   have h:k (.tup [.int .i64 (SenF T lo hi p q).1,.int .i64 (SenF T lo hi p q).2]) []:=h
   dsimp only[v16,YaD,lenT,YhP,YhQ,YhR,NotC,bvalC,senC,go_sem,reduceIte,YBi]
   simp only[Yc,YBi,YBk,reduceCtorEq,YBj]
   refine⟨Ybr T,T,⟨rfl,hnm⟩,?_⟩
   by_cases hT:YbM T=0
   . rw[SenF,if_neg (fun hh=>hh hT)]at h
     rw[if_neg (fun hh=>hh hT)]
     dsimp only[YaD,lenT,YhP,YhQ,YhR,NotC,bvalC,senC,go_sem,reduceIte,YBi]
     simp only[Yc,YBi,YBk,reduceCtorEq,YBj]
     refine⟨by decide,by decide,fun hh=>absurd trivial hh,fun hv=>?_,fun hv=>⟨Ycz T,⟨fun q _=>Ye _,hv⟩,?_⟩⟩
     . rw[if_pos hv]at h;exact Yag h
     . rw[if_neg (by rw[hv];decide)]at h;exact Yag h
   . rw[SenF,if_pos hT]at h
     rw[if_pos hT]
     dsimp only[YaD,lenT,YhP,YhQ,YhR,NotC,bvalC,senC,go_sem,reduceIte,YBi]
     simp only[Yc,YBi,YBk,reduceCtorEq,YBj]
     exact⟨by decide,by decide,fun _=>Yag h,fun hh=>absurd hh hT⟩
 . exact h.1.elim
def tmsF(a:Iv)(n:Int):Iv:=(sclF a n 1).1
def milF(a:Iv):Iv:=(sclF a 1 1000).1
def ngW(x:Int):Int:=IntKind.i64.wrap (0-x)
def ratF(a b:Iv):Iv:=milF (max (max 0 (subF b a).1.1) (ngW (subF b a).1.2),max (subF b a).1.2 (ngW (subF b a).1.1))
def tmsC:Ctr:={ alias:=false,of:=fun l=>match l with
 | [.agg [.int .i64 x,.int .i64 y],.int .i64 n]=> .fin (.agg [.int .i64 (tmsF (x,y) n).1,.int .i64 (tmsF (x,y) n).2]) []
 |_=>noC}
def milC:Ctr:={ alias:=false,of:=fun l=>match l with
 | [.agg [.int .i64 x,.int .i64 y]]=> .fin (.agg [.int .i64 (milF (x,y)).1,.int .i64 (milF (x,y)).2]) []
 |_=>noC}
def ratC:Ctr:={ alias:=false,of:=fun l=>match l with
 | [.agg [.int .i64 x,.int .i64 y],.agg [.int .i64 z,.int .i64 w]]=> .fin (.agg [.int .i64 (ratF (x,y) (z,w)).1,.int .i64 (ratF (x,y) (z,w)).2]) []
 |_=>noC}
def TL1:Env:={ ct:=fun n=>match n with|76=>some sclC|71=>some subC|_=>none,fn:=fun _=>none,meth:=fun _ _=>none}
theorem Yly:TL1.ct 76=some sclC:=rfl
theorem Ylx:TL1.ct 71=some subC:=rfl
theorem Ysz:Yn YBm TL1:=by
 refine⟨fun f c h=>?_,fun f vf h=>?_,(fun _ _ _ h=>by cases h),by kernel_rfl,(fun _ h=>by cases h)⟩
 . simp only[TL1]at h
   split at h
   . cases h;exact⟨YzS,Tryz.f76,Tryz.func76,by kernel_rfl,by kernel_rfl⟩
   . cases h;exact⟨Ytd,Tryz.f71,Tryz.func71,by kernel_rfl,by kernel_rfl⟩
   . cases h
 . cases h
theorem Ytf:tmsC.ok YBm 65:=by
 refine Yb Tryz.func65 YAG Ysz 600 tmsC fun args k h=>?_
 simp only[tmsC]at h
 split at h
 . rename_i x y n
   refine⟨[.agg [.int .i64 x,.int .i64 y],.int .i64 n],by simp [leL,le],?_⟩
   dsimp only[v65,Yly,Ylx,sclC,subC,iv2C,enc2,go_sem,reduceIte,YBi]
   simp only[Yc,YBi,YBk,reduceCtorEq,YBj]
   exact⟨by decide,by decide,YdD (show k _ []from h)⟩
 . exact h.1.elim
theorem YyF:milC.ok YBm 42:=by
 refine Yb Tryz.func42 YAq Ysz 600 milC fun args k h=>?_
 simp only[milC]at h
 split at h
 . rename_i x y
   refine⟨[.agg [.int .i64 x,.int .i64 y]],by simp [leL,le],?_⟩
   dsimp only[v42,Yly,Ylx,sclC,subC,iv2C,enc2,go_sem,reduceIte,YBi]
   simp only[Yc,YBi,YBk,reduceCtorEq,YBj]
   exact⟨by decide,by decide,YdD (show k _ []from h)⟩
 . exact h.1.elim
def TL2:Env:={ ct:=fun n=>match n with|42=>some milC|71=>some subC|_=>none,fn:=fun _=>none,meth:=fun _ _=>none}
theorem YqT:TL2.ct 42=some milC:=rfl
theorem YqU:TL2.ct 71=some subC:=rfl
theorem Yxi:Yn YBm TL2:=by
 refine⟨fun f c h=>?_,fun f vf h=>?_,(fun _ _ _ h=>by cases h),by kernel_rfl,(fun _ h=>by cases h)⟩
 . simp only[TL2]at h
   split at h
   . cases h;exact⟨YyF,Tryz.f42,Tryz.func42,by kernel_rfl,by kernel_rfl⟩
   . cases h;exact⟨Ytd,Tryz.f71,Tryz.func71,by kernel_rfl,by kernel_rfl⟩
   . cases h
 . cases h
theorem YzN:ratC.ok YBm 37:=by
 refine Yb Tryz.func37 YAl Yxi 600 ratC fun args k h=>?_
 simp only[ratC]at h
 split at h
 . rename_i x y z w
   refine⟨[.agg [.int .i64 x,.int .i64 y],.agg [.int .i64 z,.int .i64 w]],by simp [leL,le],?_⟩
   dsimp only[v37,YqT,YqU,milC,subC,iv2C,enc2,go_sem,reduceIte,YBi]
   simp only[Yc,YBi,YBk,reduceCtorEq,YBj]
   refine⟨by decide,by decide,?_⟩
   exact YdD (show k _ []from h)
 . exact h.1.elim
def rdyF(a t0 t:Int)(T:Tm):Int:=orF [chkS a t0 t,YbM T]
def rdyC:Ctr:={ alias:=false,of:=fun l=>match l with
 | [.agg [.int .i64 a,.int .i64 t0,.int .i64 t],.agg cs]=> .ex Tm fun T=> .pre (cs=encT T/\T.nm.size<=9223372036854775807) (.fin (.int .i64 (rdyF a t0 t T)) [])
 |_=>noC}
def TL3:Env:={ ct:=fun n=>match n with|61=>some chkSC|62=>some chkTmC|60=>some orC|_=>none,fn:=fun _=>none,meth:=fun _ _=>none}
theorem YqW:TL3.ct 61=some chkSC:=rfl
theorem YqX:TL3.ct 62=some chkTmC:=rfl
theorem YqV:TL3.ct 60=some orC:=rfl
theorem Yxj:Yn YBm TL3:=by
 refine⟨fun f c h=>?_,fun f vf h=>?_,(fun _ _ _ h=>by cases h),by kernel_rfl,(fun _ h=>by cases h)⟩
 . simp only[TL3]at h
   split at h
   . cases h;exact⟨YsI,Tryz.f61,Tryz.func61,by kernel_rfl,by kernel_rfl⟩
   . cases h;exact⟨Yow,Tryz.f62,Tryz.func62,by kernel_rfl,by kernel_rfl⟩
   . cases h;exact⟨or_c,Tryz.f60,Tryz.func60,by kernel_rfl,by kernel_rfl⟩
   . cases h
 . cases h
theorem YzO:rdyC.ok YBm 28:=by
 refine Yb Tryz.func28 YAf Yxj 600 rdyC fun args k h=>?_
 simp only[rdyC]at h
 split at h
 . rename_i a t0 t cs
   obtain⟨T,⟨rfl,hnm⟩,h⟩:=h
   refine⟨[.agg [.int .i64 a,.int .i64 t0,.int .i64 t],.agg (encT T)],⟨⟨⟨rfl,rfl⟩,⟨rfl,rfl⟩,⟨rfl,rfl⟩,trivial⟩,Yd _ (Yt T _),trivial⟩,?_⟩
   dsimp only[v28,YaD,lenT,YqW,YqX,YqV,chkSC,chkTmC,orC,go_sem,reduceIte,YBi]
   simp only[Yc,YBi,YBk,reduceCtorEq,YBj]
   refine⟨Ybr T,T,⟨rfl,hnm⟩,by decide,[chkS a t0 t,YbM T],⟨rfl,rfl,fun j hj=>?_⟩,Yj (show k _ []from h)⟩
   rcases(show j=0\/j=1 by omega)with rfl|rfl <;> exact Ye _
 . exact h.1.elim
def micF(a t0 t:Int)(T:Tm)(n:Int):Iv:=(Yke (1000*a) a t0 t T n).1
structure Prt where
 a:Iv
 b:Iv
 e:Int
def prtF(a t0 t:Int)(T:Tm)(lo hi p q:Int):Prt:=
 if rdyF a t0 t T≠0 then⟨(0,0),(0,0),rdyF a t0 t T⟩else if YkW lo hi p q=false then⟨(0,0),(0,0),2⟩
 else⟨tmsF (micF a t0 t T lo) p,tmsF (micF a t0 t T hi) q,0⟩
def prtC:Ctr:={ alias:=false,of:=fun l=>match l with
 | [.agg [.int .i64 a,.int .i64 t0,.int .i64 t],.agg cs,.int .i64 lo,.int .i64 hi,.int .i64 p,.int .i64 q]=> .ex Tm fun T=> .pre (cs=encT T/\T.nm.size<=9223372036854775807)
     (.fin (.tup [.agg [.int .i64 (prtF a t0 t T lo hi p q).a.1,.int .i64 (prtF a t0 t T lo hi p q).a.2],.agg [.int .i64 (prtF a t0 t T lo hi p q).b.1,.int .i64 (prtF a t0 t T lo hi p q).b.2],.int .i64 (prtF a t0 t T lo hi p q).e]) [])
 |_=>noC}
theorem YkO{k:SV->List HO->Prop}{al:Bool}{hp:List HO}{x y z w e:Int}(h:k (.tup [.agg [.int .i64 x,.int .i64 y],.agg [.int .i64 z,.int .i64 w],.int .i64 e]) []):Yw al k (.tup [.agg [.int .i64 x,.int .i64 y],.agg [.int .i64 z,.int .i64 w],.int .i64 e]) hp:=
 YC h (Yz (.tup [.agg [.int .i64 x,.int .i64 y],.agg [.int .i64 z,.int .i64 w],.int .i64 e]) ⟨⟨trivial,trivial,trivial⟩,⟨trivial,trivial,trivial⟩,trivial,trivial⟩) (fun _=>by simp [Yk,Yo])
def TL4:Env:={ ct:=fun n=>match n with|28=>some rdyC|38=>some bvalC|22=>some micC|65=>some tmsC|_=>none,fn:=fun _=>none,meth:=fun _ _=>none}
theorem YqZ:TL4.ct 28=some rdyC:=rfl
theorem Yq0:TL4.ct 38=some bvalC:=rfl
theorem YqY:TL4.ct 22=some micC:=rfl
theorem Yq1:TL4.ct 65=some tmsC:=rfl
theorem Yxk:Yn YBm TL4:=by
 refine⟨fun f c h=>?_,fun f vf h=>?_,(fun _ _ _ h=>by cases h),by kernel_rfl,(fun _ h=>by cases h)⟩
 . simp only[TL4]at h
   split at h
   . cases h;exact⟨YzO,Tryz.f28,Tryz.func28,by kernel_rfl,by kernel_rfl⟩
   . cases h;exact⟨YsH,Tryz.f38,Tryz.func38,by kernel_rfl,by kernel_rfl⟩
   . cases h;exact⟨YyE,Tryz.f22,Tryz.func22,by kernel_rfl,by kernel_rfl⟩
   . cases h;exact⟨Ytf,Tryz.f65,Tryz.func65,by kernel_rfl,by kernel_rfl⟩
   . cases h
 . cases h
theorem YyZ:prtC.ok YBm 36:=by
 refine Yb Tryz.func36 YAk Yxk 600 prtC fun args k h=>?_
 simp only[prtC]at h
 split at h
 . rename_i a t0 t cs lo hi p q
   obtain⟨T,⟨rfl,hnm⟩,h⟩:=h
   refine⟨[.agg [.int .i64 a,.int .i64 t0,.int .i64 t],.agg (encT T),.int .i64 lo,.int .i64 hi,.int .i64 p,.int .i64 q],⟨⟨⟨rfl,rfl⟩,⟨rfl,rfl⟩,⟨rfl,rfl⟩,trivial⟩,Yd _ (Yt T _),⟨rfl,rfl⟩,⟨rfl,rfl⟩,⟨rfl,rfl⟩,⟨rfl,rfl⟩,trivial⟩,?_⟩
   have h:k (.tup [.agg [.int .i64 (prtF a t0 t T lo hi p q).a.1,.int .i64 (prtF a t0 t T lo hi p q).a.2],.agg [.int .i64 (prtF a t0 t T lo hi p q).b.1,.int .i64 (prtF a t0 t T lo hi p q).b.2],.int .i64 (prtF a t0 t T lo hi p q).e]) []:=h
   dsimp only[v36,YaD,lenT,YqZ,Yq0,YqY,Yq1,rdyC,bvalC,micC,tmsC,go_sem,reduceIte,YBi]
   simp only[Yc,YBi,YBk,reduceCtorEq,YBj]
   refine⟨Ybr T,T,⟨rfl,hnm⟩,fun hc=>?_,fun hc=>⟨fun hv=>?_,fun hv=>⟨T,⟨rfl,hnm⟩,?_⟩⟩⟩
   . rw[prtF,if_pos hc]at h
     exact YkO h
   . rw[prtF,if_neg (fun hh=>hh hc),if_pos hv]at h
     exact YkO h
   . rw[prtF,if_neg (fun hh=>hh hc),if_neg (by rw[hv];decide)]at h
     exact⟨by decide,by decide,T,⟨rfl,hnm⟩,by decide,by decide,YkO h⟩
 . exact h.1.elim
def rteF(a t0 t:Int)(T:Tm)(lo hi p q:Int):Iv×Int:=
 if(prtF a t0 t T lo hi p q).e≠0 then((0,0),(prtF a t0 t T lo hi p q).e)else if(SenF T lo hi p q).1=0 then((0,0),0)
 else(ratF (prtF a t0 t T lo hi p q).a (prtF a t0 t T lo hi p q).b,0)
def rteC:Ctr:={ alias:=false,of:=fun l=>match l with
 | [.agg [.int .i64 a,.int .i64 t0,.int .i64 t],.agg cs,.int .i64 lo,.int .i64 hi,.int .i64 p,.int .i64 q]=> .ex Tm fun T=> .pre (cs=encT T/\T.nm.size<=9223372036854775807)
     (.fin (.tup [.agg [.int .i64 (rteF a t0 t T lo hi p q).1.1,.int .i64 (rteF a t0 t T lo hi p q).1.2],.int .i64 (rteF a t0 t T lo hi p q).2]) [])
 |_=>noC}
def TL5:Env:={ ct:=fun n=>match n with|36=>some prtC|16=>some SenC|37=>some ratC|_=>none,fn:=fun _=>none,meth:=fun _ _=>none}
theorem Yq3:TL5.ct 36=some prtC:=rfl
theorem Yq2:TL5.ct 16=some SenC:=rfl
theorem Yq4:TL5.ct 37=some ratC:=rfl
theorem Yxl:Yn YBm TL5:=by
 refine⟨fun f c h=>?_,fun f vf h=>?_,(fun _ _ _ h=>by cases h),by kernel_rfl,(fun _ h=>by cases h)⟩
 . simp only[TL5]at h
   split at h
   . cases h;exact⟨YyZ,Tryz.f36,Tryz.func36,by kernel_rfl,by kernel_rfl⟩
   . cases h;exact⟨Ytv,Tryz.f16,Tryz.func16,by kernel_rfl,by kernel_rfl⟩
   . cases h;exact⟨YzN,Tryz.f37,Tryz.func37,by kernel_rfl,by kernel_rfl⟩
   . cases h
 . cases h
theorem YzP:rteC.ok YBm 14:=by
 refine Yb Tryz.func14 Yz8 Yxl 600 rteC fun args k h=>?_
 simp only[rteC]at h
 split at h
 . rename_i a t0 t cs lo hi p q
   obtain⟨T,⟨rfl,hnm⟩,h⟩:=h
   refine⟨[.agg [.int .i64 a,.int .i64 t0,.int .i64 t],.agg (encT T),.int .i64 lo,.int .i64 hi,.int .i64 p,.int .i64 q],⟨⟨⟨rfl,rfl⟩,⟨rfl,rfl⟩,⟨rfl,rfl⟩,trivial⟩,Yd _ (Yt T _),⟨rfl,rfl⟩,⟨rfl,rfl⟩,⟨rfl,rfl⟩,⟨rfl,rfl⟩,trivial⟩,?_⟩
   dsimp only[v14,YaD,lenT,Yq3,Yq2,Yq4,prtC,SenC,ratC,go_sem,reduceIte,YBi]
   simp only[Yc,YBi,YBk,reduceCtorEq,YBj]
   have h:k (.tup [.agg [.int .i64 (rteF a t0 t T lo hi p q).1.1,.int .i64 (rteF a t0 t T lo hi p q).1.2],.int .i64 (rteF a t0 t T lo hi p q).2]) []:=h
   refine⟨Ybr T,T,⟨rfl,hnm⟩,by decide,by decide,by decide,fun hc=>?_,fun hc=>⟨T,⟨rfl,hnm⟩,by decide,by decide,fun hs=>?_,fun hs=>?_⟩⟩
   . rw[rteF,if_pos hc]at h;exact Ycg h
   . rw[rteF,if_neg (fun hh=>hh hc),if_pos hs]at h;exact Ycg h
   . rw[rteF,if_neg (fun hh=>hh hc),if_neg hs]at h;exact Ycg h
 . exact h.1.elim
def v74:VF:=⟨41,[.cell 10 true 27],(ZR [u1 10 (.alloc [(.val (.string ⟨#[]⟩)),(.bool false),(.int .i64 0),(.int .i64 0),(.int .i64 0),(.int .i64 0),(.int .i64 0),(.int .i64 0),(.int .i64 0),(.int .i64 0),(.int .i64 0),(.int .i64 0),(.int .i64 0),(.int .i64 0),(.int .i64 0),(.int .i64 0),(.int .i64 0),(.int .i64 0),(.int .i64 0),(.int .i64 0),(.int .i64 0),(.int .i64 0),(.int .i64 0),(.int .i64 0),(.int .i64 0),(.int .i64 0),(.int .i64 0)]) []] (ZR [Zm 14 0,Zm 15 1,Zm 16 2,u1 17 (.build [(.val (.string ⟨#[]⟩)),(.bool false),(.int .i64 0),(.int .i64 0),(.int .i64 0),(.int .i64 0),(.int .i64 0),(.int .i64 0),(.int .i64 0),(.int .i64 0),(.int .i64 0),(.int .i64 0),(.int .i64 0),(.int .i64 0),(.int .i64 0),(.int .i64 0),(.int .i64 0),(.int .i64 0),(.int .i64 0),(.int .i64 0),(.int .i64 0),(.int .i64 0),(.int .i64 0),(.int .i64 0),(.int .i64 0),(.int .i64 0),(.int .i64 0)] [(0,1),(1,1),(2,1)]) [.tm 14,.tm 15,.tm 16],u1 11 (.alloc [(.val (.string ⟨#[]⟩)),(.bool false),(.int .i64 0),(.int .i64 0),(.int .i64 0),(.int .i64 0),(.int .i64 0),(.int .i64 0),(.int .i64 0),(.int .i64 0),(.int .i64 0),(.int .i64 0),(.int .i64 0),(.int .i64 0),(.int .i64 0),(.int .i64 0),(.int .i64 0),(.int .i64 0),(.int .i64 0),(.int .i64 0),(.int .i64 0),(.int .i64 0),(.int .i64 0),(.int .i64 0),(.int .i64 0),(.int .i64 0),(.int .i64 0)]) [],Zs 27 11 17] (.seq (ZR [Zi 12 0] (.block 0 (.loop (.seq (ZR [Zm 18 12,Zq 19 .lss 18 12] (ZC 19 .skip (.exit 0))) (.seq (.block 1 (.region [Zm 22 12,u1 23 (.build [(.int .i64 0),(.int .i64 0)] [(0,1),(1,1)]) [.cn (.int .i64 0),.cn (.int .i64 1)],Za 24 3 11,u1 25 (.idxArr 12 2) [.tm 24,.tm 22],Zs 2 25 23])) (.region [Zm 20 12,Zp 21 20 1,Zm 12 21])))))) (.seq (ZR [Zi 13 0] (.block 2 (.loop (.seq (ZR [Zm 26 13,Zm 27 4,Zl 28 27,Zr 29 .lss 26 28] (ZC 29 .skip (.exit 2))) (.seq (.block 3 (.region [Zm 32 4,Zm 33 13,Zx 34 1 32 33,Zf 35 1 34,Zm 36 3,u1 37 (.build [(.int .i64 0),(.int .i64 0)] [(0,1),(1,1)]) [.cn (.int .i64 1),.tm 36],Za 38 3 11,u1 39 (.idxArr 12 2) [.tm 38,.tm 35],Zs 2 39 37])) (.region [Zm 30 13,Zp 31 30 1,Zm 13 31])))))) (ZR [Zt 40 27 11,Zs 27 10 40] .ret)))))⟩
theorem YAN:Yg YBm Tryz.f74=some v74:=by kernel_rfl
def v40:VF:=⟨40,[.cell 2 true 27,.tmp 3],(ZR [u1 2 (.alloc [(.val (.string ⟨#[]⟩)),(.bool false),(.int .i64 0),(.int .i64 0),(.int .i64 0),(.int .i64 0),(.int .i64 0),(.int .i64 0),(.int .i64 0),(.int .i64 0),(.int .i64 0),(.int .i64 0),(.int .i64 0),(.int .i64 0),(.int .i64 0),(.int .i64 0),(.int .i64 0),(.int .i64 0),(.int .i64 0),(.int .i64 0),(.int .i64 0),(.int .i64 0),(.int .i64 0),(.int .i64 0),(.int .i64 0),(.int .i64 0),(.int .i64 0)]) [],Zi 3 0] (.seq (ZR [Zm 4 0] (.block 0 (ZR [u1 6 (.eqStr false) [.tm 4,.cn (.val (.string ⟨#[101,113,117,97,108]⟩))],Zm 5 6] (ZC 5 (ZR [Zm 7 0,u1 8 (.buildSlice 1 11 [(.int .i64 0)] [(0,1),(1,1),(2,1),(3,1),(4,1),(5,1),(6,1),(7,1),(8,1),(9,1),(10,1)]) [.cn (.int .i64 0),.cn (.int .i64 1),.cn (.int .i64 2),.cn (.int .i64 3),.cn (.int .i64 4),.cn (.int .i64 5),.cn (.int .i64 6),.cn (.int .i64 7),.cn (.int .i64 8),.cn (.int .i64 9),.cn (.int .i64 10)],u1 9 (.call 74) [.tm 7,.cn (.bool false),.cn (.int .i64 11),.cn (.int .i64 12),.tm 8],Zs 27 2 9,Zi 3 0] .ret) (ZR [u1 11 (.eqStr false) [.tm 4,.cn (.val (.string ⟨#[112,121,116,104,97,103,111,114,101,97,110]⟩))],Zm 10 11] (ZC 10 (ZR [Zm 12 0,u1 13 (.call 74) [.tm 12,.cn (.bool false),.cn (.int .i64 8),.cn (.int .i64 1),.cn .nil],Zs 27 2 13,Zi 3 0] .ret) (ZR [u1 15 (.eqStr false) [.tm 4,.cn (.val (.string ⟨#[109,101,97,110,116,111,110,101]⟩))],Zm 14 15] (ZC 14 (ZR [Zm 16 0,u1 17 (.buildSlice 1 11 [(.int .i64 0)] [(0,1),(1,1),(2,1),(3,1),(4,1),(5,1),(6,1),(7,1),(8,1),(9,1),(10,1)]) [.cn (.int .i64 0),.cn (.int .i64 1),.cn (.int .i64 2),.cn (.int .i64 3),.cn (.int .i64 4),.cn (.int .i64 5),.cn (.int .i64 6),.cn (.int .i64 7),.cn (.int .i64 9),.cn (.int .i64 10),.cn (.int .i64 11)],u1 18 (.call 74) [.tm 16,.cn (.bool true),.cn (.int .i64 8),.cn (.int .i64 4),.tm 17],Zs 27 2 18,Zi 3 0] .ret) (ZR [u1 20 (.eqStr false) [.tm 4,.cn (.val (.string ⟨#[119,101,114,99,107,109,101,105,115,116,101,114]⟩))],Zm 19 20] (ZC 19 (ZR [Zm 21 0,u1 22 (.buildSlice 1 4 [(.int .i64 0)] [(0,1),(1,1),(2,1),(3,1)]) [.cn (.int .i64 0),.cn (.int .i64 1),.cn (.int .i64 2),.cn (.int .i64 5)],u1 23 (.call 74) [.tm 21,.cn (.bool false),.cn (.int .i64 11),.cn (.int .i64 4),.tm 22],Zs 27 2 23,Zi 3 0] .ret) (ZR [u1 25 (.eqStr false) [.tm 4,.cn (.val (.string ⟨#[107,105,114,110,98,101,114,103,101,114]⟩))],Zm 24 25] (ZC 24 (ZR [Zm 26 0,u1 27 (.buildSlice 1 4 [(.int .i64 0)] [(0,1),(1,1),(2,1),(3,1)]) [.cn (.int .i64 0),.cn (.int .i64 1),.cn (.int .i64 2),.cn (.int .i64 3)],u1 28 (.call 74) [.tm 26,.cn (.bool true),.cn (.int .i64 6),.cn (.int .i64 4),.tm 27],Zs 27 2 28,Zi 3 0] .ret) (ZR [u1 30 (.eqStr false) [.tm 4,.cn (.val (.string ⟨#[118,97,108,108,111,116,116,105]⟩))],Zm 29 30] (ZC 29 (ZR [Zm 31 0,u1 32 (.buildSlice 1 6 [(.int .i64 0)] [(0,1),(1,1),(2,1),(3,1),(4,1),(5,1)]) [.cn (.int .i64 0),.cn (.int .i64 1),.cn (.int .i64 2),.cn (.int .i64 3),.cn (.int .i64 4),.cn (.int .i64 11)],u1 33 (.call 74) [.tm 31,.cn (.bool false),.cn (.int .i64 6),.cn (.int .i64 6),.tm 32],Zs 27 2 33,Zi 3 0] .ret) (ZR [u1 35 (.eqStr false) [.tm 4,.cn (.val (.string ⟨#[121,111,117,110,103]⟩))],Zm 34 35] (ZC 34 (ZR [Zm 36 0,u1 37 (.buildSlice 1 6 [(.int .i64 0)] [(0,1),(1,1),(2,1),(3,1),(4,1),(5,1)]) [.cn (.int .i64 0),.cn (.int .i64 1),.cn (.int .i64 2),.cn (.int .i64 3),.cn (.int .i64 4),.cn (.int .i64 5)],u1 38 (.call 74) [.tm 36,.cn (.bool false),.cn (.int .i64 11),.cn (.int .i64 6),.tm 37],Zs 27 2 38,Zi 3 0] .ret) .skip)))))))))))))))) (ZR [u1 39 (.build [(.val (.string ⟨#[]⟩)),(.bool false),(.int .i64 0),(.int .i64 0),(.int .i64 0),(.int .i64 0),(.int .i64 0),(.int .i64 0),(.int .i64 0),(.int .i64 0),(.int .i64 0),(.int .i64 0),(.int .i64 0),(.int .i64 0),(.int .i64 0),(.int .i64 0),(.int .i64 0),(.int .i64 0),(.int .i64 0),(.int .i64 0),(.int .i64 0),(.int .i64 0),(.int .i64 0),(.int .i64 0),(.int .i64 0),(.int .i64 0),(.int .i64 0)] []) [],Zs 27 2 39,Zi 3 4] .ret)))⟩
theorem YAo:Yg YBm Tryz.f40=some v40:=by kernel_rfl
def v17:VF:=⟨11,[.cell 2 true 27],(ZR [u1 2 (.alloc [(.val (.string ⟨#[]⟩)),(.bool false),(.int .i64 0),(.int .i64 0),(.int .i64 0),(.int .i64 0),(.int .i64 0),(.int .i64 0),(.int .i64 0),(.int .i64 0),(.int .i64 0),(.int .i64 0),(.int .i64 0),(.int .i64 0),(.int .i64 0),(.int .i64 0),(.int .i64 0),(.int .i64 0),(.int .i64 0),(.int .i64 0),(.int .i64 0),(.int .i64 0),(.int .i64 0),(.int .i64 0),(.int .i64 0),(.int .i64 0),(.int .i64 0)]) []] (ZR [Zm 6 0,Zc 7 40 6,Zm 5 7,Ze 8 0 5,Ze 9 1 5,u1 3 (.alloc [(.val (.string ⟨#[]⟩)),(.bool false),(.int .i64 0),(.int .i64 0),(.int .i64 0),(.int .i64 0),(.int .i64 0),(.int .i64 0),(.int .i64 0),(.int .i64 0),(.int .i64 0),(.int .i64 0),(.int .i64 0),(.int .i64 0),(.int .i64 0),(.int .i64 0),(.int .i64 0),(.int .i64 0),(.int .i64 0),(.int .i64 0),(.int .i64 0),(.int .i64 0),(.int .i64 0),(.int .i64 0),(.int .i64 0),(.int .i64 0),(.int .i64 0)]) [],Zs 27 3 8,Zm 4 9] (ZR [Zt 10 27 3,Zs 27 2 10] .ret)))⟩
theorem YAb:Yg YBm Tryz.f17=some v17:=by kernel_rfl
def v15:VF:=⟨2,[.cell 0 true 3],(ZR [u1 0 (.alloc [(.int .i64 0),(.int .i64 0),(.int .i64 0)]) []] (ZR [u1 1 (.build [(.int .i64 0),(.int .i64 0),(.int .i64 0)] [(0,1),(1,1),(2,1)]) [.cn (.int .i64 440000),.cn (.int .i64 15000),.cn (.int .i64 15000)],Zs 3 0 1] .ret))⟩
theorem Yz9:Yg YBm Tryz.f15=some v15:=by kernel_rfl
def v20:VF:=⟨11,[.cell 2 true 27],(ZR [u1 2 (.alloc [(.val (.string ⟨#[]⟩)),(.bool false),(.int .i64 0),(.int .i64 0),(.int .i64 0),(.int .i64 0),(.int .i64 0),(.int .i64 0),(.int .i64 0),(.int .i64 0),(.int .i64 0),(.int .i64 0),(.int .i64 0),(.int .i64 0),(.int .i64 0),(.int .i64 0),(.int .i64 0),(.int .i64 0),(.int .i64 0),(.int .i64 0),(.int .i64 0),(.int .i64 0),(.int .i64 0),(.int .i64 0),(.int .i64 0),(.int .i64 0),(.int .i64 0)]) []] (ZR [Zm 6 0,Zc 7 40 6,Zm 5 7,Ze 8 0 5,Ze 9 1 5,u1 3 (.alloc [(.val (.string ⟨#[]⟩)),(.bool false),(.int .i64 0),(.int .i64 0),(.int .i64 0),(.int .i64 0),(.int .i64 0),(.int .i64 0),(.int .i64 0),(.int .i64 0),(.int .i64 0),(.int .i64 0),(.int .i64 0),(.int .i64 0),(.int .i64 0),(.int .i64 0),(.int .i64 0),(.int .i64 0),(.int .i64 0),(.int .i64 0),(.int .i64 0),(.int .i64 0),(.int .i64 0),(.int .i64 0),(.int .i64 0),(.int .i64 0),(.int .i64 0)]) [],Zs 27 3 8,Zm 4 9] (ZR [Zt 10 27 3,Zs 27 2 10] .ret)))⟩
def setP(p:Nat->Int×Int)(i:Nat)(x:Int×Int):Nat->Int×Int:=fun k=>if k=i then x else p k
theorem Yl4(nm:ByteArray)(syn:Bool)(w:Int)(p:Nat->Int×Int){i:Nat}(h:i<12)(a b:Int):
   Yr (encT ⟨nm,syn,w,p⟩) (3+idxN (i:Int) 2) [.int .i64 a,.int .i64 b]=encT ⟨nm,syn,w,setP p i (a,b)⟩:=by
 rcases Yhl h with rfl|rfl|rfl|rfl|rfl|rfl|rfl|rfl|rfl|rfl|rfl|rfl <;> rfl
theorem Yyc(i:Nat):idxN (i:Int) 2=i*2:=by simp [idxN]
def fstP:Nat->Nat->Int×Int
 |0=>fun _=>(0,0)
 |i+1=>setP (fstP i) i (0,1)
def madP(den:Int)(l:List Int):Nat->Int×Int:=l.foldl (fun p x=>setP p x.toNat (1,den)) (fstP 12)
def madC:Ctr:={ alias:=false,of:=fun l=>match l with
 | [.val (.string nm),.bool syn,.int .i64 w,.int .i64 den,.vs _ _ n sz get]=> .ex (List Int) fun l=> .pre (lsP 1 enc1 n sz get l/\l.length<=100/\∀x,x∈l->0<=x/\x<=11) (.fin (.agg (encT ⟨nm,syn,w,madP den l⟩)) [])
 |_=>noC}
theorem YxE{k:SV->List HO->Prop}{al:Bool}{hp:List HO}{T:Tm}(h:k (.agg (encT T)) []):Yw al k (.agg (encT T)) hp:=
 YC h (Yz (.agg (encT T)) (Yt T _)) (fun _=>by simp [Yk,Yo,encT,encP])
def TM0:Env:={ ct:=fun _=>none,fn:=fun _=>none,meth:=fun _ _=>none}
theorem YsA:Yn YBm TM0:=by
 refine⟨fun f c h=>?_,fun f vf h=>?_,(fun _ _ _ h=>by cases h),by kernel_rfl,(fun _ h=>by cases h)⟩
 . cases h
 . cases h
theorem mad_c:madC.ok YBm 74:=by
 refine Yb Tryz.func74 YAN YsA 600 madC fun args k h=>?_
 simp only[madC]at h
 split at h
 . rename_i nm syn w den tt z n sz get
   obtain⟨l,⟨⟨rfl,rfl,hg⟩,hn,hl⟩,h⟩:=h
   refine⟨[.val (.string nm),.bool syn,.int .i64 w,.int .i64 den,.vs tt z l.length 1 (fun k=>enc1 (l.getD k default))],⟨⟨rfl,trivial⟩,rfl,⟨rfl,rfl⟩,⟨rfl,rfl⟩,⟨id,rfl,rfl,rfl,hg⟩,trivial⟩,?_⟩
   dsimp only[v74,enc1,go_sem,reduceIte,YBi]
   simp only[Yc,YBi,YBk,reduceCtorEq,YBj]
   refine⟨rfl,rfl,?_⟩
   refine Loop.keep [3,0,5,0] Nat (fun i=>[(12,.int .i64 i)]) (fun i=>[(1,.box (encT ⟨nm,syn,w,fstP i⟩))]) [] (fun i=>i<=12) (fun i=>12-i) ?_ ?_
   . refine⟨0,by omega,?_⟩
     dsimp only[encT,encP,fstP,go_sem,reduceIte,YBi]
     simp only[Ya]
     repeat' apply YBs
     all_goals first|exact trivial|decide|rfl|omega|exact(YBD (by omega)).symm|exact Yd _ (Yt _ _) |simp
   . rintro i hi
     dsimp only[YBo,go_sem,reduceIte,YBi]
     simp only[Yc,YBi,YBk,reduceCtorEq,YBj]
     refine⟨fun hlt=>?_,fun hge=>?_⟩
     . have hi12:i<12:=by omega
       rw[Yl4 _ _ _ _ hi12,YBn ((i:Int)+1) (by omega)]
       refine⟨⟨by omega,by omega⟩,by rw[Yyc,lenT];omega,i+1,by omega,by omega,?_⟩
       simp only[Ya]
       refine⟨⟨by decide,by decide,by simp⟩,Yd _ (Yt _ _)⟩
     . obtain rfl:i=12:=by omega
       refine Loop.keep [3,0,5,0] Nat (fun i=>[(13,.int .i64 i)]) (fun i=>[(1,.box (encT ⟨nm,syn,w,madP den (l.take i)⟩))]) [] (fun i=>i<=l.length) (fun i=>l.length-i) ?_ ?_
       . refine⟨0,by omega,?_⟩
         dsimp only[go_sem,reduceIte,YBi]
         simp only[Ya]
         refine⟨⟨by decide,by decide,rfl⟩,Yd _ (Yt _ _)⟩
       . rintro i hi
         dsimp only[YBo,go_sem,reduceIte,YBi]
         simp only[Yc,YBi,YBk,reduceCtorEq,YBj]
         refine⟨fun hlt=>?_,fun hge=>?_⟩
         . have hil:i<l.length:=by omega
           have hx:=hl _ (YI hil)
           obtain⟨m,hm⟩:∃m:Nat,l.getD i default=(m:Int):=⟨(l.getD i default).toNat,by omega⟩
           have hm12:m<12:=by omega
           rw[hm,Yl4 _ _ _ _ hm12,Ye9 hil (by omega)]
           have hS:madP den (l.take (i+1))=setP (madP den (l.take i)) m (1,den):=by
             rw[madP,YF hil,hm,YBo];rfl
           refine⟨⟨by omega,by omega⟩,⟨by omega,by omega⟩,by rw[Yyc,lenT];omega,i+1,by omega,by omega,?_⟩
           rw[hS]
           simp only[Ya]
           refine⟨⟨by decide,by decide⟩,Yd _ (Yt _ _)⟩
         . obtain rfl:i=l.length:=by omega
           rw[List.take_length]
           exact⟨YBt 27,⟨rfl,Ybr _⟩,YBt 27,YxE (T:=⟨nm,syn,w,madP den l⟩) h⟩
 . exact h.1.elim
theorem YmC{a b:ByteArray}:(a.toList==b.toList)=decide (a.data.toList=b.data.toList):=by
 rw[ByteArray.toList_eq,ByteArray.toList_eq]
 by_cases h:a.data.toList=b.data.toList
 . rw[decide_eq_true h,beq_iff_eq];exact h
 . rw[decide_eq_false h,beq_eq_false_iff_ne];exact h
def EQ:Tm:=⟨⟨#[101,113,117,97,108]⟩,false,11,madP 12 [0,1,2,3,4,5,6,7,8,9,10]⟩
def MT:Tm:=⟨⟨#[109,101,97,110,116,111,110,101]⟩,true,8,madP 4 [0,1,2,3,4,5,6,7,9,10,11]⟩
def nmdC:Ctr:={ alias:=false,of:=fun l=>match l with
 | [.val (.string b)]=> .ex Bool fun m=> .pre (b=if m then MT.nm else EQ.nm) (.fin (.agg (encT (if m then MT else EQ))) [])
 |_=>noC}
def stdC:Ctr:={ alias:=false,of:=fun l=>match l with
 | [.val (.string b)]=> .ex Bool fun m=> .pre (b=if m then MT.nm else EQ.nm) (.fin (.tup [.agg (encT (if m then MT else EQ)),.int .i64 0]) [])
 |_=>noC}
theorem YsE{k:SV->List HO->Prop}{al:Bool}{hp:List HO}{T:Tm}{e:Int}(h:k (.tup [.agg (encT T),.int .i64 e]) []):Yw al k (.tup [.agg (encT T),.int .i64 e]) hp:=
 YC h (Yz (.tup [.agg (encT T),.int .i64 e]) ⟨Yt T _,trivial,trivial⟩) (fun _=>by simp [Yk,Yo,encT,encP])
theorem elev{k:Nat}(h:k<11):k=0\/k=1\/k=2\/k=3\/k=4\/k=5\/k=6\/k=7\/k=8\/k=9\/k=10:=by omega
def TM1:Env:={ ct:=fun n=>match n with|74=>some madC|_=>none,fn:=fun _=>none,meth:=fun _ _=>none}
theorem Yq5:TM1.ct 74=some madC:=rfl
theorem Yxm:Yn YBm TM1:=by
 refine⟨fun f c h=>?_,fun f vf h=>?_,(fun _ _ _ h=>by cases h),by kernel_rfl,(fun _ h=>by cases h)⟩
 . simp only[TM1]at h
   split at h
   . cases h;exact⟨mad_c,Tryz.f74,Tryz.func74,by kernel_rfl,by kernel_rfl⟩
   . cases h
 . cases h
theorem std_c:stdC.ok YBm 40:=by
 refine Yb Tryz.func40 YAo Yxm 600 stdC fun args k h=>?_
 simp only[stdC]at h
 split at h
 . rename_i b
   obtain⟨m,hb,h⟩:=h
   have h:k (.tup [.agg (encT (if m then MT else EQ)),.int .i64 0]) []:=h
   refine⟨[.val (.string b)],⟨⟨rfl,trivial⟩,trivial⟩,?_⟩
   subst hb
   dsimp only[v40,Yq5,madC,go_sem,reduceIte,YBi]
   simp only[Yc,YBi,YBk,reduceCtorEq,YBj]
   cases m
   . refine⟨fun _=>⟨by decide,[0,1,2,3,4,5,6,7,8,9,10],⟨⟨rfl,rfl,fun j hj=>?_⟩,by decide,by decide⟩,⟨rfl,Ybr _⟩,YBt 27,YsE (T:=EQ) h⟩,fun hf=>?_⟩
     . rcases elev hj with rfl|rfl|rfl|rfl|rfl|rfl|rfl|rfl|rfl|rfl|rfl <;> exact Ye _
     . exact absurd hf (by rw[YmC];decide)
   . refine⟨fun hf=>?_,fun _=>⟨fun hf=>?_,fun _=>⟨fun _=>⟨by decide,[0,1,2,3,4,5,6,7,9,10,11],⟨⟨rfl,rfl,fun j hj=>?_⟩,by decide,by decide⟩,⟨rfl,Ybr _⟩,YBt 27,YsE (T:=MT) h⟩,fun hf=>?_⟩⟩⟩
     . exact absurd hf (by rw[YmC];decide)
     . exact absurd hf (by rw[YmC];decide)
     . rcases elev hj with rfl|rfl|rfl|rfl|rfl|rfl|rfl|rfl|rfl|rfl|rfl <;> exact Ye _
     . exact absurd hf (by rw[YmC];decide)
 . exact h.1.elim
def usuC:Ctr:={ alias:=false,of:=fun l=>match l with
 | []=> .fin (.agg [.int .i64 440000,.int .i64 15000,.int .i64 15000]) []
 |_=>noC}
theorem Ytx{k:SV->List HO->Prop}{al:Bool}{hp:List HO}{x y z:Int}(h:k (.agg [.int .i64 x,.int .i64 y,.int .i64 z]) []):Yw al k (.agg [.int .i64 x,.int .i64 y,.int .i64 z]) hp:=
 YC h (Yz (.agg [.int .i64 x,.int .i64 y,.int .i64 z]) ⟨trivial,trivial,trivial,trivial⟩) (fun _=>by simp [Yk,Yo])
theorem Yqf:usuC.ok YBm 15:=by
 refine Yb Tryz.func15 Yz9 YsA 600 usuC fun args k h=>?_
 simp only[usuC]at h
 split at h
 . refine⟨[],trivial,?_⟩
   dsimp only[v15,go_sem,reduceIte,YBi]
   simp only[Yc,YBi,YBk,reduceCtorEq,YBj]
   exact Ytx h
 . exact h.1.elim
def TM2:Env:={ ct:=fun n=>match n with|40=>some stdC|_=>none,fn:=fun _=>none,meth:=fun _ _=>none}
theorem Yq6:TM2.ct 40=some stdC:=rfl
theorem Yxn:Yn YBm TM2:=by
 refine⟨fun f c h=>?_,fun f vf h=>?_,(fun _ _ _ h=>by cases h),by kernel_rfl,(fun _ h=>by cases h)⟩
 . simp only[TM2]at h
   split at h
   . cases h;exact⟨std_c,Tryz.f40,Tryz.func40,by kernel_rfl,by kernel_rfl⟩
   . cases h
 . cases h
theorem YpB:nmdC.ok YBm 17:=by
 refine Yb Tryz.func17 YAb Yxn 600 nmdC fun args k h=>?_
 simp only[nmdC]at h
 split at h
 . rename_i b
   obtain⟨m,hb,h⟩:=h
   have h:k (.agg (encT (if m then MT else EQ))) []:=h
   refine⟨[.val (.string b)],⟨⟨rfl,trivial⟩,trivial⟩,?_⟩
   dsimp only[v17,v20,Yq6,stdC,go_sem,reduceIte,YBi]
   simp only[Yc,YBi,YBk,reduceCtorEq,YBj]
   exact⟨m,hb,by decide,by decide,⟨rfl,Ybr _⟩,YBt 27,⟨rfl,Ybr _⟩,YBt 27,YxE h⟩
 . exact h.1.elim
def v27:VF:=⟨9,[.tmp 2],(ZR [u1 2 .mov [.cn (.bool false)]] (ZR [Zm 3 0,Zq 4 .lss 3 0,Zm 5 4,Zg 6 5 false 0,u2 7 5 false (.cmp .gtr) [.tm 6,.cn (.int .i64 1000000000000)],u1 8 .or [.tm 5,.tm 7],Zm 2 8] .ret))⟩
theorem YAe:Yg YBm Tryz.f27=some v27:=by kernel_rfl
def v7:VF:=⟨76,[.tmp 6,.tmp 7],(ZR [u1 6 .mov [.cn .nil],Zi 7 0] (.seq (ZR [Zm 11 1,Zl 12 11,Zm 13 0,Zl 14 13,Zr 15 .neq 12 14,Zm 16 15,Zg 17 16 false 2,u2 18 16 false (.cmp .lss) [.tm 17,.cn (.int .i64 0)],u1 19 .or [.tm 16,.tm 18],Zm 20 19,Zg 21 20 false 2,u2 22 20 false (.cmp .gtr) [.tm 21,.cn (.int .i64 1000000)],u1 23 .or [.tm 20,.tm 22]] (ZC 23 (ZR [u1 6 .mov [.cn .nil],Zi 7 2] .ret) .skip)) (ZR [u1 8 .mov [.cn .nil]] (.seq (ZR [Zm 24 0,Zl 25 24,Zi 26 0] (.block 0 (.loop (ZR [Zr 27 .lss 26 25] (.seq (ZC 27 .skip (.exit 0)) (.seq (.block 1 (ZR [Zm 28 26,Zx 29 7 24 26,Zt 30 7 29,u1 10 (.alloc [(.int .i64 0),(.int .i64 0),(.int .i64 0),(.int .i64 0),(.int .i64 0),(.int .i64 0),(.int .i64 0)]) [],Zm 9 28,Zs 7 10 30] (.seq (ZR [Zm 31 1,Zm 32 9,Zx 33 1 31 32,Zf 34 1 33,Zc 35 27 34,Zm 36 35,Zj 37 36 false 5 10,Zj 38 36 false 0 37,Zh 39 36 false 1 38,u2 40 36 false (.call 27) [.tm 39],u1 41 .or [.tm 36,.tm 40],Zm 42 41,Zj 43 42 false 5 10,Zj 44 42 false 1 43,Zh 45 42 false 1 44,u2 46 42 false (.call 27) [.tm 45],u1 47 .or [.tm 42,.tm 46]] (ZC 47 (ZR [u1 6 .mov [.cn .nil],Zi 7 2] .ret) .skip)) (.seq (.draw [] [Zu 48 1,Zu 49 9,ZX 50 1 48 49,Zv 51 1 50,Zy 52 5 10,Zy 53 0 52,Zv 54 1 53,Zu 55 2,w1 56 (.ari .sub) [.tm 54,.tm 55],w1 57 (.cmp .lss) [.tm 51,.tm 56],Zu 58 57,⟨Zg 59 58 false 1,[]⟩,⟨Zg 60 58 false 9,[]⟩,⟨u2 61 58 false (.idxAddr 1) [.tm 59,.tm 60],[]⟩,⟨Zh 62 58 false 1 61,[]⟩,⟨Zj 63 58 false 5 10,[]⟩,⟨Zj 64 58 false 1 63,[]⟩,⟨Zh 65 58 false 1 64,[]⟩,⟨Zg 66 58 false 2,[]⟩,⟨u2 67 58 false (.ari .add) [.tm 65,.tm 66],[]⟩,⟨u2 68 58 false (.cmp .gtr) [.tm 62,.tm 67],[]⟩,w1 69 .or [.tm 58,.tm 68]]) (ZC 69 (.region [Zm 70 8,Zm 71 9,u1 72 (.buildSlice 1 1 [(.int .i64 0)] [(0,1)]) [.tm 71],u1 73 (.append 1 8 [(.int .i64 0)]) [.tm 70,.tm 72],Zm 8 73]) .skip))))) (.region [Zp 74 26 1,Zm 26 74]))))))) (ZR [Zm 75 8,Zm 6 75,Zi 7 0] .ret)))))⟩
theorem v7_is:Yg YBm Tryz.f7=some v7:=by kernel_rfl
structure Stp where
 kn:Int
 nw:Int
 p:Int
 q:Int
 se:Int
 lo:Int
 hi:Int
 deriving Inhabited,DecidableEq
def encS(x:Stp):List SV:=[.int .i64 x.kn,.int .i64 x.nw,.int .i64 x.p,.int .i64 x.q,.int .i64 x.se,.int .i64 x.lo,.int .i64 x.hi]
def outN(n:Int):Bool:=decide (n<0) || decide (1000000000000<n)
def outB(x:Stp)(h:Int):Bool:=outN h|| outN x.lo|| outN x.hi
def offB(b:Int)(x:Stp)(h:Int):Bool:=decide (h<x.lo-b) || decide (x.hi+b<h)
def offP(l:List Stp)(hd:List Int)(b:Int):Nat->List Int
 |0=>[]
 |i+1=>offP l hd b i++(if offB b (l.getD i default) (hd.getD i default)=true then [(i:Int)]else [])
def YeT(l:List Stp)(hd:List Int)(b:Int):Bool:=decide ((hd.length:Int)≠l.length) || decide (b<0) || decide (1000000<b)
def Yn5(l:List Stp)(hd:List Int):Bool:=(List.range l.length).any fun i=>outB (l.getD i default) (hd.getD i default)
def offF(l:List Stp)(hd:List Int)(b:Int):List Int×Int:=
 if YeT l hd b=true then([],2)else if Yn5 l hd=true then([],2)else(offP l hd b l.length,0)
theorem YpD(l:List Stp)(hd:List Int)(b:Int):∀i,(offP l hd b i).length<=i
 |0=>YBt _
 |i+1=>by
   have:=YpD l hd b i
   rw[offP,YBI]
   split <;> simp <;> omega
theorem Yrm{l:List Stp}{hd:List Int}{i:Nat}(hi:i<l.length)(h:outB (l.getD i default) (hd.getD i default)=true):Yn5 l hd=true:=List.any_eq_true.2 ⟨i,List.mem_range.2 hi,h⟩
theorem Yrl{l:List Stp}{hd:List Int}(h:∀i,i<l.length->outB (l.getD i default) (hd.getD i default)=false):Yn5 l hd=false:=List.any_eq_false.2 fun i hi=>by rw[h i (List.mem_range.1 hi)];decide
theorem YyP{x:Stp}{h:Int}(ho:outB x h=false):(0<=h/\h<=1000000000000)/\(0<=x.lo/\x.lo<=1000000000000)/\0<=x.hi/\x.hi<=1000000000000:=by
 simp only[outB,outN,YBK,decide_eq_false_iff_not]at ho;omega
theorem Yh1(l:List Stp)(hd:List Int)(b:Int):YeT l hd b=(!decide ((hd.length:Int)=l.length) || decide (b<0) || decide (1000000<b)):=by
 unfold YeT;rw[decide_not]
theorem Yrr{l:List Stp}{hd:List Int}{b:Int}(h:YeT l hd b=false):hd.length=l.length/\0<=b/\b<=1000000:=by
 simp only[YeT,YBK,decide_eq_false_iff_not]at h;omega
def outC:Ctr:={ alias:=false,of:=fun l=>match l with
 | [.int .i64 n]=> .fin (.bool (outN n)) []
 |_=> .pre False (.fin (.bool false) [])}
def TN0:Env:={ ct:=fun _=>none,fn:=fun _=>none,meth:=fun _ _=>none}
theorem Yxo:Yn YBm TN0:=by
 refine⟨fun f c h=>?_,fun f vf h=>?_,(fun _ _ _ h=>by cases h),by kernel_rfl,(fun _ h=>by cases h)⟩
 . cases h
 . cases h
theorem out_c:outC.ok YBm 27:=by
 refine Yb Tryz.func27 YAe Yxo 600 outC fun args k h=>?_
 simp only[outC]at h
 split at h
 . rename_i n
   refine⟨[.int .i64 n],by simp [leL,le],?_⟩
   dsimp only[v27,go_sem,reduceIte,YBi]
   simp only[Yc,YBi,YBk,reduceCtorEq,YBj]
   exact YN h
 . exact h.1.elim
def offC:Ctr:={ alias:=false,of:=fun l=>match l with
 | [.vs _ _ n sz get,.vs _ _ n' sz' get',.int .i64 b]=> .ex (List Stp) fun l=> .ex (List Int) fun hd=> .pre (lsP 7 encS n sz get l/\lsP 1 enc1 n' sz' get' hd/\n<=2600000000000/\n'<=9223372036854775807)
    (.all Bool fun z=> .fin (.tup [.vs true z (offF l hd b).1.length 1 (fun k=>enc1 ((offF l hd b).1.getD k default)),.int .i64 (offF l hd b).2]) [])
 |_=>noC}
theorem Yn3{k:SV->List HO->Prop}{al:Bool}{hp:List HO}{e:Int}{g:Nat->List SV}(h:k (.tup [.vs true true 0 1 g,.int .i64 e]) [])(hf:Yk (.vs true true 0 1 g)):Yw al k (.tup [.nil,.int .i64 e]) hp:=
 YC h ⟨⟨rfl,rfl⟩,⟨rfl,rfl⟩,trivial⟩ (fun _=>⟨hf,trivial,trivial⟩)
theorem Yty{k:SV->List HO->Prop}{z:Bool}{x:List Int}{e:Int}{hp:List HO}(h:k (.tup [.vs true z x.length 1 (fun k=>enc1 (x.getD k default)),.int .i64 e]) []):
   Yw false k (.tup [.own 0 0 x.length 1,.int .i64 e]) (.own z 1 x.length (fun k=>[.int .i64 (x.getD k default)])::hp):=by
 refine YC h ?_ (fun _=>by simp [Yk,Yo,enc1])
 dsimp only[expo,go_sem,reduceIte,YBi]
 simp only[Ya]
 exact fun q hq=>Ye _
def TN1:Env:={ ct:=fun n=>match n with|27=>some outC|_=>none,fn:=fun _=>none,meth:=fun _ _=>none}
theorem Ylz:TN1.ct 27=some outC:=rfl
theorem Yxp:Yn YBm TN1:=by
 refine⟨fun f c h=>?_,fun f vf h=>?_,(fun _ _ _ h=>by cases h),by kernel_rfl,(fun _ h=>by cases h)⟩
 . simp only[TN1]at h
   split at h
   . cases h;exact⟨out_c,Tryz.f27,Tryz.func27,by kernel_rfl,by kernel_rfl⟩
   . cases h
 . cases h
theorem off_c:offC.ok YBm 7:=by
 refine Yb Tryz.func7 v7_is Yxp 600 offC fun args k h=>?_
 simp only[offC]at h
 split at h
 . rename_i tt z n sz get tt' z' n' sz' get' b
   obtain⟨l,hd,⟨⟨rfl,rfl,hg⟩,⟨rfl,rfl,hg'⟩,hn,hn'⟩,h⟩:=h
   refine⟨[.vs tt z l.length 7 (fun k=>encS (l.getD k default)),.vs tt' z' hd.length 1 (fun k=>enc1 (hd.getD k default)),.int .i64 b],⟨⟨id,rfl,rfl,rfl,hg⟩,⟨id,rfl,rfl,rfl,hg'⟩,⟨rfl,rfl⟩,trivial⟩,?_⟩
   have h:∀z,k (.tup [.vs true z (offF l hd b).1.length 1 (fun k=>enc1 ((offF l hd b).1.getD k default)),.int .i64 (offF l hd b).2]) []:=h
   dsimp only[v7,encS,enc1,Ylz,outC,go_sem,reduceIte,YBi]
   simp only[Yc,YBi,YBk,reduceCtorEq,YBj]
   refine⟨fun hc=>?_,fun hc=>?_⟩
   . have e:offF l hd b=([],2):=if_pos (show YeT l hd b=true from(by rw[Yh1];exact hc))
     have h:=h true
     rw[e]at h
     exact Yn3 h ⟨rfl,fun q hq=>absurd hq (Nat.not_lt_zero _)⟩
   . obtain⟨c1,c2,c3⟩:=Yrr (show YeT l hd b=false from(by rw[Yh1];exact hc))
     have hF:YeT l hd b=false:=by rw[Yh1];exact hc
     refine Loop.keep [0,0,0,3,0,16,0] (Nat×Bool) (fun s=>[(8,.own 0 0 (offP l hd b s.1).length 1),(26,.int .i64 s.1)]) (fun s=>[(0,.own s.2 1 (offP l hd b s.1).length (fun k=>enc1 ((offP l hd b s.1).getD k default)))]) [.gone] (fun s=>s.1<=l.length/\(s.2=true->(offP l hd b s.1).length=0)/\∀j,j<s.1->outB (l.getD j default) (hd.getD j default)=false) (fun s=>l.length-s.1) ?_ ?_
     . refine⟨(0,true),⟨by simp only;omega,fun _=>rfl,fun j hj=>by simp only at hj;omega⟩,?_⟩
       dsimp only[offP,List.length_nil,go_sem,reduceIte,YBi]
       simp only[Ya]
       repeat' apply YBs
       all_goals first|exact trivial|decide|rfl|omega|simp
     . rintro⟨i,zz⟩ ⟨hi,hz,hall⟩
       dsimp only at hi hz hall
       dsimp only[encS,enc1,YBo,Ylz,outC,go_sem,reduceIte,YBi]
       simp only[Yc,YBi,YBk,reduceCtorEq,YBj]
       refine⟨fun hlt=>?_,fun hge=>?_⟩
       . have hil:i<l.length:=by omega
         have hbl:=YpD l hd b i
         refine⟨⟨by omega,by omega⟩,⟨by omega,by omega⟩,fun ho=>?_,fun ho=>?_⟩
         . have e:offF l hd b=([],2):=by rw[offF,if_neg (by rw[hF];decide),if_pos (Yrm hil ho)]
           have h:=h true
           rw[e]at h
           exact Yn3 h ⟨rfl,fun q hq=>absurd hq (Nat.not_lt_zero _)⟩
         . obtain⟨o1,o2,o3⟩:=YyP (x:=l.getD i default) (h:=hd.getD i default) ho
           have hall':∀j,j<i+1->outB (l.getD j default) (hd.getD j default)=false:=fun j hj=>by
             rcases YBB j i with h1|h1
             . exact hall j h1
             . obtain rfl:j=i:=by omega
               exact ho
           rw[YBn ((l.getD i default).lo-b) (by omega),YBn ((l.getD i default).hi+b) (by omega),Ye9 hil (by omega)]
           refine⟨⟨by omega,by omega⟩,fun _=>⟨by omega,by omega⟩,fun hb=>⟨by decide,⟨by unfold YV;omega,fun q hq=>?_⟩,(i+1,false),⟨by simp only;omega,(fun hh=>by cases hh),hall'⟩,by simp only;omega,?_⟩,fun hb=>⟨(i+1,zz),⟨by simp only;omega,fun hh=>by simp only[offP,show offB b (l.getD i default) (hd.getD i default)=false from hb];simpa using hz hh,hall'⟩,by simp only;omega,?_⟩⟩
           . obtain rfl:q=0:=by omega
             exact⟨rfl,trivial,trivial⟩
           . simp only[offP,show offB b (l.getD i default) (hd.getD i default)=true from hb,if_true,YBI,List.length_singleton]
             simp only[Ya]
             refine⟨?_,?_,fun q hq=>?_⟩
             . repeat' apply YBs
               all_goals first|exact trivial|decide|rfl|omega|simp
             . simp
             . by_cases h1:q<(offP l hd b i).length
               . rw[if_pos h1,Ybi h1];exact⟨⟨rfl,rfl⟩,trivial⟩
               . rw[if_neg h1,Ybj (by omega),show q-(offP l hd b i).length=0 by omega];exact⟨⟨rfl,rfl⟩,trivial⟩
           . simp only[offP,show offB b (l.getD i default) (hd.getD i default)=false from hb,YBz,if_false,List.append_nil]
             simp only[Ya]
             repeat' apply YBs
             all_goals first|exact trivial|decide|rfl|omega|simp
       . obtain rfl:i=l.length:=by omega
         have e:offF l hd b=(offP l hd b l.length,0):=by rw[offF,if_neg (by rw[hF];decide),if_neg (by rw[Yrl hall];decide)]
         have h:=h zz
         rw[e]at h
         exact Yty h
 . exact h.1.elim
theorem exa_1:rteF 440000 15000 15000 EQ 60 67 3 2=((885,886),0):=by decide+kernel
theorem exa_2:rteF 440000 15000 15000 MT 60 64 5 4=((0,0),0):=by decide+kernel
theorem exa_3:SenF EQ 60 64 5 4=(1,0):=by decide+kernel
end Go.Proofs.YtnfkhknfpaamoaaGreatDoor
namespace Go.Vx
open Go Go.RowKit Go.ChangeShapes Go.WideShapes Go.ChangeAt Go.WideMaps Go.WideElems
def primesL:List Int:=[2,3,5,7,11,13]
def YcZ:DataW Unit:= .agg [.lit (.int .i64 2),.lit (.int .i64 3),.lit (.int .i64 5),.lit (.int .i64 7),.lit (.int .i64 11),.lit (.int .i64 13)]
theorem YjP{P:Program}{W:World}{g:Nat}{T el:TypeId}(hg:P.globalNamed "quintadena/ratios.primes" =some g)(hT:(P.globals[g]?).map (·.type)=some T)
   (hu:P.underlying T=some (.array 6 el)) (he:P.underlying el=some (.int .i64)) (hc:P.cellsOf el=1) (hp:laidMetH P [("quintadena/ratios.primes",YcZ)] W):
   Cells W g 0 (gloV primesL):=by
 rw[MakeChecks.laidMetH_plain _ _ _ (by kernel_rfl)]at hp
 obtain⟨ps,⟨g1,t1,cs1,f1,p1,q1,hg1,ht1,hv1,hd1,h1⟩,h2⟩:=hp
 obtain rfl:=Option.some.inj (hg.symm.trans hg1)
 obtain rfl:=Option.some.inj (hT.symm.trans ht1)
 obtain⟨xs,m1,rfl,hx1,hlen,hn3,hel⟩:=DataW.trod_array hu hd1
 have hcell:∀k,k<6->cs1[k]? =some (.int .i64 (primesL.getD k 0)):=by
   intro k hk
   have h3:=hel k hk
   obtain⟨x,hx⟩:∃x,xs[k]? =some x:=⟨xs[k]'(by omega),by simp⟩
   rw[hx,hc,Nat.mul_one]at h3
   obtain⟨v,e1,e2,_⟩:=DataW.trod_int he h3
   have e3:(cs1.toList.drop k)[0]? =some (.int .i64 v):=by
     have:((cs1.toList.drop k).take 1)[0]? =some (.int .i64 v):=by rw[e1];rfl
     simpa using this
   have e4:cs1[k]? =some (.int .i64 v):=by simpa using e3
   rw[e4]
   simp only[Prod.mk.injEq]at hx1
   have e5:(DataW.lit (.int .i64 (primesL.getD k 0)):DataW Unit)=x.1:=by
     have e6:(xs.map (·.1))[k]? =some x.1:=by simp [hx]
     have e7:=hx1.1
     simp only[YcZ,DataW.agg.injEq]at e7
     rw[<-e7]at e6
     match k,hk,e6 with
     |0,_,e6|1,_,e6|2,_,e6|3,_,e6|4,_,e6|5,_,e6=>exact Option.some.inj e6
   rw[e2]at e5
   simp only[DataW.lit.injEq,Lit.int.injEq]at e5
   rw[e5.2]
 unfold World.var? at hv1
 rw[hg]at hv1
 simp only[Option.bind_some]at hv1
 split at hv1
 . rename_i cs T' fz ho
   cases hv1
   refine⟨cs1,T',fz,ho,fun j v hj=>?_⟩
   have hj6:j<6:=by
     have:=(List.getElem?_eq_some_iff.1 hj).1
     simpa [gloV,primesL]using this
   rw[Nat.zero_add,hcell j hj6]
   match j,hj6,hj with
   |0,_,hj|1,_,hj|2,_,hj|3,_,hj|4,_,hj|5,_,hj=>exact hj
 . cases hv1
theorem YjZ{g:Nat}{T el:TypeId}{C:Checked}{f:FuncId}{fn:Func}{s:ChangeSpec}{dom:List PathCond}{os:Os}{H:Type}{enc:TypeId×Value->H}{shs:List PSh}{tb:TypeId}
   (own:ownKnob C.prog.godebug=none)(started:os.Started)(noInit:C.prog.inits.idxOf? f=none)(hfn:C.prog.funcs[f]? =some fn)(hl:laidOutB C.prog=true)
   (witness:∃(w:World) (tape:Tape) (i:Input),w.os=os/\(w.forCall tape i).Shaped C.prog/\i.vars=[]/\Input.okWide C.prog (w.forCall tape i) .any w.heap.size f i/\
     ((s.pre enc C.prog fn dom false (w.forCall tape i).memory i.args/\laidMetH C.prog [("quintadena/ratios.primes",YcZ)] (w.forCall tape i).memory)/\sizedMet enc C.prog fn (OpenSpec.ofChange s) false (w.forCall tape i).memory i.args)/\({}:Assume).holds C.prog (lone (Frame.enter C.prog f i.args .normal) [] (w.forCall tape i)))
   (hsh:Ykd C.prog fn.params.toList=some shs)(hread:Yvp C.prog fn.params.toList=true)(hres:fn.resultTypes.toList=[tb])(htb:C.prog.underlying tb=some .bool)(hvars:s.vars=[])
   (hspec:∀ds:List (DataW H),ds.length=fn.params.toList.length->(s.fn H ds).results=[.lit (.bool true)]/\(s.fn H ds).args=ds/\(s.fn H ds).vars=[])(hc:(lawC shs).ok C.prog f)(hg:C.prog.globalNamed "quintadena/ratios.primes" =some g)(hT:(C.prog.globals[g]?).map (·.type)=some T) (hu:C.prog.underlying T=some (.array 6 el)) (he:C.prog.underlying el=some (.int .i64)) (hce:C.prog.cellsOf el=1):
   ReturnsInHanded {} C os f .any (fun w args=>(s.pre enc C.prog fn dom false w args/\laidMetH C.prog [("quintadena/ratios.primes",YcZ)] w)/\sizedMet enc C.prog fn (OpenSpec.ofChange s) false w args) (s.post enc C.prog fn false true false false):=by
 refine returnsInHanded_of_change_and (X:=fun w _=>laidMetH C.prog [("quintadena/ratios.primes",YcZ)] w) (fun _ _ _ hh h=>h.of_heap hh) own started noInit hfn witness ?_
 intro W base args ds gs before hval hW hcnd _ hL _
 obtain⟨p,q,hA,hV,hbef,hfz,hnd⟩:=id hW
 have hlen:=Ygr hA
 rw[hvars]at hV
 obtain⟨rfl,rfl⟩:=trodVars_none hV
 obtain⟨svs,k1,k2⟩:=Yhb (B:=W.heap.size) hsh (fun j t v ht hv=>hval j t v (by simpa using ht) (by simpa using hv)) hA
 have hcall:=hc svs args.toList (cx0 W) (fun r hs=>r= .bool true) ⟨fun b K h=>(by cases h),fun g' l h=>by
   have hcl:=YjP hg hT hu he hce hL
   unfold glob at h
   split at h
   . rename_i hg'
     cases h
     obtain rfl:=Option.some.inj (hg.symm.trans hg')
     obtain⟨cs,T',fz,ho,_⟩:=id hcl
     exact⟨(YBv.1 ho).1,trivial,hcl⟩
   . cases h⟩ k1 ⟨k2,rfl⟩
 simp only[Array.toArray_toList]at hcall
 refine hcall.mono fun e W' h=>?_
 obtain⟨r,hs,v,bs,J,hJ,rfl,rfl,hr,_,hbI,_⟩:=h
 have hb:Below W.heap.size W W':=⟨hbI.os,hbI.tape,hbI.output,hbI.size,fun k hk=>hbI.block k hk rfl⟩
 have hv:=hr.bool_inv
 subst hv
 obtain⟨s1,s2,s3⟩:=hspec ds hlen
 refine⟨_,rfl,ds,[],before,[],p,[],hW,?_,?_,?_,hb.frame _,fun h=>by cases h⟩
 . rw[List.append_nil,s1,hres]
   have hsz:fn.resultTypes.size=1:=by rw[<-Array.length_toList,hres];rfl
   have:(Value.bool true).resultList fn.resultTypes.size=[.bool true]:=by rw[hsz];rfl
   rw[this]
   exact trodAll_mk1 (shut_bool htb true)
 . rw[List.append_nil,s2]
   exact Ye3 hl hb hread hA
 . rw[List.append_nil,s3,hvars];rfl
end Go.Vx
namespace Go.Vx
open Go Go.RowKit Go.ChangeShapes Go.WideShapes Go.ChangeAt Go.WideMaps Go.WideElems
end Go.Vx
namespace Go.Proofs.YtnfkhknfpaamoaaGreatDoor
open Go Go.Vx
set_option maxRecDepth 100000
set_option maxHeartbeats 4000000
def v9:VF:=⟨48,[.tmp 0],(ZR [u1 0 .mov [.cn (.bool false)]] (ZR [u1 8 (.call 15) [],u1 9 (.call 17) [.cn (.val (.string ⟨#[101,113,117,97,108]⟩))],u1 10 (.call 14) [.tm 8,.tm 9,.cn (.int .i64 60),.cn (.int .i64 67),.cn (.int .i64 3),.cn (.int .i64 2)],Zm 7 10,Ze 11 0 7,Ze 12 1 7,Zn 1,Zs 2 1 11,Zm 2 12] (ZR [u1 14 (.call 15) [],u1 15 (.call 17) [.cn (.val (.string ⟨#[109,101,97,110,116,111,110,101]⟩))],u1 16 (.call 14) [.tm 14,.tm 15,.cn (.int .i64 60),.cn (.int .i64 64),.cn (.int .i64 5),.cn (.int .i64 4)],Zm 13 16,Ze 17 0 13,Ze 18 1 13,Zn 3,Zs 2 3 17,Zm 4 18] (ZR [u1 20 (.call 17) [.cn (.val (.string ⟨#[101,113,117,97,108]⟩))],u1 21 (.call 16) [.tm 20,.cn (.int .i64 60),.cn (.int .i64 64),.cn (.int .i64 5),.cn (.int .i64 4)],Zm 19 21,Ze 22 0 19,Ze 23 1 19,Zm 5 22,Zm 6 23] (ZR [Zm 24 2,Zq 25 .eql 24 0,Zm 26 25,Zg 27 26 true 4,u2 28 26 true (.cmp .eql) [.tm 27,.cn (.int .i64 0)],u1 29 .and [.tm 26,.tm 28],Zm 30 29,Zg 31 30 true 6,u2 32 30 true (.cmp .eql) [.tm 31,.cn (.int .i64 0)],u1 33 .and [.tm 30,.tm 32],Zm 34 33,u2 35 34 true (.load true 2) [.tm 1],u2 36 34 true (.build [(.int .i64 0),(.int .i64 0)] [(0,1),(1,1)]) [.cn (.int .i64 885),.cn (.int .i64 886)],u2 37 34 true (.eqv false [true,true]) [.tm 35,.tm 36],u1 38 .and [.tm 34,.tm 37],Zm 39 38,u2 40 39 true (.load true 2) [.tm 3],u2 41 39 true (.build [(.int .i64 0),(.int .i64 0)] []) [],u2 42 39 true (.eqv false [true,true]) [.tm 40,.tm 41],u1 43 .and [.tm 39,.tm 42],Zm 44 43,Zg 45 44 true 5,u2 46 44 true (.cmp .eql) [.tm 45,.cn (.int .i64 1)],u1 47 .and [.tm 44,.tm 46],Zm 0 47] .ret)))))⟩
theorem v9_is:Yg YBm Tryz.f9=some v9:=by kernel_rfl
def v3:VF:=⟨52,[.tmp 6],(ZR [u1 6 .mov [.cn (.bool false)]] (ZR [Zm 13 0,Zm 14 1,Zm 15 2,u1 16 (.call 7) [.tm 13,.tm 14,.tm 15],Zm 12 16,Ze 17 0 12,Ze 18 1 12,Zm 7 17,Zm 8 18] (ZR [Zm 20 0,Zm 21 1,Zm 22 2,u1 23 (.call 8) [.tm 20,.tm 21,.tm 22],Zm 19 23,Ze 24 0 19,Ze 25 1 19,Zm 9 24,Zm 10 25] (.seq (ZR [Zm 26 7,Zl 27 26,Zm 28 9,Zl 29 28,Zr 30 .neq 27 29,Zm 31 30,Zg 32 31 false 8,Zg 33 31 false 10,u2 34 31 false (.cmp .neq) [.tm 32,.tm 33],u1 35 .or [.tm 31,.tm 34]] (ZC 35 (ZR [u1 6 .mov [.cn (.bool false)]] .ret) .skip)) (.seq (ZR [Zi 11 0] (.block 0 (.loop (.seq (ZR [Zm 36 11,Zm 37 7,Zl 38 37,Zr 39 .lss 36 38] (ZC 39 .skip (.exit 0))) (.seq (.block 1 (.seq (.draw [] [Zu 42 7,Zu 43 11,ZX 44 1 42 43,Zv 45 1 44,Zu 46 9,Zu 47 11,ZX 48 1 46 47,Zv 49 1 48,w1 50 (.cmp .neq) [.tm 45,.tm 49]]) (ZC 50 (ZR [u1 6 .mov [.cn (.bool false)]] .ret) .skip))) (.region [Zm 40 11,Zp 41 40 1,Zm 11 41])))))) (ZR [u1 51 (.call 9) [],Zm 6 51] .ret))))))⟩
def TO0:Env:={ ct:=fun n=>match n with|15=>some usuC|17=>some nmdC|14=>some rteC|16=>some SenC|_=>none,fn:=fun _=>none,meth:=fun _ _=>none}
theorem Yq8:TO0.ct 15=some usuC:=rfl
theorem Yra:TO0.ct 17=some nmdC:=rfl
theorem Yq7:TO0.ct 14=some rteC:=rfl
theorem Yq9:TO0.ct 16=some SenC:=rfl
theorem Yxq:Yn YBm TO0:=by
 refine⟨fun f c h=>?_,fun f vf h=>?_,(fun _ _ _ h=>by cases h),by kernel_rfl,(fun _ h=>by cases h)⟩
 . simp only[TO0]at h
   split at h
   . cases h;exact⟨Yqf,Tryz.f15,Tryz.func15,by kernel_rfl,by kernel_rfl⟩
   . cases h;exact⟨YpB,Tryz.f17,Tryz.func17,by kernel_rfl,by kernel_rfl⟩
   . cases h;exact⟨YzP,Tryz.f14,Tryz.func14,by kernel_rfl,by kernel_rfl⟩
   . cases h;exact⟨Ytv,Tryz.f16,Tryz.func16,by kernel_rfl,by kernel_rfl⟩
   . cases h
 . cases h
theorem nmE(m:Bool):(if m=true then MT else EQ).nm.size<=9223372036854775807:=by cases m <;> decide
theorem Yoc:trueC.ok YBm 9:=by
 refine Yb Tryz.func9 v9_is Yxq 600 trueC fun args k h=>?_
 simp only[trueC]at h
 split at h
 . refine⟨[],trivial,?_⟩
   have h:k (.bool true) []:=h
   dsimp only[v9,YaD,lenT,Yq8,Yra,Yq7,Yq9,usuC,nmdC,rteC,SenC,go_sem,reduceIte,YBi]
   simp only[Yc,YBi,YBk,reduceCtorEq,YBj]
   refine⟨false,rfl,EQ,⟨rfl,nmE false⟩,by decide,by decide,true,rfl,MT,⟨rfl,nmE true⟩,by decide,by decide,false,rfl,EQ,⟨rfl,nmE false⟩,?_⟩
   rw[exa_1,exa_2,exa_3]
   exact⟨by decide,by decide,YN h⟩
 . exact h.1.elim
def v64:VF:=⟨19,[.tmp 2,.tmp 3],(ZR [Zi 2 0,Zi 3 0] (.seq (ZR [Zm 4 0] (.block 0 (ZR [Zq 6 .eql 4 3,Zm 5 6] (ZC 5 (ZR [Zi 2 6,Zi 3 5] .ret) (ZR [Zq 8 .eql 4 4,Zm 7 8] (ZC 7 (ZR [Zi 2 5,Zi 3 4] .ret) (ZR [Zq 10 .eql 4 5,Zm 9 10] (ZC 9 (ZR [Zi 2 4,Zi 3 3] .ret) (ZR [Zq 12 .eql 4 7,Zm 11 12] (ZC 11 (ZR [Zi 2 3,Zi 3 2] .ret) (ZR [Zq 14 .eql 4 8,Zm 13 14] (ZC 13 (ZR [Zi 2 8,Zi 3 5] .ret) (ZR [Zq 16 .eql 4 9,Zm 15 16] (ZC 15 (ZR [Zi 2 5,Zi 3 3] .ret) (ZR [Zq 18 .eql 4 12,Zm 17 18] (ZC 17 (ZR [Zi 2 2,Zi 3 1] .ret) .skip)))))))))))))))) (ZR [Zi 2 0,Zi 3 0] .ret)))⟩
theorem YAF:Yg YBm Tryz.f64=some v64:=by kernel_rfl
def v13:VF:=⟨19,[.tmp 2,.tmp 3],(ZR [Zi 2 0,Zi 3 0] (.seq (ZR [Zm 4 0] (.block 0 (ZR [Zq 6 .eql 4 3,Zm 5 6] (ZC 5 (ZR [Zi 2 6,Zi 3 5] .ret) (ZR [Zq 8 .eql 4 4,Zm 7 8] (ZC 7 (ZR [Zi 2 5,Zi 3 4] .ret) (ZR [Zq 10 .eql 4 5,Zm 9 10] (ZC 9 (ZR [Zi 2 4,Zi 3 3] .ret) (ZR [Zq 12 .eql 4 7,Zm 11 12] (ZC 11 (ZR [Zi 2 3,Zi 3 2] .ret) (ZR [Zq 14 .eql 4 8,Zm 13 14] (ZC 13 (ZR [Zi 2 8,Zi 3 5] .ret) (ZR [Zq 16 .eql 4 9,Zm 15 16] (ZC 15 (ZR [Zi 2 5,Zi 3 3] .ret) (ZR [Zq 18 .eql 4 12,Zm 17 18] (ZC 17 (ZR [Zi 2 2,Zi 3 1] .ret) .skip)))))))))))))))) (ZR [Zi 2 0,Zi 3 0] .ret)))⟩
def v67:VF:=⟨20,[.tmp 4],(ZR [Zi 4 0] (ZR [Zm 7 0,Zc 8 92 7,Zm 5 8] (ZR [Zm 9 1,Zc 10 92 9,Zm 6 10] (.seq (ZR [Zm 11 5] (ZC 11 (.seq (ZR [Zm 12 6] (ZC 12 (ZR [Zi 4 0] .ret) .skip)) (ZR [Zi 4 (-1)] .ret)) .skip)) (.seq (ZR [Zm 13 6] (ZC 13 (ZR [Zi 4 1] .ret) .skip)) (.seq (ZR [Zm 14 0,Zm 15 1,Zr 16 .lss 14 15] (ZC 16 (ZR [Zi 4 (-1)] .ret) .skip)) (.seq (ZR [Zm 17 0,Zm 18 1,Zr 19 .gtr 17 18] (ZC 19 (ZR [Zi 4 1] .ret) .skip)) (ZR [Zi 4 0] .ret))))))))⟩
theorem YAI:Yg YBm Tryz.f67=some v67:=by kernel_rfl
def v68:VF:=⟨20,[.tmp 4],(ZR [Zi 4 0] (ZR [Zm 7 0,Zc 8 93 7,Zm 5 8] (ZR [Zm 9 1,Zc 10 93 9,Zm 6 10] (.seq (ZR [Zm 11 5] (ZC 11 (.seq (ZR [Zm 12 6] (ZC 12 (ZR [Zi 4 0] .ret) .skip)) (ZR [Zi 4 (-1)] .ret)) .skip)) (.seq (ZR [Zm 13 6] (ZC 13 (ZR [Zi 4 1] .ret) .skip)) (.seq (ZR [Zm 14 0,Zm 15 1,Zr 16 .lss 14 15] (ZC 16 (ZR [Zi 4 (-1)] .ret) .skip)) (.seq (ZR [Zm 17 0,Zm 18 1,Zr 19 .gtr 17 18] (ZC 19 (ZR [Zi 4 1] .ret) .skip)) (ZR [Zi 4 0] .ret))))))))⟩
theorem YAJ:Yg YBm Tryz.f68=some v68:=by kernel_rfl
def v92:VF:=⟨6,[.tmp 2],(ZR [u1 2 .mov [.cn (.bool false)]] (ZR [Zm 3 0,Zm 4 0,Zr 5 .neq 3 4,Zm 2 5] .ret))⟩
theorem YA3:Yg YBm Tryz.f92=some v92:=by kernel_rfl
def v93:VF:=⟨6,[.tmp 2],(ZR [u1 2 .mov [.cn (.bool false)]] (ZR [Zm 3 0,Zm 4 0,Zr 5 .neq 3 4,Zm 2 5] .ret))⟩
theorem YA4:Yg YBm Tryz.f93=some v93:=by kernel_rfl
def v66:VF:=⟨18,[.tmp 2],(ZR [Zi 2 0] (ZR [Zi 3 0] (.seq (ZR [Zm 6 0,Zl 7 6,Zi 8 0] (.block 0 (.loop (ZR [Zr 9 .lss 8 7] (.seq (ZC 9 .skip (.exit 0)) (.seq (.block 1 (ZR [Zx 10 1 6 8,Zf 11 1 10,Zm 5 11] (ZR [Zm 12 5,Zm 13 3,Zr 14 .neq 12 13] (ZC 14 (ZR [Zm 15 5,Zm 2 15] .ret) .skip)))) (.region [Zp 16 8 1,Zm 8 16]))))))) (ZR [Zm 17 3,Zm 2 17] .ret))))⟩
theorem YAH:Yg YBm Tryz.f66=some v66:=by kernel_rfl
def v32:VF:=⟨24,[.tmp 4],(ZR [u1 2 .box [.tm 0],u1 3 .box [.tm 1],Zi 4 0] (.seq (.draw [] [Zy 5 5 2,Zy 6 1 5,Zv 7 1 6,Zy 8 5 3,Zy 9 1 8,Zv 10 1 9,Zy 12 0 2,Zv 13 1 12,Zy 14 0 3,Zv 15 1 14,Zy 17 1 2,Zv 18 1 17,Zy 19 1 3,Zv 20 1 19,Zz 11 67 7 10,Zz 16 68 13 15,Zz 21 68 18 20,w1 22 (.buildSlice 1 3 [(.int .i64 0)] [(0,1),(1,1),(2,1)]) [.tm 11,.tm 16,.tm 21],w1 23 (.call 66) [.tm 22],Zu 4 23]) .ret))⟩
theorem YAj:Yg YBm Tryz.f32=some v32:=by kernel_rfl
def v31:VF:=⟨65,[.cell 6 true 7,.tmp 7],(ZR [u1 6 (.alloc [(.int .i64 0),(.int .i64 0),(.int .i64 0),(.int .i64 0),(.int .i64 0),(.int .i64 0),(.int .i64 0)]) [],u1 7 .mov [.cn (.bool false)]] (ZR [Zm 13 1,Zm 14 2,u1 15 .min [.tm 13,.tm 14],Zm 16 1,Zm 17 2,u1 18 .max [.tm 16,.tm 17],Zm 8 15,Zm 9 18] (ZR [Zm 20 9,Zm 21 8,Zo 22 .sub 20 21,Zc 23 64 22,Zm 19 23,Ze 24 0 19,Ze 25 1 19,Zm 10 24,Zm 11 25] (.seq (ZR [Zm 26 10,Zq 27 .eql 26 0] (ZC 27 (ZR [u1 28 (.build [(.int .i64 0),(.int .i64 0),(.int .i64 0),(.int .i64 0),(.int .i64 0),(.int .i64 0),(.int .i64 0)] []) [],Zs 7 6 28,u1 7 .mov [.cn (.bool false)]] .ret) .skip)) (ZR [Zm 29 1,Zm 30 2,Zm 31 10,Zm 32 11,Zm 33 0,u1 34 .nilCheck [.tm 33],Za 35 0 34,Zf 36 1 35,Zm 37 8,Zm 38 9,Zm 39 10,Zm 40 11,u1 41 (.call 39) [.tm 36,.tm 37,.tm 38,.tm 39,.tm 40],u1 42 (.build [(.int .i64 0),(.int .i64 0),(.int .i64 0),(.int .i64 0),(.int .i64 0),(.int .i64 0),(.int .i64 0)] [(0,1),(1,1),(2,1),(3,1),(4,1)]) [.tm 29,.tm 30,.tm 31,.tm 32,.tm 41],u1 12 (.alloc [(.int .i64 0),(.int .i64 0),(.int .i64 0),(.int .i64 0),(.int .i64 0),(.int .i64 0),(.int .i64 0)]) [],Zs 7 12 42] (.seq (ZR [Za 43 4 12,Zf 44 1 43,Zq 45 .neq 44 0] (ZC 45 (.draw [] [Zu 46 0,Zu 47 8,w1 48 .nilCheck [.tm 46],Zy 49 1 48,w1 50 (.idxArr 140 2) [.tm 49,.tm 47],Zw 51 2 50,Zu 52 10,Zu 54 0,Zu 55 9,w1 56 .nilCheck [.tm 54],Zy 57 1 56,w1 58 (.idxArr 140 2) [.tm 57,.tm 55],Zw 59 2 58,Zu 60 11,Zz 53 65 51 52,Zz 61 65 59 60,Zz 62 37 53 61,Zy 63 5 12,ZS 2 63 62]) .skip)) (ZR [Zt 64 7 12,Zs 7 6 64,u1 7 .mov [.cn (.bool true)]] .ret)))))))⟩
theorem YAi:Yg YBm Tryz.f31=some v31:=by kernel_rfl
def byF(d:Int):Int×Int:=
 if d=3 then(6,5)else if d=4 then(5,4)else if d=5 then(4,3)else if d=7 then(3,2)else if d=8 then(8,5)else if d=9 then(5,3)else if d=12 then(2,1)else(0,0)
def byC:Ctr:={ alias:=false,of:=fun l=>match l with
 | [.int .i64 d]=> .fin (.tup [.int .i64 (byF d).1,.int .i64 (byF d).2]) []
 |_=>noC}
def TP0:Env:={ ct:=fun _=>none,fn:=fun _=>none,meth:=fun _ _=>none}
theorem Yxr:Yn YBm TP0:=by
 refine⟨fun f c h=>?_,fun f vf h=>?_,(fun _ _ _ h=>by cases h),by kernel_rfl,(fun _ h=>by cases h)⟩
 . cases h
 . cases h
theorem by_c:byC.ok YBm 64:=by
 refine Yb Tryz.func64 YAF Yxr 600 byC fun args k h=>?_
 simp only[byC]at h
 split at h
 . rename_i d
   refine⟨[.int .i64 d],by simp [leL,le],?_⟩
   have h:k (.tup [.int .i64 (byF d).1,.int .i64 (byF d).2]) []:=h
   dsimp only[v64,v13,go_sem,reduceIte,YBi]
   simp only[Yc,YBi,YBk,reduceCtorEq,YBj]
   unfold byF at h
   refine⟨fun c=>?_,fun c3=>⟨fun c=>?_,fun c4=>⟨fun c=>?_,fun c5=>⟨fun c=>?_,fun c7=>⟨fun c=>?_,fun c8=>⟨fun c=>?_,fun c9=>⟨fun c=>?_,fun c12=>?_⟩⟩⟩⟩⟩⟩⟩
   . rw[if_pos c]at h;exact Yag h
   . rw[if_neg c3,if_pos c]at h;exact Yag h
   . rw[if_neg c3,if_neg c4,if_pos c]at h;exact Yag h
   . rw[if_neg c3,if_neg c4,if_neg c5,if_pos c]at h;exact Yag h
   . rw[if_neg c3,if_neg c4,if_neg c5,if_neg c7,if_pos c]at h;exact Yag h
   . rw[if_neg c3,if_neg c4,if_neg c5,if_neg c7,if_neg c8,if_pos c]at h;exact Yag h
   . rw[if_neg c3,if_neg c4,if_neg c5,if_neg c7,if_neg c8,if_neg c9,if_pos c]at h;exact Yag h
   . rw[if_neg c3,if_neg c4,if_neg c5,if_neg c7,if_neg c8,if_neg c9,if_neg c12]at h;exact Yag h
 . exact h.1.elim
theorem YxV{d:Int}(h:(byF d).1≠0):3<=d/\d<=12/\0<(byF d).1/\(byF d).1<=16/\0<(byF d).2/\(byF d).2<=16:=by
 unfold byF at h⊢
 split at h
 . rename_i c;rw[if_pos c];subst c;decide
 split at h
 . rename_i c3 c;rw[if_neg c3,if_pos c];subst c;decide
 split at h
 . rename_i c3 c4 c;rw[if_neg c3,if_neg c4,if_pos c];subst c;decide
 split at h
 . rename_i c3 c4 c5 c;rw[if_neg c3,if_neg c4,if_neg c5,if_pos c];subst c;decide
 split at h
 . rename_i c3 c4 c5 c7 c;rw[if_neg c3,if_neg c4,if_neg c5,if_neg c7,if_pos c];subst c;decide
 split at h
 . rename_i c3 c4 c5 c7 c8 c;rw[if_neg c3,if_neg c4,if_neg c5,if_neg c7,if_neg c8,if_pos c];subst c;decide
 split at h
 . rename_i c3 c4 c5 c7 c8 c9 c;rw[if_neg c3,if_neg c4,if_neg c5,if_neg c7,if_neg c8,if_neg c9,if_pos c];subst c;decide
 . exact absurd rfl h
def cmpC':Ctr:={ alias:=false,of:=fun l=>match l with
 | [.int .i64 x,.int .i64 y]=> .fin (.int .i64 (cmpI x y)) []
 |_=> .pre False (.fin (.int .i64 0) [])}
def TP1:Env:={ ct:=fun _=>none,fn:=fun n=>match n with|92=>some v92|93=>some v93|_=>none,meth:=fun _ _=>none}
theorem YlA:TP1.ct 92=none:=rfl
theorem YlC:TP1.fn 92=some v92:=rfl
theorem YlB:TP1.ct 93=none:=rfl
theorem YlD:TP1.fn 93=some v93:=rfl
theorem YsB:Yn YBm TP1:=by
 refine⟨fun f c h=>?_,fun f vf h=>?_,(fun _ _ _ h=>by cases h),by kernel_rfl,(fun _ h=>by cases h)⟩
 . cases h
 . simp only[TP1]at h
   split at h
   . cases h;exact⟨Tryz.f92,Tryz.func92,YA3,Tryz.f92,Tryz.func92,by kernel_rfl,by kernel_rfl⟩
   . cases h;exact⟨Tryz.f93,Tryz.func93,YA4,Tryz.f93,Tryz.func93,by kernel_rfl,by kernel_rfl⟩
   . cases h
theorem YtY:cmpC'.ok YBm 67:=by
 refine Yb Tryz.func67 YAI YsB 600 cmpC' fun args k h=>?_
 simp only[cmpC']at h
 split at h
 . rename_i x y
   refine⟨[.int .i64 x,.int .i64 y],by simp [leL,le],?_⟩
   have h:k (.int .i64 (cmpI x y)) []:=h
   dsimp only[v67,v68,YlA,YlC,v92,YlB,YlD,v93,go_sem,reduceIte,YBi]
   simp only[Yc,YBi,YBk,reduceCtorEq,YBj]
   unfold cmpI at h
   refine⟨fun hh=>absurd trivial hh,fun hh=>absurd trivial hh,fun c=>?_,fun c=>⟨fun d=>?_,fun d=>?_⟩⟩
   . rw[if_pos c]at h;exact Yj h
   . rw[if_neg c,if_pos d]at h;exact Yj h
   . rw[if_neg c,if_neg d]at h;exact Yj h
 . exact h.1.elim
theorem YxY:cmpC'.ok YBm 68:=by
 refine Yb Tryz.func68 YAJ YsB 600 cmpC' fun args k h=>?_
 simp only[cmpC']at h
 split at h
 . rename_i x y
   refine⟨[.int .i64 x,.int .i64 y],by simp [leL,le],?_⟩
   have h:k (.int .i64 (cmpI x y)) []:=h
   dsimp only[v67,v68,YlA,YlC,v92,YlB,YlD,v93,go_sem,reduceIte,YBi]
   simp only[Yc,YBi,YBk,reduceCtorEq,YBj]
   unfold cmpI at h
   refine⟨fun hh=>absurd trivial hh,fun hh=>absurd trivial hh,fun c=>?_,fun c=>⟨fun d=>?_,fun d=>?_⟩⟩
   . rw[if_pos c]at h;exact Yj h
   . rw[if_neg c,if_pos d]at h;exact Yj h
   . rw[if_neg c,if_neg d]at h;exact Yj h
 . exact h.1.elim
def TP2:Env:={ ct:=fun _=>none,fn:=fun _=>none,meth:=fun _ _=>none}
theorem Yxs:Yn YBm TP2:=by
 refine⟨fun f c h=>?_,fun f vf h=>?_,(fun _ _ _ h=>by cases h),by kernel_rfl,(fun _ h=>by cases h)⟩
 . cases h
 . cases h
theorem ori_c:orC.ok YBm 66:=by
 refine Yb Tryz.func66 YAH Yxs 300 orC fun args k h=>?_
 simp only[orC]at h
 split at h
 . rename_i tt z n sz get
   obtain⟨l,⟨⟨rfl,rfl,hg⟩,hn⟩,h⟩:=h
   refine⟨[.vs tt z l.length 1 (fun k=>enc1 (l.getD k default))],⟨⟨id,rfl,rfl,rfl,hg⟩,trivial⟩,?_⟩
   have h:k (.int .i64 (orF l)) []:=h
   dsimp only[v66,enc1,go_sem,reduceIte,YBi]
   simp only[Yc,YBi,YBk,reduceCtorEq,YBj]
   refine Loop.keep [3,2,0] Nat (fun i=>[(8,.int .i64 i)]) (fun _=>[]) [] (fun i=>i<=l.length/\∀j,j<i->l.getD j 0=0) (fun i=>l.length-i) ?_ ?_
   . refine⟨0,⟨by omega,fun j hj=>by omega⟩,?_⟩
     dsimp only[go_sem,reduceIte,YBi]
     simp only[Ya]
     rfl
   . rintro i ⟨hi,hall⟩
     dsimp only[enc1,YBo,go_sem,reduceIte,YBi]
     simp only[Yc,YBi,YBk,reduceCtorEq,YBj]
     refine⟨fun hlt=>⟨⟨by omega,by omega⟩,fun hc=>?_,fun hc=>⟨i+1,⟨by omega,fun j hj=>?_⟩,by omega,?_⟩⟩,fun hge=>?_⟩
     . rw[Ys4 (by omega) hall hc]at h;exact Yj h
     . rcases YBB j i with h1|h1
       . exact hall j h1
       . obtain rfl:j=i:=by omega
         exact hc
     . rw[YBn ((i:Int)+1) (by omega)]
       simp only[Ya]
       simp
     . obtain rfl:i=l.length:=by omega
       rw[Ymk hall]at h;exact Yj h
 . exact h.1.elim
def befF(a b:Stp):Int:=orF [cmpI a.hi b.hi,cmpI a.kn b.kn,cmpI a.nw b.nw]
def befC:Ctr:={ alias:=false,of:=fun l=>match l with
 | [.agg [.int .i64 a,.int .i64 b,.int .i64 c,.int .i64 d,.int .i64 e,.int .i64 f,.int .i64 g],.agg [.int .i64 a',.int .i64 b',.int .i64 c',.int .i64 d',.int .i64 e',.int .i64 f',.int .i64 g']]=> .fin (.int .i64 (befF ⟨a,b,c,d,e,f,g⟩ ⟨a',b',c',d',e',f',g'⟩)) []
 |_=> .pre False (.fin (.int .i64 0) [])}
def TP3:Env:={ ct:=fun n=>match n with|67=>some cmpC'|68=>some cmpC'|66=>some orC|_=>none,fn:=fun _=>none,meth:=fun _ _=>none}
theorem Yrc:TP3.ct 67=some cmpC':=rfl
theorem Yrd:TP3.ct 68=some cmpC':=rfl
theorem Yrb:TP3.ct 66=some orC:=rfl
theorem Yxt:Yn YBm TP3:=by
 refine⟨fun f c h=>?_,fun f vf h=>?_,(fun _ _ _ h=>by cases h),by kernel_rfl,(fun _ h=>by cases h)⟩
 . simp only[TP3]at h
   split at h
   . cases h;exact⟨YtY,Tryz.f67,Tryz.func67,by kernel_rfl,by kernel_rfl⟩
   . cases h;exact⟨YxY,Tryz.f68,Tryz.func68,by kernel_rfl,by kernel_rfl⟩
   . cases h;exact⟨ori_c,Tryz.f66,Tryz.func66,by kernel_rfl,by kernel_rfl⟩
   . cases h
 . cases h
theorem bef_c:befC.ok YBm 32:=by
 refine Yb Tryz.func32 YAj Yxt 300 befC fun args k h=>?_
 simp only[befC]at h
 split at h
 . rename_i a b c d e f g a' b' c' d' e' f' g'
   refine⟨[.agg [.int .i64 a,.int .i64 b,.int .i64 c,.int .i64 d,.int .i64 e,.int .i64 f,.int .i64 g],.agg [.int .i64 a',.int .i64 b',.int .i64 c',.int .i64 d',.int .i64 e',.int .i64 f',.int .i64 g']],by simp [leL,le],?_⟩
   dsimp only[v32,Yrc,Yrd,Yrb,cmpC',orC,go_sem,reduceIte,YBi]
   simp only[Yc,YBi,YBk,reduceCtorEq,YBj]
   refine⟨by decide,[cmpI g g',cmpI a a',cmpI b b'],⟨rfl,rfl,fun j hj=>?_⟩,Yj (show k _ []from h)⟩
   rcases(show j=0\/j=1\/j=2 by omega)with rfl|rfl|rfl <;> exact Ye _
 . exact h.1.elim
def Yam(M:Nat->Iv):Nat->List SV
 |0=>[]
 |n+1=>Yam M n++[.int .i64 (M n).1,.int .i64 (M n).2]
theorem Yme:∀(a b:List SV),lenL (a++b)=lenL a+lenL b
 | [],b=>by simp [lenL]
 |x::a,b=>by simp [lenL,Yme a b];omega
theorem Yap(M:Nat->Iv):∀n,lenL (Yam M n)=2*n
 |0=>rfl
 |n+1=>by rw[Yam,Yme,Yap M n];simp [lenL];omega
theorem YfS:∀(a b:List SV)(k:Nat),k<=lenL a->Ym k (a++b)=Ym k a++b
 | [],b,k,h=>by
   obtain rfl:k=0:=by simp [lenL]at h;omega
   rfl
 |x::a,b,0,h=>rfl
 |x::a,b,k+1,h=>YfS a b k (by simp [lenL]at h;omega)
theorem YjG:∀(a:List SV),Ym (lenL a) a=[]
 | []=>rfl
 |x::a=>YjG a
theorem Yhk:∀(a b:List SV)(k:Nat),k<=lenL a->Ys k (a++b)=Ys k a
 | [],b,k,h=>by
   obtain rfl:k=0:=by simp [lenL]at h;omega
   cases b <;> rfl
 |x::a,b,0,h=>rfl
 |x::a,b,k+1,h=>by
   show x::Ys k (a++b)=x::Ys k a
   rw[Yhk a b k (by simp [lenL]at h;omega)]
theorem Yeh:∀(k:Nat)(a:List SV),lenL (Ym k a)=lenL a-k
 |0,a=>by cases a <;> simp [Ym]
 |k+1,[]=>by simp [Ym,lenL]
 |k+1,x::a=>by simp only[Ym,lenL];rw[Yeh k a];omega
theorem YfX(M:Nat->Iv){i:Nat}:∀{n:Nat},i<n->Ys 2 (Ym (i*2) (Yam M n))=[.int .i64 (M i).1,.int .i64 (M i).2]
 |n+1,h=>by
   rw[Yam]
   rcases YBB i n with h1|h1
   . rw[YfS _ _ _ (by rw[Yap];omega),Yhk _ _ _ (by rw[Yeh,Yap];omega)]
     exact YfX M h1
   . obtain rfl:i=n:=by omega
     rw[YfS _ _ _ (by rw[Yap];omega),show i*2=lenL (Yam M i)by rw[Yap];omega,YjG]
     rfl
def YkH:Stp:=⟨0,0,0,0,0,0,0⟩
def stpF(L:Nat->Rt)(M:Nat->Iv)(kn nw:Int):Stp×Bool:=
 if(byF (max kn nw-min kn nw)).1=0 then(YkH,false)
 else
   let p:=(byF (max kn nw-min kn nw)).1
   let q:=(byF (max kn nw-min kn nw)).2
   let se:=senF L (min kn nw) (max kn nw) p q
   let r:=if se=0 then(0,0)else ratF (tmsF (M (min kn nw).toNat) p) (tmsF (M (max kn nw).toNat) q)
   (⟨kn,nw,p,q,se,r.1,r.2⟩,true)
def stpC:Ctr:={ alias:=false,of:=fun l=>match l with
 | [.xp _ (.vs _ _ n sz get::cs),.int .i64 a,.int .i64 b]=> .ex (Nat->Rt) fun L=> .ex (Nat->Iv) fun M=> .ex Nat fun N=> .pre ((n=12/\sz=7/\∀k,k<12->leXL (get k) (encR (L k)))/\(cs=Yam M N/\N=140)/\(0<=a/\a<=139)/\0<=b/\b<=139)
    (.fin (.tup [.agg (encS (stpF L M a b).1),.bool (stpF L M a b).2]) [])
 |_=>noC}
theorem YkQ{k:SV->List HO->Prop}{al:Bool}{hp:List HO}{x:Stp}{b:Bool}(h:k (.tup [.agg (encS x),.bool b]) []):Yw al k (.tup [.agg (encS x),.bool b]) hp:=
 YC h (Yz (.tup [.agg (encS x),.bool b]) ⟨⟨trivial,trivial,trivial,trivial,trivial,trivial,trivial,trivial⟩,trivial,trivial⟩) (fun _=>by simp [Yk,Yo,encS])
def TP4:Env:={ ct:=fun n=>match n with|64=>some byC|39=>some senC|65=>some tmsC|37=>some ratC|_=>none,fn:=fun _=>none,meth:=fun _ _=>none}
theorem YhU:TP4.ct 64=some byC:=rfl
theorem YhT:TP4.ct 39=some senC:=rfl
theorem YhV:TP4.ct 65=some tmsC:=rfl
theorem YhS:TP4.ct 37=some ratC:=rfl
theorem Yxu:Yn YBm TP4:=by
 refine⟨fun f c h=>?_,fun f vf h=>?_,(fun _ _ _ h=>by cases h),by kernel_rfl,(fun _ h=>by cases h)⟩
 . simp only[TP4]at h
   split at h
   . cases h;exact⟨by_c,Tryz.f64,Tryz.func64,by kernel_rfl,by kernel_rfl⟩
   . cases h;exact⟨YzT,Tryz.f39,Tryz.func39,by kernel_rfl,by kernel_rfl⟩
   . cases h;exact⟨Ytf,Tryz.f65,Tryz.func65,by kernel_rfl,by kernel_rfl⟩
   . cases h;exact⟨YzN,Tryz.f37,Tryz.func37,by kernel_rfl,by kernel_rfl⟩
   . cases h
 . cases h
theorem Y4(M:Nat->Iv)(m:Nat):∀n,bndL m (Yam M n)
 |0=>trivial
 |n+1=>by
   have key:∀(a b:List SV),bndL m a->bndL m b->bndL m (a++b):=fun a b=>by
     induction a with
     |nil=>exact fun _ h=>h
     |cons x a ih=>exact fun h1 h2=>⟨h1.1,ih h1.2 h2⟩
   exact key _ _ (Y4 M m n) ⟨trivial,trivial,trivial⟩
theorem stp_c:stpC.ok YBm 31:=by
 refine Yb Tryz.func31 YAi Yxu 600 stpC fun args k h=>?_
 simp only[stpC]at h
 split at h
 . rename_i tt tv zv n sz get cs a b
   obtain⟨L,M,N,⟨⟨rfl,rfl,hg⟩,⟨rfl,hN⟩,ha,hb⟩,h⟩:=h
   refine⟨[.xp tt (.vs tv zv 12 7 (fun k=>encR (L k))::Yam M N),.int .i64 a,.int .i64 b],?_,?_⟩
   . simp only[Yfv,Yix,YrV,Ymc,and_true,true_and]
     exact⟨id,⟨id,rfl,rfl,rfl,hg⟩,Ye _⟩
   have h:k (.tup [.agg (encS (stpF L M a b).1),.bool (stpF L M a b).2]) []:=h
   dsimp only[v31,YhU,YhT,YhV,YhS,byC,senC,tmsC,ratC,go_sem,reduceIte,YBi]
   simp only[Yc,YBi,YBk,reduceCtorEq,YBj]
   have hmm:min a b<=max a b/\0<=min a b/\max a b<=139:=by omega
   rw[YBn (max a b-min a b) (by omega)]
   obtain⟨lo,hlo⟩:∃m:Nat,min a b=(m:Int):=⟨(min a b).toNat,by omega⟩
   obtain⟨hi,hhi⟩:∃m:Nat,max a b=(m:Int):=⟨(max a b).toNat,by omega⟩
   have hS:stpF L M a b=if(byF ((hi:Int)-lo)).1=0 then(YkH,false)else(⟨a,b,(byF ((hi:Int)-lo)).1,(byF ((hi:Int)-lo)).2,senF L lo hi (byF ((hi:Int)-lo)).1 (byF ((hi:Int)-lo)).2,(if senF L lo hi (byF ((hi:Int)-lo)).1 (byF ((hi:Int)-lo)).2=0 then(0,0)else ratF (tmsF (M lo) (byF ((hi:Int)-lo)).1) (tmsF (M hi) (byF ((hi:Int)-lo)).2)).1,(if senF L lo hi (byF ((hi:Int)-lo)).1 (byF ((hi:Int)-lo)).2=0 then(0,0)else ratF (tmsF (M lo) (byF ((hi:Int)-lo)).1) (tmsF (M hi) (byF ((hi:Int)-lo)).2)).2⟩,true):=by
     rw[stpF,hlo,hhi];rfl
   rw[hlo,hhi]at hmm⊢
   have hl:lo<140:=by omega
   have hh:hi<140:=by omega
   simp only[YBo]
   obtain⟨P,hP⟩:∃P,P=(byF ((hi:Int)-lo)).1:=⟨_,rfl⟩
   obtain⟨Q,hQ⟩:∃Q,Q=(byF ((hi:Int)-lo)).2:=⟨_,rfl⟩
   have hne:= @YxV ((hi:Int)-lo)
   rw[<-hP,<-hQ]at hne hS⊢
   refine⟨by decide,by decide,fun hc=>?_,fun hc=>?_⟩
   . rw[hS,if_pos hc]at h
     exact YkQ (x:=YkH) h
   . rw[hS,if_neg hc]at h
     have hb1:=hne hc
     have hfl:=Yap M N
     have hd1:2<=lenL (Ym (lo*2) (Yam M N)):=by rw[Yeh,hfl];omega
     have hd2:2<=lenL (Ym (hi*2) (Yam M N)):=by rw[Yeh,hfl];omega
     refine⟨L,⟨fun q _=>Ye _,?_⟩,?_⟩
     . simp only[YkW,YBq,decide_eq_true_eq];omega
     obtain⟨Se,hSe⟩:∃Se,Se=senF L lo hi P Q:=⟨_,rfl⟩
     rw[<-hSe]at h⊢
     rw[YfX M (by omega:lo<N)]
     dsimp only[YhU,YhT,YhV,YhS,byC,senC,tmsC,ratC,go_sem,reduceIte,YBi]
     simp only[Yc,YBi,YBk,reduceCtorEq,YBj]
     rw[YfX M (by omega:hi<N)]
     dsimp only[YhU,YhT,YhV,YhS,byC,senC,tmsC,ratC,go_sem,reduceIte,YBi]
     simp only[Yc,YBi,YBk,reduceCtorEq,YBj]
     refine⟨fun hs=>⟨⟨by omega,by omega,by rw[hfl];omega⟩,hd1,⟨by omega,by omega,by rw[hfl];omega⟩,hd2,?_⟩,fun hs=>?_⟩
     . rw[if_neg hs]at h
       exact YkQ (x:=⟨a,b,P,Q,Se,(ratF (tmsF (M lo) P) (tmsF (M hi) Q)).1,(ratF (tmsF (M lo) P) (tmsF (M hi) Q)).2⟩) h
     . rw[if_pos hs]at h
       exact YkQ (x:=⟨a,b,P,Q,Se,0,0⟩) h
 . exact h.1.elim
end Go.Proofs.YtnfkhknfpaamoaaGreatDoor
