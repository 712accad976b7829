/- Speeds of sound: the ways by halves of all temperatures. -/
import Derived.Test.YtijadllhfgajlaaGreatMgX3h
import Derived.Test.YtijadllhfgajlaaGreatMgX3i
import Derived.Test.YtijadllhfgajlaaGreatMgX3j
import Derived.Test.YtijadllhfgajlaaGreatMgX3k
import Derived.Test.YtijadllhfgajlaaGreatMgX3l
import Derived.Test.YtijadllhfgajlaaGreatMgX3m
import Derived.Test.YtijadllhfgajlaaGreatMgX3n
import Derived.Test.YtijadllhfgajlaaGreatMgX3o
open Nat renaming mod_lt->YG0
open Or renaming inr->YHT
set_option linter.all false
namespace Go.Proofs.YtijadllhfgajlaaGreat
open Go Go.Vx
theorem YCQ:∀t,t<35->blkR (253150+2048*t) 128=true:=fun t ht=>match t,ht with
 |0,_=>bk_0
 |1,_=>bk_1
 |2,_=>bk_2
 |3,_=>bk_3
 |4,_=>bk_4
 |5,_=>bk_5
 |6,_=>bk_6
 |7,_=>bk_7
 |8,_=>bk_8
 |9,_=>bk_9
 |10,_=>bk_10
 |11,_=>bk_11
 |12,_=>bk_12
 |13,_=>bk_13
 |14,_=>bk_14
 |15,_=>bk_15
 |16,_=>bk_16
 |17,_=>bk_17
 |18,_=>bk_18
 |19,_=>bk_19
 |20,_=>bk_20
 |21,_=>bk_21
 |22,_=>bk_22
 |23,_=>bk_23
 |24,_=>bk_24
 |25,_=>bk_25
 |26,_=>bk_26
 |27,_=>bk_27
 |28,_=>bk_28
 |29,_=>bk_29
 |30,_=>bk_30
 |31,_=>bk_31
 |32,_=>bk_32
 |33,_=>bk_33
 |34,_=>bk_34
 |k+35,h=>absurd h (Nat.not_lt.2 (Nat.le_add_left 35 k))
theorem YDc:∀t,t<2->YbR 13 79 (253150+4096*t) 4096=true:=fun t ht=>match t,ht with
 |0,_=>fa_0
 |1,_=>fa_1
 |k+2,h=>absurd h (Nat.not_lt.2 (Nat.le_add_left 2 k))
theorem YDf:∀t,t<15->YbR 13 78 (262145+4096*t) 4096=true:=fun t ht=>match t,ht with
 |0,_=>fb_0
 |1,_=>fb_1
 |2,_=>fb_2
 |3,_=>fb_3
 |4,_=>fb_4
 |5,_=>fb_5
 |6,_=>fb_6
 |7,_=>fb_7
 |8,_=>fb_8
 |9,_=>fb_9
 |10,_=>fb_10
 |11,_=>fb_11
 |12,_=>fb_12
 |13,_=>fb_13
 |14,_=>fb_14
 |k+15,h=>absurd h (Nat.not_lt.2 (Nat.le_add_left 15 k))
theorem YDe:Yht 13 68 331300000=true:=by decide+kernel
theorem YgH{N:Nat}(h1:253150<=N)(h2:N<=323150):YH 52 N:=by
 refine YfT (by decide) (by omega) (by omega) ?_
 by_cases c1:N<261342
 . have:=YjY (by decide) _ (YDc ((N-253150)/4096) (by omega)) ((N-253150)%4096) (YG0 _ (by decide))
   rw[show 253150+4096*((N-253150)/4096)+(N-253150)%4096=N by omega]at this
   exact YHT this
 by_cases c2:N<262144
 . have:=YjY (by decide) _ fa_2 (N-261342) (by omega)
   rw[show 261342+(N-261342)=N by omega]at this
   exact YHT this
 by_cases c3:N=262144
 . exact Or.inl ⟨18,c3⟩
 have:=YjY (by decide) _ (YDf ((N-262145)/4096) (by omega)) ((N-262145)%4096) (YG0 _ (by decide))
 rw[show 262145+4096*((N-262145)/4096)+(N-262145)%4096=N by omega]at this
 exact YHT this
theorem YnS:YH 52 331300000:=YfT (J:=52) (by omega) (by omega) (by omega) (YHT (YjQ (k:=13) (by decide) YDe))
theorem YmI{N:Nat}(h:253150<=N/\N<=323150):PthG (AskP N) (tstN N) 41 0 1000000000001:=by
 have b:=Yx3 _ (YCQ ((N-253150)/2048) (by omega)) ((N-253150)%2048/16) (by omega)
 obtain⟨M,hM⟩:∃M,M=253150+2048*((N-253150)/2048)+16*((N-253150)%2048/16):=⟨_,rfl⟩
 rw[<-hM]at b
 obtain⟨i,hi⟩:∃i,N=M+i:=⟨N-M,by omega⟩
 subst hi
 exact YCS (by omega) h (YgH h.1 h.2) (YgH (by decide) (by decide)) YnS b
end Go.Proofs.YtijadllhfgajlaaGreat
