/- Beats, walked: Plan. -/
import Derived.Test.YtnfkhknfpaamoaaGreatDoorMgX25f
import Derived.Test.YtnfkhknfpaamoaaGreatDoorMgX25d
import Derived.Test.YtnfkhknfpaamoaaGreatDoorRows
import Derived.Test.YtnfkhknfpaamoaaGreatDoorCards
import Derived.Test.YtnfkhknfpaamoaaGreatDoorTie
import Derived.ProofKit
import Derived.LaidMore
import Derived.OpenShut
import Derived.Stop.Joined
import Derived.SevenTiedAt
open Bool renaming and_eq_true->YC0,false_eq_true->YDa,not_eq_true'->YDe,or_eq_false_iff->YDb,or_eq_true->YDm
open Int renaming toNat_natCast->YCY
open Go.IntWalk renaming i64_in->YCW
open List renaming length_append->YDo,length_cons->YDt,map_cons->YC6,mem_cons->YDc,mem_cons_of_mem->YC9,mem_cons_self->YC8,mem_map->YDv,range->YDk
open Nat renaming le_refl->YC2,le_trans->YDp,lt_or_ge->YC4,reduceAdd->YCS,reduceEqDiff->YCT,reduceLeDiff->YCU,zero_le->YDy
open Go.Proofs.Tryz renaming prog->YCX
set_option linter.all false
namespace Go.Proofs.YtnfkhknfpaamoaaGreatDoor
open Go Go.Vx
set_option maxRecDepth 100000
set_option maxHeartbeats 8000000
def v10:VF:=⟨138,[.tmp 10,.tmp 11],(ZR [u1 5 .box [.tm 0],u1 6 .box [.tm 1],u1 8 .box [.tm 3],u1 9 .box [.tm 4],u1 10 .mov [.cn .nil],Zi 11 0] (.seq (ZR [Zt 21 3 5,Zt 22 27 6,Zd 23 28 21 22,Zm 12 23] (ZR [Zm 24 12,Zq 25 .neq 24 0] (ZC 25 (ZR [Zm 26 12,u1 10 .mov [.cn .nil],Zm 11 26] .ret) .skip))) (.seq (ZR [Zf 27 1 8,Zq 28 .lss 27 0,Zm 29 28,Zh 30 29 false 1 9,u2 31 29 false (.cmp .gtr) [.tm 30,.cn (.int .i64 139)],u1 32 .or [.tm 29,.tm 31],Zm 33 32,Zh 34 33 false 1 8,Zh 35 33 false 1 9,u2 36 33 false (.cmp .geq) [.tm 34,.tm 35],u1 37 .or [.tm 33,.tm 36],Zm 38 37,Zh 39 38 false 1 9,Zh 40 38 false 1 8,u2 41 38 false (.ari .sub) [.tm 39,.tm 40],u2 42 38 false (.cmp .geq) [.tm 41,.cn (.int .i64 25)],u1 43 .or [.tm 38,.tm 42],Zm 44 43,Zg 45 44 false 2,Zh 46 44 false 1 8,u2 47 44 false (.cmp .lss) [.tm 45,.tm 46],u1 48 .or [.tm 44,.tm 47],Zm 49 48,Zg 50 49 false 2,Zh 51 49 false 1 9,u2 52 49 false (.cmp .gtr) [.tm 50,.tm 51],u1 53 .or [.tm 49,.tm 52]] (ZC 53 (ZR [u1 10 .mov [.cn .nil],Zi 11 2] .ret) .skip)) (ZR [u1 54 (.build [.nil,(.int .i64 0),(.int .i64 0),(.int .i64 0),(.int .i64 0),(.int .i64 0),(.int .i64 0),(.int .i64 0),(.int .i64 0),(.int .i64 0),(.int .i64 0),(.int .i64 0),(.int .i64 0),(.int .i64 0),(.int .i64 0),(.int .i64 0),(.int .i64 0),(.int .i64 0),(.int .i64 0),(.int .i64 0),(.int .i64 0),(.int .i64 0),(.int .i64 0),(.int .i64 0),(.int .i64 0),(.int .i64 0),(.int .i64 0),(.int .i64 0),(.int .i64 0),(.int .i64 0),(.int .i64 0),(.int .i64 0),(.int .i64 0),(.int .i64 0),(.int .i64 0),(.int .i64 0),(.int .i64 0),(.int .i64 0),(.int .i64 0),(.int .i64 0),(.int .i64 0),(.int .i64 0),(.int .i64 0),(.int .i64 0),(.int .i64 0),(.int .i64 0),(.int .i64 0),(.int .i64 0),(.int .i64 0),(.int .i64 0),(.int .i64 0),(.int .i64 0),(.int .i64 0),(.int .i64 0),(.int .i64 0),(.int .i64 0),(.int .i64 0),(.int .i64 0),(.int .i64 0),(.int .i64 0),(.int .i64 0),(.int .i64 0),(.int .i64 0),(.int .i64 0),(.int .i64 0),(.int .i64 0),(.int .i64 0),(.int .i64 0),(.int .i64 0),(.int .i64 0),(.int .i64 0),(.int .i64 0),(.int .i64 0),(.int .i64 0),(.int .i64 0),(.int .i64 0),(.int .i64 0),(.int .i64 0),(.int .i64 0),(.int .i64 0),(.int .i64 0),(.int .i64 0),(.int .i64 0),(.int .i64 0),(.int .i64 0),(.int .i64 0),(.int .i64 0),(.int .i64 0),(.int .i64 0),(.int .i64 0),(.int .i64 0),(.int .i64 0),(.int .i64 0),(.int .i64 0),(.int .i64 0),(.int .i64 0),(.int .i64 0),(.int .i64 0),(.int .i64 0),(.int .i64 0),(.int .i64 0),(.int .i64 0),(.int .i64 0),(.int .i64 0),(.int .i64 0),(.int .i64 0),(.int .i64 0),(.int .i64 0),(.int .i64 0),(.int .i64 0),(.int .i64 0),(.int .i64 0),(.int .i64 0),(.int .i64 0),(.int .i64 0),(.int .i64 0),(.int .i64 0),(.int .i64 0),(.int .i64 0),(.int .i64 0),(.int .i64 0),(.int .i64 0),(.int .i64 0),(.int .i64 0),(.int .i64 0),(.int .i64 0),(.int .i64 0),(.int .i64 0),(.int .i64 0),(.int .i64 0),(.int .i64 0),(.int .i64 0),(.int .i64 0),(.int .i64 0),(.int .i64 0),(.int .i64 0),(.int .i64 0),(.int .i64 0),(.int .i64 0),(.int .i64 0),(.int .i64 0),(.int .i64 0),(.int .i64 0),(.int .i64 0),(.int .i64 0),(.int .i64 0),(.int .i64 0),(.int .i64 0),(.int .i64 0),(.int .i64 0),(.int .i64 0),(.int .i64 0),(.int .i64 0),(.int .i64 0),(.int .i64 0),(.int .i64 0),(.int .i64 0),(.int .i64 0),(.int .i64 0),(.int .i64 0),(.int .i64 0),(.int .i64 0),(.int .i64 0),(.int .i64 0),(.int .i64 0),(.int .i64 0),(.int .i64 0),(.int .i64 0),(.int .i64 0),(.int .i64 0),(.int .i64 0),(.int .i64 0),(.int .i64 0),(.int .i64 0),(.int .i64 0),(.int .i64 0),(.int .i64 0),(.int .i64 0),(.int .i64 0),(.int .i64 0),(.int .i64 0),(.int .i64 0),(.int .i64 0),(.int .i64 0),(.int .i64 0),(.int .i64 0),(.int .i64 0),(.int .i64 0),(.int .i64 0),(.int .i64 0),(.int .i64 0),(.int .i64 0),(.int .i64 0),(.int .i64 0),(.int .i64 0),(.int .i64 0),(.int .i64 0),(.int .i64 0),(.int .i64 0),(.int .i64 0),(.int .i64 0),(.int .i64 0),(.int .i64 0),(.int .i64 0),(.int .i64 0),(.int .i64 0),(.int .i64 0),(.int .i64 0),(.int .i64 0),(.int .i64 0),(.int .i64 0),(.int .i64 0),(.int .i64 0),(.int .i64 0),(.int .i64 0),(.int .i64 0),(.int .i64 0),(.int .i64 0),(.int .i64 0),(.int .i64 0),(.int .i64 0),(.int .i64 0),(.int .i64 0),(.int .i64 0),(.int .i64 0),(.int .i64 0),(.int .i64 0),(.int .i64 0),(.int .i64 0),(.int .i64 0),(.int .i64 0),(.int .i64 0),(.int .i64 0),(.int .i64 0),(.int .i64 0),(.int .i64 0),(.int .i64 0),(.int .i64 0),(.int .i64 0),(.int .i64 0),(.int .i64 0),(.int .i64 0),(.int .i64 0),(.int .i64 0),(.int .i64 0),(.int .i64 0),(.int .i64 0),(.int .i64 0),(.int .i64 0),(.int .i64 0),(.int .i64 0),(.int .i64 0),(.int .i64 0),(.int .i64 0),(.int .i64 0),(.int .i64 0),(.int .i64 0),(.int .i64 0),(.int .i64 0),(.int .i64 0),(.int .i64 0),(.int .i64 0),(.int .i64 0),(.int .i64 0),(.int .i64 0),(.int .i64 0),(.int .i64 0),(.int .i64 0),(.int .i64 0),(.int .i64 0),(.int .i64 0),(.int .i64 0),(.int .i64 0),(.int .i64 0),(.int .i64 0),(.int .i64 0),(.int .i64 0),(.int .i64 0),(.int .i64 0),(.int .i64 0),(.int .i64 0)] []) [],u1 55 .box [.tm 54],u1 13 (.alloc [(.val (.pointer none))]) [],Zs 1 13 55] (.seq (.draw [] [Zv 57 1 13,Zw 58 27 6,w1 59 (.call 29) [.tm 58],Zu 56 59,ZE 60 0 56,ZE 61 1 56,w1 62 .nilCheck [.tm 57],Zy 63 0 62,ZS 1 63 60]) (.seq (ZR [Zf 64 1 8,Zm 14 64] (.block 0 (.loop (.seq (ZR [Zm 65 14,Zf 66 1 9,Zr 67 .leq 65 66] (ZC 67 .skip (.exit 0))) (.seq (.block 1 (.draw [] [Zv 71 1 13,Zu 72 14,Zw 73 3 5,Zw 74 27 6,Zu 75 14,w1 79 .nilCheck [.tm 71],Zy 80 1 79,w1 76 (.call 22) [.tm 73,.tm 74,.tm 75],Zu 70 76,ZE 77 0 70,ZE 78 1 70,w1 81 (.idxArr 140 2) [.tm 80,.tm 72],ZS 2 81 77])) (.region [Zm 68 14,Zp 69 68 1,Zm 14 69])))))) (ZR [u1 15 (.allocArr 140 1 [(.bool false),(.bool false),(.bool false),(.bool false),(.bool false),(.bool false),(.bool false),(.bool false),(.bool false),(.bool false),(.bool false),(.bool false),(.bool false),(.bool false),(.bool false),(.bool false),(.bool false),(.bool false),(.bool false),(.bool false),(.bool false),(.bool false),(.bool false),(.bool false),(.bool false),(.bool false),(.bool false),(.bool false),(.bool false),(.bool false),(.bool false),(.bool false),(.bool false),(.bool false),(.bool false),(.bool false),(.bool false),(.bool false),(.bool false),(.bool false),(.bool false),(.bool false),(.bool false),(.bool false),(.bool false),(.bool false),(.bool false),(.bool false),(.bool false),(.bool false),(.bool false),(.bool false),(.bool false),(.bool false),(.bool false),(.bool false),(.bool false),(.bool false),(.bool false),(.bool false),(.bool false),(.bool false),(.bool false),(.bool false),(.bool false),(.bool false),(.bool false),(.bool false),(.bool false),(.bool false),(.bool false),(.bool false),(.bool false),(.bool false),(.bool false),(.bool false),(.bool false),(.bool false),(.bool false),(.bool false),(.bool false),(.bool false),(.bool false),(.bool false),(.bool false),(.bool false),(.bool false),(.bool false),(.bool false),(.bool false),(.bool false),(.bool false),(.bool false),(.bool false),(.bool false),(.bool false),(.bool false),(.bool false),(.bool false),(.bool false),(.bool false),(.bool false),(.bool false),(.bool false),(.bool false),(.bool false),(.bool false),(.bool false),(.bool false),(.bool false),(.bool false),(.bool false),(.bool false),(.bool false),(.bool false),(.bool false),(.bool false),(.bool false),(.bool false),(.bool false),(.bool false),(.bool false),(.bool false),(.bool false),(.bool false),(.bool false),(.bool false),(.bool false),(.bool false),(.bool false),(.bool false),(.bool false),(.bool false),(.bool false),(.bool false),(.bool false),(.bool false),(.bool false),(.bool false),(.bool false)]) []] (ZR [u1 16 (.allocArr 140 7 [(.int .i64 0),(.int .i64 0),(.int .i64 0),(.int .i64 0),(.int .i64 0),(.int .i64 0),(.int .i64 0),(.int .i64 0),(.int .i64 0),(.int .i64 0),(.int .i64 0),(.int .i64 0),(.int .i64 0),(.int .i64 0),(.int .i64 0),(.int .i64 0),(.int .i64 0),(.int .i64 0),(.int .i64 0),(.int .i64 0),(.int .i64 0),(.int .i64 0),(.int .i64 0),(.int .i64 0),(.int .i64 0),(.int .i64 0),(.int .i64 0),(.int .i64 0),(.int .i64 0),(.int .i64 0),(.int .i64 0),(.int .i64 0),(.int .i64 0),(.int .i64 0),(.int .i64 0),(.int .i64 0),(.int .i64 0),(.int .i64 0),(.int .i64 0),(.int .i64 0),(.int .i64 0),(.int .i64 0),(.int .i64 0),(.int .i64 0),(.int .i64 0),(.int .i64 0),(.int .i64 0),(.int .i64 0),(.int .i64 0),(.int .i64 0),(.int .i64 0),(.int .i64 0),(.int .i64 0),(.int .i64 0),(.int .i64 0),(.int .i64 0),(.int .i64 0),(.int .i64 0),(.int .i64 0),(.int .i64 0),(.int .i64 0),(.int .i64 0),(.int .i64 0),(.int .i64 0),(.int .i64 0),(.int .i64 0),(.int .i64 0),(.int .i64 0),(.int .i64 0),(.int .i64 0),(.int .i64 0),(.int .i64 0),(.int .i64 0),(.int .i64 0),(.int .i64 0),(.int .i64 0),(.int .i64 0),(.int .i64 0),(.int .i64 0),(.int .i64 0),(.int .i64 0),(.int .i64 0),(.int .i64 0),(.int .i64 0),(.int .i64 0),(.int .i64 0),(.int .i64 0),(.int .i64 0),(.int .i64 0),(.int .i64 0),(.int .i64 0),(.int .i64 0),(.int .i64 0),(.int .i64 0),(.int .i64 0),(.int .i64 0),(.int .i64 0),(.int .i64 0),(.int .i64 0),(.int .i64 0),(.int .i64 0),(.int .i64 0),(.int .i64 0),(.int .i64 0),(.int .i64 0),(.int .i64 0),(.int .i64 0),(.int .i64 0),(.int .i64 0),(.int .i64 0),(.int .i64 0),(.int .i64 0),(.int .i64 0),(.int .i64 0),(.int .i64 0),(.int .i64 0),(.int .i64 0),(.int .i64 0),(.int .i64 0),(.int .i64 0),(.int .i64 0),(.int .i64 0),(.int .i64 0),(.int .i64 0),(.int .i64 0),(.int .i64 0),(.int .i64 0),(.int .i64 0),(.int .i64 0),(.int .i64 0),(.int .i64 0),(.int .i64 0),(.int .i64 0),(.int .i64 0),(.int .i64 0),(.int .i64 0),(.int .i64 0),(.int .i64 0),(.int .i64 0),(.int .i64 0),(.int .i64 0),(.int .i64 0),(.int .i64 0),(.int .i64 0),(.int .i64 0),(.int .i64 0),(.int .i64 0),(.int .i64 0),(.int .i64 0),(.int .i64 0),(.int .i64 0),(.int .i64 0),(.int .i64 0),(.int .i64 0),(.int .i64 0),(.int .i64 0),(.int .i64 0),(.int .i64 0),(.int .i64 0),(.int .i64 0),(.int .i64 0),(.int .i64 0),(.int .i64 0),(.int .i64 0),(.int .i64 0),(.int .i64 0),(.int .i64 0),(.int .i64 0),(.int .i64 0),(.int .i64 0),(.int .i64 0),(.int .i64 0),(.int .i64 0),(.int .i64 0),(.int .i64 0),(.int .i64 0),(.int .i64 0),(.int .i64 0),(.int .i64 0),(.int .i64 0),(.int .i64 0),(.int .i64 0),(.int .i64 0),(.int .i64 0),(.int .i64 0),(.int .i64 0),(.int .i64 0),(.int .i64 0),(.int .i64 0),(.int .i64 0),(.int .i64 0),(.int .i64 0),(.int .i64 0),(.int .i64 0),(.int .i64 0),(.int .i64 0),(.int .i64 0),(.int .i64 0),(.int .i64 0),(.int .i64 0),(.int .i64 0),(.int .i64 0),(.int .i64 0),(.int .i64 0),(.int .i64 0),(.int .i64 0),(.int .i64 0),(.int .i64 0),(.int .i64 0),(.int .i64 0),(.int .i64 0),(.int .i64 0),(.int .i64 0),(.int .i64 0),(.int .i64 0),(.int .i64 0),(.int .i64 0),(.int .i64 0),(.int .i64 0),(.int .i64 0),(.int .i64 0),(.int .i64 0),(.int .i64 0),(.int .i64 0),(.int .i64 0),(.int .i64 0),(.int .i64 0),(.int .i64 0),(.int .i64 0),(.int .i64 0),(.int .i64 0),(.int .i64 0),(.int .i64 0),(.int .i64 0),(.int .i64 0),(.int .i64 0),(.int .i64 0),(.int .i64 0),(.int .i64 0),(.int .i64 0),(.int .i64 0),(.int .i64 0),(.int .i64 0),(.int .i64 0),(.int .i64 0),(.int .i64 0),(.int .i64 0),(.int .i64 0),(.int .i64 0),(.int .i64 0),(.int .i64 0),(.int .i64 0),(.int .i64 0),(.int .i64 0),(.int .i64 0),(.int .i64 0),(.int .i64 0),(.int .i64 0),(.int .i64 0),(.int .i64 0),(.int .i64 0),(.int .i64 0),(.int .i64 0),(.int .i64 0),(.int .i64 0),(.int .i64 0),(.int .i64 0),(.int .i64 0),(.int .i64 0),(.int .i64 0),(.int .i64 0),(.int .i64 0),(.int .i64 0),(.int .i64 0),(.int .i64 0),(.int .i64 0),(.int .i64 0),(.int .i64 0),(.int .i64 0),(.int .i64 0),(.int .i64 0),(.int .i64 0),(.int .i64 0),(.int .i64 0),(.int .i64 0),(.int .i64 0),(.int .i64 0),(.int .i64 0),(.int .i64 0),(.int .i64 0),(.int .i64 0),(.int .i64 0),(.int .i64 0),(.int .i64 0),(.int .i64 0),(.int .i64 0),(.int .i64 0),(.int .i64 0),(.int .i64 0),(.int .i64 0),(.int .i64 0),(.int .i64 0),(.int .i64 0),(.int .i64 0),(.int .i64 0),(.int .i64 0),(.int .i64 0),(.int .i64 0),(.int .i64 0),(.int .i64 0),(.int .i64 0),(.int .i64 0),(.int .i64 0),(.int .i64 0),(.int .i64 0),(.int .i64 0),(.int .i64 0),(.int .i64 0),(.int .i64 0),(.int .i64 0),(.int .i64 0),(.int .i64 0),(.int .i64 0),(.int .i64 0),(.int .i64 0),(.int .i64 0),(.int .i64 0),(.int .i64 0),(.int .i64 0),(.int .i64 0),(.int .i64 0),(.int .i64 0),(.int .i64 0),(.int .i64 0),(.int .i64 0),(.int .i64 0),(.int .i64 0),(.int .i64 0),(.int .i64 0),(.int .i64 0),(.int .i64 0),(.int .i64 0),(.int .i64 0),(.int .i64 0),(.int .i64 0),(.int .i64 0),(.int .i64 0),(.int .i64 0),(.int .i64 0),(.int .i64 0),(.int .i64 0),(.int .i64 0),(.int .i64 0),(.int .i64 0),(.int .i64 0),(.int .i64 0),(.int .i64 0),(.int .i64 0),(.int .i64 0),(.int .i64 0),(.int .i64 0),(.int .i64 0),(.int .i64 0),(.int .i64 0),(.int .i64 0),(.int .i64 0),(.int .i64 0),(.int .i64 0),(.int .i64 0),(.int .i64 0),(.int .i64 0),(.int .i64 0),(.int .i64 0),(.int .i64 0),(.int .i64 0),(.int .i64 0),(.int .i64 0),(.int .i64 0),(.int .i64 0),(.int .i64 0),(.int .i64 0),(.int .i64 0),(.int .i64 0),(.int .i64 0),(.int .i64 0),(.int .i64 0),(.int .i64 0),(.int .i64 0),(.int .i64 0),(.int .i64 0),(.int .i64 0),(.int .i64 0),(.int .i64 0),(.int .i64 0),(.int .i64 0),(.int .i64 0),(.int .i64 0),(.int .i64 0),(.int .i64 0),(.int .i64 0),(.int .i64 0),(.int .i64 0),(.int .i64 0),(.int .i64 0),(.int .i64 0),(.int .i64 0),(.int .i64 0),(.int .i64 0),(.int .i64 0),(.int .i64 0),(.int .i64 0),(.int .i64 0),(.int .i64 0),(.int .i64 0),(.int .i64 0),(.int .i64 0),(.int .i64 0),(.int .i64 0),(.int .i64 0),(.int .i64 0),(.int .i64 0),(.int .i64 0),(.int .i64 0),(.int .i64 0),(.int .i64 0),(.int .i64 0),(.int .i64 0),(.int .i64 0),(.int .i64 0),(.int .i64 0),(.int .i64 0),(.int .i64 0),(.int .i64 0),(.int .i64 0),(.int .i64 0),(.int .i64 0),(.int .i64 0),(.int .i64 0),(.int .i64 0),(.int .i64 0),(.int .i64 0),(.int .i64 0),(.int .i64 0),(.int .i64 0),(.int .i64 0),(.int .i64 0),(.int .i64 0),(.int .i64 0),(.int .i64 0),(.int .i64 0),(.int .i64 0),(.int .i64 0),(.int .i64 0),(.int .i64 0),(.int .i64 0),(.int .i64 0),(.int .i64 0),(.int .i64 0),(.int .i64 0),(.int .i64 0),(.int .i64 0),(.int .i64 0),(.int .i64 0),(.int .i64 0),(.int .i64 0),(.int .i64 0),(.int .i64 0),(.int .i64 0),(.int .i64 0),(.int .i64 0),(.int .i64 0),(.int .i64 0),(.int .i64 0),(.int .i64 0),(.int .i64 0),(.int .i64 0),(.int .i64 0),(.int .i64 0),(.int .i64 0),(.int .i64 0),(.int .i64 0),(.int .i64 0),(.int .i64 0),(.int .i64 0),(.int .i64 0),(.int .i64 0),(.int .i64 0),(.int .i64 0),(.int .i64 0),(.int .i64 0),(.int .i64 0),(.int .i64 0),(.int .i64 0),(.int .i64 0),(.int .i64 0),(.int .i64 0),(.int .i64 0),(.int .i64 0),(.int .i64 0),(.int .i64 0),(.int .i64 0),(.int .i64 0),(.int .i64 0),(.int .i64 0),(.int .i64 0),(.int .i64 0),(.int .i64 0),(.int .i64 0),(.int .i64 0),(.int .i64 0),(.int .i64 0),(.int .i64 0),(.int .i64 0),(.int .i64 0),(.int .i64 0),(.int .i64 0),(.int .i64 0),(.int .i64 0),(.int .i64 0),(.int .i64 0),(.int .i64 0),(.int .i64 0),(.int .i64 0),(.int .i64 0),(.int .i64 0),(.int .i64 0),(.int .i64 0),(.int .i64 0),(.int .i64 0),(.int .i64 0),(.int .i64 0),(.int .i64 0),(.int .i64 0),(.int .i64 0),(.int .i64 0),(.int .i64 0),(.int .i64 0),(.int .i64 0),(.int .i64 0),(.int .i64 0),(.int .i64 0),(.int .i64 0),(.int .i64 0),(.int .i64 0),(.int .i64 0),(.int .i64 0),(.int .i64 0),(.int .i64 0),(.int .i64 0),(.int .i64 0),(.int .i64 0),(.int .i64 0),(.int .i64 0),(.int .i64 0),(.int .i64 0),(.int .i64 0),(.int .i64 0),(.int .i64 0),(.int .i64 0),(.int .i64 0),(.int .i64 0),(.int .i64 0),(.int .i64 0),(.int .i64 0),(.int .i64 0),(.int .i64 0),(.int .i64 0),(.int .i64 0),(.int .i64 0),(.int .i64 0),(.int .i64 0),(.int .i64 0),(.int .i64 0),(.int .i64 0),(.int .i64 0),(.int .i64 0),(.int .i64 0),(.int .i64 0),(.int .i64 0),(.int .i64 0),(.int .i64 0),(.int .i64 0),(.int .i64 0),(.int .i64 0),(.int .i64 0),(.int .i64 0),(.int .i64 0),(.int .i64 0),(.int .i64 0),(.int .i64 0),(.int .i64 0),(.int .i64 0),(.int .i64 0),(.int .i64 0),(.int .i64 0),(.int .i64 0),(.int .i64 0),(.int .i64 0),(.int .i64 0),(.int .i64 0),(.int .i64 0),(.int .i64 0),(.int .i64 0),(.int .i64 0),(.int .i64 0),(.int .i64 0),(.int .i64 0),(.int .i64 0),(.int .i64 0),(.int .i64 0),(.int .i64 0),(.int .i64 0),(.int .i64 0),(.int .i64 0),(.int .i64 0),(.int .i64 0),(.int .i64 0),(.int .i64 0),(.int .i64 0),(.int .i64 0),(.int .i64 0),(.int .i64 0),(.int .i64 0),(.int .i64 0),(.int .i64 0),(.int .i64 0),(.int .i64 0),(.int .i64 0),(.int .i64 0),(.int .i64 0),(.int .i64 0),(.int .i64 0),(.int .i64 0),(.int .i64 0),(.int .i64 0),(.int .i64 0),(.int .i64 0),(.int .i64 0),(.int .i64 0),(.int .i64 0),(.int .i64 0),(.int .i64 0),(.int .i64 0),(.int .i64 0),(.int .i64 0),(.int .i64 0),(.int .i64 0),(.int .i64 0),(.int .i64 0),(.int .i64 0),(.int .i64 0),(.int .i64 0),(.int .i64 0),(.int .i64 0),(.int .i64 0),(.int .i64 0),(.int .i64 0),(.int .i64 0),(.int .i64 0),(.int .i64 0),(.int .i64 0),(.int .i64 0),(.int .i64 0),(.int .i64 0),(.int .i64 0),(.int .i64 0),(.int .i64 0),(.int .i64 0),(.int .i64 0),(.int .i64 0),(.int .i64 0),(.int .i64 0),(.int .i64 0),(.int .i64 0),(.int .i64 0),(.int .i64 0),(.int .i64 0),(.int .i64 0),(.int .i64 0),(.int .i64 0),(.int .i64 0),(.int .i64 0),(.int .i64 0),(.int .i64 0),(.int .i64 0),(.int .i64 0),(.int .i64 0),(.int .i64 0),(.int .i64 0),(.int .i64 0),(.int .i64 0),(.int .i64 0),(.int .i64 0),(.int .i64 0),(.int .i64 0),(.int .i64 0),(.int .i64 0),(.int .i64 0),(.int .i64 0),(.int .i64 0),(.int .i64 0),(.int .i64 0),(.int .i64 0),(.int .i64 0),(.int .i64 0),(.int .i64 0),(.int .i64 0),(.int .i64 0),(.int .i64 0),(.int .i64 0),(.int .i64 0),(.int .i64 0),(.int .i64 0),(.int .i64 0),(.int .i64 0),(.int .i64 0),(.int .i64 0),(.int .i64 0),(.int .i64 0),(.int .i64 0),(.int .i64 0),(.int .i64 0),(.int .i64 0),(.int .i64 0),(.int .i64 0),(.int .i64 0),(.int .i64 0),(.int .i64 0),(.int .i64 0),(.int .i64 0),(.int .i64 0),(.int .i64 0),(.int .i64 0),(.int .i64 0),(.int .i64 0),(.int .i64 0),(.int .i64 0),(.int .i64 0),(.int .i64 0),(.int .i64 0),(.int .i64 0),(.int .i64 0),(.int .i64 0),(.int .i64 0),(.int .i64 0),(.int .i64 0),(.int .i64 0),(.int .i64 0),(.int .i64 0),(.int .i64 0),(.int .i64 0),(.int .i64 0),(.int .i64 0),(.int .i64 0),(.int .i64 0),(.int .i64 0),(.int .i64 0),(.int .i64 0),(.int .i64 0),(.int .i64 0),(.int .i64 0),(.int .i64 0),(.int .i64 0),(.int .i64 0),(.int .i64 0),(.int .i64 0),(.int .i64 0),(.int .i64 0),(.int .i64 0),(.int .i64 0),(.int .i64 0),(.int .i64 0),(.int .i64 0),(.int .i64 0),(.int .i64 0),(.int .i64 0),(.int .i64 0),(.int .i64 0),(.int .i64 0),(.int .i64 0),(.int .i64 0),(.int .i64 0),(.int .i64 0),(.int .i64 0),(.int .i64 0),(.int .i64 0),(.int .i64 0),(.int .i64 0),(.int .i64 0),(.int .i64 0),(.int .i64 0),(.int .i64 0),(.int .i64 0),(.int .i64 0),(.int .i64 0),(.int .i64 0),(.int .i64 0),(.int .i64 0),(.int .i64 0),(.int .i64 0),(.int .i64 0),(.int .i64 0),(.int .i64 0),(.int .i64 0),(.int .i64 0),(.int .i64 0),(.int .i64 0),(.int .i64 0),(.int .i64 0),(.int .i64 0),(.int .i64 0),(.int .i64 0),(.int .i64 0),(.int .i64 0),(.int .i64 0),(.int .i64 0),(.int .i64 0),(.int .i64 0),(.int .i64 0),(.int .i64 0),(.int .i64 0),(.int .i64 0),(.int .i64 0),(.int .i64 0),(.int .i64 0),(.int .i64 0),(.int .i64 0),(.int .i64 0),(.int .i64 0),(.int .i64 0),(.int .i64 0),(.int .i64 0),(.int .i64 0),(.int .i64 0),(.int .i64 0),(.int .i64 0),(.int .i64 0),(.int .i64 0),(.int .i64 0),(.int .i64 0),(.int .i64 0),(.int .i64 0),(.int .i64 0),(.int .i64 0),(.int .i64 0),(.int .i64 0),(.int .i64 0),(.int .i64 0),(.int .i64 0),(.int .i64 0),(.int .i64 0),(.int .i64 0),(.int .i64 0),(.int .i64 0),(.int .i64 0),(.int .i64 0),(.int .i64 0),(.int .i64 0),(.int .i64 0),(.int .i64 0),(.int .i64 0),(.int .i64 0),(.int .i64 0),(.int .i64 0),(.int .i64 0),(.int .i64 0),(.int .i64 0),(.int .i64 0),(.int .i64 0),(.int .i64 0),(.int .i64 0),(.int .i64 0),(.int .i64 0),(.int .i64 0),(.int .i64 0),(.int .i64 0),(.int .i64 0),(.int .i64 0),(.int .i64 0),(.int .i64 0),(.int .i64 0),(.int .i64 0),(.int .i64 0),(.int .i64 0),(.int .i64 0),(.int .i64 0),(.int .i64 0),(.int .i64 0),(.int .i64 0),(.int .i64 0),(.int .i64 0),(.int .i64 0),(.int .i64 0),(.int .i64 0),(.int .i64 0),(.int .i64 0),(.int .i64 0),(.int .i64 0),(.int .i64 0),(.int .i64 0),(.int .i64 0),(.int .i64 0),(.int .i64 0),(.int .i64 0),(.int .i64 0),(.int .i64 0),(.int .i64 0),(.int .i64 0),(.int .i64 0),(.int .i64 0),(.int .i64 0),(.int .i64 0),(.int .i64 0),(.int .i64 0),(.int .i64 0),(.int .i64 0),(.int .i64 0),(.int .i64 0),(.int .i64 0),(.int .i64 0),(.int .i64 0),(.int .i64 0),(.int .i64 0),(.int .i64 0),(.int .i64 0),(.int .i64 0),(.int .i64 0),(.int .i64 0),(.int .i64 0),(.int .i64 0),(.int .i64 0),(.int .i64 0),(.int .i64 0),(.int .i64 0),(.int .i64 0),(.int .i64 0),(.int .i64 0),(.int .i64 0),(.int .i64 0),(.int .i64 0),(.int .i64 0),(.int .i64 0),(.int .i64 0),(.int .i64 0),(.int .i64 0),(.int .i64 0),(.int .i64 0),(.int .i64 0),(.int .i64 0),(.int .i64 0),(.int .i64 0),(.int .i64 0),(.int .i64 0),(.int .i64 0),(.int .i64 0),(.int .i64 0),(.int .i64 0),(.int .i64 0),(.int .i64 0),(.int .i64 0),(.int .i64 0),(.int .i64 0),(.int .i64 0),(.int .i64 0),(.int .i64 0),(.int .i64 0),(.int .i64 0),(.int .i64 0),(.int .i64 0),(.int .i64 0),(.int .i64 0),(.int .i64 0),(.int .i64 0),(.int .i64 0),(.int .i64 0),(.int .i64 0),(.int .i64 0),(.int .i64 0),(.int .i64 0),(.int .i64 0)]) []] (ZR [u1 17 .mov [.cn .nil]] (ZR [u1 82 (.mkfn (.func 30) 0) [.tm 15,.tm 8,.tm 9,.tm 13,.tm 16],Zm 18 82] (ZR [Zm 83 18,Zm 84 2,u1 85 .callv [.tm 83,.tm 84]] (.seq (ZR [Zf 86 1 9,Zf 87 1 8,Zo 88 .sub 86 87,Zi 89 0] (.block 2 (.loop (ZR [Zr 90 .lss 89 88] (.seq (ZC 90 .skip (.exit 2)) (.seq (.block 3 (ZR [u1 91 (.build [(.int .i64 0),(.int .i64 0),(.int .i64 0),(.int .i64 0),(.int .i64 0),(.int .i64 0),(.int .i64 0)] []) [],u1 19 (.alloc [(.int .i64 0),(.int .i64 0),(.int .i64 0),(.int .i64 0),(.int .i64 0),(.int .i64 0),(.int .i64 0)]) [],Zs 7 19 91] (.seq (ZR [Zf 92 1 8,Zm 20 92] (.block 4 (.loop (.seq (ZR [Zm 93 20,Zf 94 1 9,Zr 95 .leq 93 94] (ZC 95 .skip (.exit 4))) (.seq (.block 5 (.seq (.draw [] [Zu 98 20,w1 99 (.idxArr 140 1) [.tm 15,.tm 98],Zv 100 1 99,w1 101 .not [.tm 100],Zu 102 101,⟨Zg 103 102 true 20,[]⟩,⟨u2 104 102 true (.idxArr 140 7) [.tm 16,.tm 103],[]⟩,⟨Zj 105 102 true 2 104,[]⟩,⟨Zh 106 102 true 1 105,[]⟩,⟨u2 107 102 true (.cmp .gtr) [.tm 106,.cn (.int .i64 0)],[]⟩,w1 108 .and [.tm 102,.tm 107],Zu 109 108,⟨Zj 110 109 true 2 19,[]⟩,⟨Zh 111 109 true 1 110,[]⟩,⟨u2 112 109 true (.cmp .eql) [.tm 111,.cn (.int .i64 0)],[]⟩,⟨Zg 113 109 true 112,[]⟩,⟨Zg 114 113 false 20,[]⟩,⟨u2 115 113 false (.idxArr 140 7) [.tm 16,.tm 114],[]⟩,⟨u2 116 113 false (.load true 7) [.tm 115],[]⟩,⟨u2 117 113 false (.load true 7) [.tm 19],[]⟩,⟨u2 118 113 false (.call 32) [.tm 116,.tm 117],[]⟩,⟨u2 119 113 false (.cmp .lss) [.tm 118,.cn (.int .i64 0)],[]⟩,⟨u2 120 109 true .or [.tm 113,.tm 119],[]⟩,w1 121 .and [.tm 109,.tm 120]]) (ZC 121 (.region [Zm 122 20,u1 123 (.idxArr 140 7) [.tm 16,.tm 122],Zt 124 7 123,Zs 7 19 124]) .skip))) (.region [Zm 96 20,Zp 97 96 1,Zm 20 97])))))) (.seq (ZR [Za 125 2 19,Zf 126 1 125,Zq 127 .eql 126 0] (ZC 127 (ZR [u1 10 .mov [.cn .nil],Zi 11 4] .ret) .skip)) (ZR [Zm 128 17,Zt 129 7 19,u1 130 (.buildSlice 7 1 [(.int .i64 0),(.int .i64 0),(.int .i64 0),(.int .i64 0),(.int .i64 0),(.int .i64 0),(.int .i64 0)] [(0,7)]) [.tm 129],u1 131 (.append 7 56 [(.int .i64 0),(.int .i64 0),(.int .i64 0),(.int .i64 0),(.int .i64 0),(.int .i64 0),(.int .i64 0)]) [.tm 128,.tm 130],Zm 17 131] (.region [Zm 132 18,Za 133 1 19,Zf 134 1 133,u1 135 .callv [.tm 132,.tm 134]])))))) (.region [Zp 136 89 1,Zm 89 136]))))))) (ZR [Zm 137 17,Zm 10 137,Zi 11 0] .ret)))))))))))))⟩
theorem YBC:Yg YCX Tryz.f10=some v10:=by kernel_rfl
def v30:VF:=⟨56,[],(ZR [Zm 10 0,u1 11 (.idxArr 140 1) [.tm 1,.tm 10],u0 (.store 1) [.tm 11,.cn (.bool true)]] (ZR [Zf 12 1 2,Zm 13 0,u1 14 (.ari .sub) [.tm 13,.cn (.int .i64 12)],u1 15 .max [.tm 12,.tm 14],Zm 7 15] (.block 0 (.loop (.seq (ZR [Zm 16 7,Zf 17 1 3,Zm 18 0,Zp 19 18 12,u1 20 .min [.tm 17,.tm 19],Zr 21 .leq 16 20] (ZC 21 .skip (.exit 0))) (.seq (.block 1 (ZR [Zf 25 1 4,Zm 26 0,Zm 27 7,u1 28 (.call 31) [.tm 25,.tm 26,.tm 27],Zm 24 28,Ze 29 0 24,Ze 30 1 24,u1 8 (.alloc [(.int .i64 0),(.int .i64 0),(.int .i64 0),(.int .i64 0),(.int .i64 0),(.int .i64 0),(.int .i64 0)]) [],Zs 7 8 29,Zm 9 30] (.seq (.draw [] [Zu 31 9,Zu 32 31,⟨Zg 33 32 true 7,[]⟩,⟨u2 34 32 true (.idxArr 140 1) [.tm 1,.tm 33],[]⟩,⟨Zh 35 32 true 1 34,[]⟩,⟨u2 36 32 true .not [.tm 35],[]⟩,w1 37 .and [.tm 32,.tm 36],Zu 38 37,⟨Zg 39 38 true 7,[]⟩,⟨u2 40 38 true (.idxArr 140 7) [.tm 5,.tm 39],[]⟩,⟨Zj 41 38 true 2 40,[]⟩,⟨Zh 42 38 true 1 41,[]⟩,⟨u2 43 38 true (.cmp .eql) [.tm 42,.cn (.int .i64 0)],[]⟩,⟨Zg 44 38 true 43,[]⟩,⟨u2 45 44 false (.load true 7) [.tm 8],[]⟩,⟨Zg 46 44 false 7,[]⟩,⟨u2 47 44 false (.idxArr 140 7) [.tm 5,.tm 46],[]⟩,⟨u2 48 44 false (.load true 7) [.tm 47],[]⟩,⟨u2 49 44 false (.call 32) [.tm 45,.tm 48],[]⟩,⟨u2 50 44 false (.cmp .lss) [.tm 49,.cn (.int .i64 0)],[]⟩,⟨u2 51 38 true .or [.tm 44,.tm 50],[]⟩,w1 52 .and [.tm 38,.tm 51]]) (ZC 52 (.region [Zm 53 7,Zt 54 7 8,u1 55 (.idxArr 140 7) [.tm 5,.tm 53],Zs 7 55 54]) .skip)))) (.region [Zm 22 7,Zp 23 22 1,Zm 7 23])))))))⟩
theorem YBN:Yg YCX Tryz.f30=some v30:=by kernel_rfl
def setB(K:Nat->Bool)(i:Nat)(b:Bool):Nat->Bool:=fun k=>if k=i then b else K k
def setM(M:Nat->Iv)(i:Nat)(x:Iv):Nat->Iv:=fun k=>if k=i then x else M k
structure Pln where
 K:Nat->Bool
 B:Nat->Stp
def Yc7(L:Nat->Rt)(M:Nat->Iv)(K:Nat->Bool)(B:Nat->Stp)(note n:Nat):Bool:=
 (stpF L M note n).2&& !K n&&(decide ((B n).p=0) || decide (befF (stpF L M note n).1 (B n)<0))
def lrnB(L:Nat->Rt)(M:Nat->Iv)(low high:Nat)(K:Nat->Bool)(B:Nat->Stp)(note:Nat):Nat->Stp:=
 fun n=>if low<=n/\n<=high/\note<=n+12/\n<=note+12/\Yc7 L M K B note n=true then(stpF L M note n).1 else B n
def lrn(L:Nat->Rt)(M:Nat->Iv)(low high:Nat)(s:Pln)(note:Nat):Pln:=⟨setB s.K note true,lrnB L M low high (setB s.K note true) s.B note⟩
def pckS(s:Pln)(low:Nat):Nat->Stp
 |0=>Yfx
 |i+1=>if(!s.K (low+i)&&decide (0<(s.B (low+i)).p)&&(decide ((pckS s low i).p=0) || decide (befF (s.B (low+i)) (pckS s low i)<0)))=true then s.B (low+i)else pckS s low i
def plnL(L:Nat->Rt)(M:Nat->Iv)(low high:Nat)(s:Pln):Nat->Option (Pln×List Stp)
 |0=>some (s,[])
 |j+1=>match plnL L M low high s j with
   |none=>none
   |some (t,out)=>if(pckS t low (high+1-low)).p=0 then none else some (lrn L M low high t (pckS t low (high+1-low)).nw.toNat,out++[pckS t low (high+1-low)])
def Ylp(fr low high:Int):Bool:=decide (low<0) || decide (139<high) || decide (high<=low) || decide (25<=high-low) || decide (fr<low) || decide (high<fr)
def miT(a t0 t:Int)(T:Tm)(low high:Nat):Nat->Iv:=fun n=>if low<=n/\n<=high then micF a t0 t T n else(0,0)
def plnF(L:Nat->Rt)(M:Nat->Iv)(fr low high:Nat):List Stp×Int:=
 match plnL L M low high (lrn L M low high ⟨fun _=>false,fun _=>Yfx⟩ fr) (high-low)with
 |none=>([],4)
 |some (_,out)=>(out,0)
def YdU(a t0 t:Int)(T:Tm)(fr low high:Int):List Stp×Int:=
 if rdyF a t0 t T≠0 then([],rdyF a t0 t T)else if Ylp fr low high=true then([],2)
 else plnF (YaS T) (miT a t0 t T low.toNat high.toNat) fr.toNat low.toNat high.toNat
def planC:Ctr:={ alias:=false,of:=fun l=>match l with
 | [.agg [.int .i64 a,.int .i64 t0,.int .i64 t],.agg cs,.int .i64 fr,.int .i64 low,.int .i64 high]=> .ex Tm fun T=> .pre (cs=encT T/\T.nm.size<=9223372036854775807)
     (.all Bool fun z=> .fin (.tup [.vs true z (YdU a t0 t T fr low high).1.length 7 (fun k=>encS ((YdU a t0 t T fr low high).1.getD k default)),.int .i64 (YdU a t0 t T fr low high).2]) [])
 |_=>noC}
theorem Yli{k:SV->List HO->Prop}{al:Bool}{hp:List HO}{e:Int}{g:Nat->List SV}(h:k (.tup [.vs true true 0 7 g,.int .i64 e]) [])(hf:Ym (.vs true true 0 7 g)):YB al k (.tup [.nil,.int .i64 e]) hp:=
 YE h ⟨⟨rfl,rfl⟩,⟨rfl,rfl⟩,trivial⟩ (fun _=>⟨hf,trivial,trivial⟩)
theorem YwF{a t0 t:Int}{T:Tm}(h:rdyF a t0 t T=0):chkS a t0 t=0/\Ybs T=0:=by
 have h1:chkS a t0 t=0:=by
   by_cases h0:chkS a t0 t=0
   . exact h0
   . rw[rdyF,orF,if_pos h0]at h;exact absurd h h0
 refine⟨h1,?_⟩
 rw[rdyF,orF,if_neg (fun hh=>hh h1),orF]at h
 by_cases h0:Ybs T=0
 . exact h0
 . rw[if_pos h0]at h;exact absurd h h0
theorem Yo2{fr low high:Int}(h:Ylp fr low high=false):0<=low/\high<=139/\low<high/\high-low<25/\low<=fr/\fr<=high:=by
 simp only[Ylp,YDb,decide_eq_false_iff_not]at h;omega
theorem YuQ(fr low high:Int):(decide (low<0) || decide (139<high) || decide (high<=low) || decide (25<=IntKind.i64.wrap (high-low)) || decide (fr<low) || decide (high<fr))=Ylp fr low high:=by
 unfold Ylp
 by_cases h1:low<0
 . rw[decide_eq_true h1];simp
 . by_cases h2:139<high
   . rw[decide_eq_true h2];simp
   . by_cases h3:high<=low
     . rw[decide_eq_true h3];simp
     . rw[YCW (high-low) (by omega)]
theorem YgI:∀(a b:List SV)(k:Nat)(v:List SV),k+lenL v<=lenL a->Ys (a++b) k v=Ys a k v++b
 | [],b,k,v,h=>by
   have h:k+lenL v<=0:=h
   obtain rfl:k=0:=by omega
   cases v with
   |nil=>cases b <;> rfl
   |cons x v=>simp [lenL]at h
 |x::a,b,0,[],_=>rfl
 |x::a,b,0,y::v,h=>by
   show y::Ys (a++b) 0 v=y::(Ys a 0 v++b)
   rw[YgI a b 0 v (by simp [lenL]at h⊢;omega)]
 |x::a,b,k+1,v,h=>by
   have e1:Ys ((x::a)++b) (k+1) v=x::Ys (a++b) k v:=by cases v <;> rfl
   have e2:Ys (x::a) (k+1) v=x::Ys a k v:=by cases v <;> rfl
   rw[e1,e2,YgI a b k v (by simp [lenL]at h;omega)]
   rfl
theorem Yk4:∀(a b:List SV)(v:List SV),v≠ []->Ys (a++b) (lenL a) v=a++Ys b 0 v
 | [],b,v,_=>rfl
 |x::a,b,v,h=>by
   have e1:Ys ((x::a)++b) (lenL (x::a)) v=x::Ys (a++b) (lenL a) v:=by cases v <;> rfl
   rw[e1,Yk4 a b v h]
   rfl
theorem Ygf{M M':Nat->Iv}:∀{n:Nat},(∀k,k<n->M k=M' k)->Yar M n=Yar M' n
 |0,_=>rfl
 |n+1,h=>by rw[Yar,Yar,Ygf fun k hk=>h k (by omega),h n (by omega)]
theorem Ykc(M:Nat->Iv){i:Nat}(x y:Int):∀{n:Nat},i<n->Ys (Yar M n) (i*2) [.int .i64 x,.int .i64 y]=Yar (setM M i (x,y)) n
 |n+1,h=>by
   rw[Yar,Yar]
   rcases YC4 i n with h1|h1
   . rw[YgI _ _ _ _ (by rw[Yau];simp [lenL];omega),Ykc M x y h1,show setM M i (x,y) n=M n from if_neg (by omega)]
   . obtain rfl:i=n:=by omega
     rw[show i*2=lenL (Yar M i)by rw[Yau];omega,Yk4 _ _ _ (by simp),show setM M i (x,y) i=(x,y)from if_pos rfl,Ygf (M':=setM M i (x,y)) fun k hk=>(if_neg (by omega)).symm]
     rfl
theorem YpI(v:SV)(M:Nat->Iv){i n:Nat}(h:i<n)(x y:Int):Ys (v::Yar M n) (1+idxN (i:Int) 2) [.int .i64 x,.int .i64 y]=v::Yar (setM M i (x,y)) n:=by
 rw[show 1+idxN (i:Int) 2=i*2+1 by simp [idxN];omega]
 show v::Ys (Yar M n) (i*2) _=_
 rw[Ykc M x y h]
theorem Yk8(t:Bool)(hp:List HO)(r:List SV->List SV):∀(a b:List SV),YaX t hp r (a++b)=YaX t hp r a++YaX t hp r b
 | [],_=>rfl
 |x::a,b=>by
   show view t hp r x::YaX t hp r (a++b)=view t hp r x::(YaX t hp r a++YaX t hp r b)
   rw[Yk8 t hp r a b]
theorem Ye2(t:Bool)(hp:List HO)(r:List SV->List SV)(M:Nat->Iv):∀n,YaX t hp r (Yar M n)=Yar M n
 |0=>rfl
 |n+1=>by rw[Yar,Yk8,Ye2 t hp r M n];rfl
def miP(a t0 t:Int)(T:Tm)(lo i:Nat):Nat->Iv:=fun n=>if lo<=n/\n<lo+i then micF a t0 t T n else(0,0)
theorem YsY(a t0 t:Int)(T:Tm)(lo i:Nat):setM (miP a t0 t T lo i) (lo+i) (micF a t0 t T ((lo+i:Nat):Int))=miP a t0 t T lo (i+1):=by
 funext k
 unfold setM miP
 by_cases h:k=lo+i
 . subst h;rw[if_pos rfl,if_pos (by omega)]
 . rw[if_neg h]
   by_cases h2:lo<=k/\k<lo+i
   . rw[if_pos h2,if_pos (by omega)]
   . rw[if_neg h2,if_neg (by omega)]
theorem Yv0(a t0 t:Int)(T:Tm){lo hi:Nat}(h:lo<=hi):miP a t0 t T lo (hi+1-lo)=miT a t0 t T lo hi:=by
 funext k
 unfold miP miT
 by_cases h2:lo<=k/\k<=hi
 . rw[if_pos h2,if_pos (by omega)]
 . rw[if_neg h2,if_neg (by omega)]
theorem miP_0(a t0 t:Int)(T:Tm)(lo:Nat):miP a t0 t T lo 0=fun _=>(0,0):=by
 funext k;unfold miP;rw[if_neg (by omega)]
theorem YzL{a b:Nat}{x y:List SV}(h:x=y)(hb:bndL b y):leL a b x y:=by rw[h];exact Yc _ hb
def repL(v:SV):Nat->List SV
 |0=>[]
 |n+1=>v::repL v n
theorem YkU(v:SV):∀(j n:Nat),Yl j (repL v n)=repL v (n-j)
 |0,n=>by cases n <;> rfl
 |j+1,0=>by rw[Nat.zero_sub];rfl
 |j+1,n+1=>by
   show Yl j (repL v n)=_
   rw[YkU v j n,show n+1-(j+1)=n-j by omega]
theorem YkV(v:SV):∀(s n:Nat),s<=n->Yt s (repL v n)=repL v s
 |0,n,_=>by cases n <;> rfl
 |s+1,n+1,h=>by
   show v::Yt s (repL v n)=v::repL v s
   rw[YkV v s n (by omega)]
theorem Ygj{cs:List SV}{v:SV}{s j n:Nat}(h:cs=repL v n)(hj:j+s<=n):Yt s (Yl j cs)=repL v s:=by
 rw[h,YkU,YkV v s _ (by omega)]
def lrnP(L:Nat->Rt)(M:Nat->Iv)(low high:Nat)(K:Nat->Bool)(B:Nat->Stp)(note n:Nat):Nat->Stp:=
 fun k=>if k<n/\low<=k/\k<=high/\note<=k+12/\k<=note+12/\Yc7 L M K B note k=true then(stpF L M note k).1 else B k
theorem Yt6{L:Nat->Rt}{M:Nat->Iv}{low high:Nat}{K:Nat->Bool}{B:Nat->Stp}{note n:Nat}(h:low<=n/\n<=high/\note<=n+12/\n<=note+12)(ht:Yc7 L M K B note n=true):
   (fun k=>if k=n then(stpF L M note n).1 else lrnP L M low high K B note n k)=lrnP L M low high K B note (n+1):=by
 funext k
 by_cases hk:k=n
 . subst hk
   show(if k=k then _ else _)=_
   rw[if_pos rfl]
   exact(if_pos ⟨by omega,h.1,h.2.1,h.2.2.1,h.2.2.2,ht⟩).symm
 . show(if k=n then _ else _)=_
   rw[if_neg hk]
   unfold lrnP
   have e:(k<n+1)=(k<n):=by apply propext;omega
   simp only[e]
theorem Yt5{L:Nat->Rt}{M:Nat->Iv}{low high:Nat}{K:Nat->Bool}{B:Nat->Stp}{note n:Nat}(ht:Yc7 L M K B note n=false):
   lrnP L M low high K B note n=lrnP L M low high K B note (n+1):=by
 funext k
 unfold lrnP
 by_cases hk:k=n
 . subst hk
   rw[if_neg (fun hh=>Nat.lt_irrefl _ hh.1),if_neg (fun hh=>by rw[ht]at hh;exact absurd hh.2.2.2.2.2 (by decide))]
 . have e:(k<n+1)=(k<n):=by apply propext;omega
   simp only[e]
theorem Yt4{L:Nat->Rt}{M:Nat->Iv}{low high:Nat}{K:Nat->Bool}{B:Nat->Stp}{note n:Nat}(h1:high<n\/note+12<n)(_:True:=trivial):
   lrnP L M low high K B note n=lrnB L M low high K B note:=by
 funext k
 unfold lrnP lrnB
 by_cases hk:k<n
 . simp only[hk,true_and]
 . rw[if_neg (fun hh=>hk hh.1),if_neg (fun hh=>by omega)]
theorem Yuo(L:Nat->Rt)(M:Nat->Iv){kn nw:Int}(h:(stpF L M kn nw).2=true):(stpF L M kn nw).1.nw=nw:=by
 unfold stpF at h⊢
 by_cases hc:(byF (max kn nw-min kn nw)).1=0
 . rw[if_pos hc]at h;exact absurd h (by decide)
 . rw[if_neg hc]
theorem Yqi{L:Nat->Rt}{M:Nat->Iv}{lo hi:Nat}{K:Nat->Bool}{B:Nat->Stp}{note:Nat}(hB:∀q,(B q).p≠0->(B q).nw=(q:Int)/\lo<=q/\q<=hi)(q:Nat)(hq:(lrnB L M lo hi K B note q).p≠0):
   (lrnB L M lo hi K B note q).nw=(q:Int)/\lo<=q/\q<=hi:=by
 unfold lrnB at hq⊢
 by_cases hc:lo<=q/\q<=hi/\note<=q+12/\q<=note+12/\Yc7 L M K B note q=true
 . rw[if_pos hc]
   refine⟨Yuo L M ?_,hc.1,hc.2.1⟩
   have ht:=hc.2.2.2.2
   unfold Yc7 at ht
   rw[YC0,YC0]at ht
   exact ht.1.1
 . rw[if_neg hc]at hq⊢
   exact hB q hq
theorem Yug(s:Pln)(low:Nat):∀i,(pckS s low i).p≠0->∃q,pckS s low i=s.B q
 |0,h=>absurd rfl h
 |i+1,h=>by
   unfold pckS at h⊢
   split at h
   . rename_i c;rw[if_pos c];exact⟨low+i,rfl⟩
   . rename_i c;rw[if_neg c];exact Yug s low i h
theorem YkL{L:Nat->Rt}{M:Nat->Iv}{lo hi:Nat}{s:Pln}{j:Nat}(h:plnL L M lo hi s j=none):∀d,plnL L M lo hi s (j+d)=none
 |0=>h
 |d+1=>by
   show plnL L M lo hi s (j+d+1)=none
   rw[plnL,YkL h d]
theorem YqF{L:Nat->Rt}{M:Nat->Iv}{lo hi:Nat}{s t:Pln}{out:List Stp}{j:Nat}(h:plnL L M lo hi s j=some (t,out))(hp:(pckS t lo (hi+1-lo)).p≠0):
   plnL L M lo hi s (j+1)=some (lrn L M lo hi t (pckS t lo (hi+1-lo)).nw.toNat,out++[pckS t lo (hi+1-lo)]):=by
 rw[plnL,h]
 exact if_neg hp
theorem YqE{L:Nat->Rt}{M:Nat->Iv}{lo hi:Nat}{s t:Pln}{out:List Stp}{j:Nat}(h:plnL L M lo hi s j=some (t,out))(hp:(pckS t lo (hi+1-lo)).p=0):
   plnL L M lo hi s (j+1)=none:=by
 rw[plnL,h]
 exact if_pos hp
theorem Ywj(i:Nat)(T:Tm):Yi i (encT T)=encT T:=rfl
theorem YkN(i:Nat):∀(a b:List SV),Yi i (a++b)=Yi i a++Yi i b
 | [],_=>rfl
 |x::a,b=>by
   show YeX i x::Yi i (a++b)=YeX i x::(Yi i a++Yi i b)
   rw[YkN i a b]
theorem YqJ(i:Nat)(M:Nat->Iv):∀n,Yi i (Yar M n)=Yar M n
 |0=>rfl
 |n+1=>by rw[Yar,YkN,YqJ i M n];rfl
theorem lb7{a b k n:Nat}(y:Stp)(W:Nat->Stp):leL a b (if k=n then encS y else encS (W k)) (encS (if k=n then y else W k)):=by
 by_cases hc:k=n
 . rw[if_pos hc,if_pos hc];exact Yc _ ⟨trivial,trivial,trivial,trivial,trivial,trivial,trivial,trivial⟩
 . rw[if_neg hc,if_neg hc];exact Yc _ ⟨trivial,trivial,trivial,trivial,trivial,trivial,trivial,trivial⟩
theorem lb8{a b k m:Nat}(out:List Stp)(x:Stp)(hk:k<m+1):leL a b (if k<m then encS (out.getD k default)else Yi 8 (Yt 7 (Yl ((k-m)*7) (encS x)))) (if k<m then encS (out.getD k default)else Yi 8 (Yt 7 (Yl ((k-m)*7) (encS x)))):=by
 by_cases hc:k<m
 . rw[if_pos hc];exact Yc _ ⟨trivial,trivial,trivial,trivial,trivial,trivial,trivial,trivial⟩
 . rw[if_neg hc,show k-m=0 by omega];exact Yc _ ⟨trivial,trivial,trivial,trivial,trivial,trivial,trivial,trivial⟩
theorem lb1{a b k:Nat}(x:Stp)(hk:k<1):leL a b (Yi 8 (Yt 7 (Yl (k*7) (encS x)))) (Yi 8 (Yt 7 (Yl (k*7) (encS x)))):=by
 obtain rfl:k=0:=by omega
 exact Yc _ ⟨trivial,trivial,trivial,trivial,trivial,trivial,trivial,trivial⟩
def TQ0:Env:={ ct:=fun n=>match n with|28=>some rdyC|29=>some NotC|22=>some micC|31=>some stpC|32=>some befC|_=>none,fn:=fun n=>match n with|30=>some v30|_=>none,meth:=fun _ _=>none}
theorem Ya7:TQ0.ct 28=some rdyC:=rfl
theorem Ya8:TQ0.ct 29=some NotC:=rfl
theorem Ya6:TQ0.ct 22=some micC:=rfl
theorem Yba:TQ0.ct 31=some stpC:=rfl
theorem Ybb:TQ0.ct 32=some befC:=rfl
theorem Ya9:TQ0.ct 30=none:=rfl
theorem Ybc:TQ0.fn 30=some v30:=rfl
theorem YyU:Yo YCX TQ0:=by
 refine⟨fun f c h=>?_,fun f vf h=>?_,(fun _ _ _ h=>by cases h),by kernel_rfl,(fun _ h=>by cases h)⟩
 . simp only[TQ0]at h
   split at h
   . cases h;exact⟨YBj,Tryz.f28,Tryz.func28,by kernel_rfl,by kernel_rfl⟩
   . cases h;exact⟨Yuy,Tryz.f29,Tryz.func29,by kernel_rfl,by kernel_rfl⟩
   . cases h;exact⟨Yz6,Tryz.f22,Tryz.func22,by kernel_rfl,by kernel_rfl⟩
   . cases h;exact⟨stp_c,Tryz.f31,Tryz.func31,by kernel_rfl,by kernel_rfl⟩
   . cases h;exact⟨bef_c,Tryz.f32,Tryz.func32,by kernel_rfl,by kernel_rfl⟩
   . cases h
 . simp only[TQ0]at h
   split at h
   . cases h;exact⟨Tryz.f30,Tryz.func30,YBN,Tryz.f30,Tryz.func30,by kernel_rfl,by kernel_rfl⟩
   . cases h
theorem YAp:planC.ok YCX 10:=by
 refine Yb Tryz.func10 YBC YyU 1500 planC fun args k h=>?_
 simp only[planC]at h
 split at h
 . rename_i a t0 t cs fr low high
   obtain⟨T,⟨rfl,hnm⟩,h⟩:=h
   have h:∀z,k (.tup [.vs true z (YdU a t0 t T fr low high).1.length 7 (fun k=>encS ((YdU a t0 t T fr low high).1.getD k default)),.int .i64 (YdU a t0 t T fr low high).2]) []:=h
   refine⟨[.agg [.int .i64 a,.int .i64 t0,.int .i64 t],.agg (encT T),.int .i64 fr,.int .i64 low,.int .i64 high],⟨⟨⟨rfl,rfl⟩,⟨rfl,rfl⟩,⟨rfl,rfl⟩,trivial⟩,Yc _ (Yu T _),⟨rfl,rfl⟩,⟨rfl,rfl⟩,⟨rfl,rfl⟩,trivial⟩,?_⟩
   dsimp only[v10,Ybm,lenT,Ya7,Ya8,Ya6,Yba,Ybb,Ya9,Ybc,v30,rdyC,NotC,micC,stpC,befC,go_sem,reduceIte,YCS]
   simp only[Yd,YCS,YCU,reduceCtorEq,YCT]
   refine⟨YbH T,T,⟨rfl,hnm⟩,fun hr=>?_,fun hr=>?_⟩
   . have e:YdU a t0 t T fr low high=([],rdyF a t0 t T):=if_pos hr
     have h:=h true
     rw[e]at h
     exact Yli h ⟨rfl,fun q hq=>absurd hq (Nat.not_lt_zero _)⟩
   rw[YuQ]
   refine⟨fun hb=>?_,fun hb=>?_⟩
   . have e:YdU a t0 t T fr low high=([],2):=by rw[YdU,if_neg (fun hh=>hh hr),if_pos hb]
     have h:=h true
     rw[e]at h
     exact Yli h ⟨rfl,fun q hq=>absurd hq (Nat.not_lt_zero _)⟩
   obtain⟨b1,b2,b3,b4,b5,b6⟩:=Yo2 hb
   obtain⟨hS,hT⟩:=YwF hr
   obtain⟨F,rfl⟩:∃m:Nat,fr=(m:Int):=⟨fr.toNat,by omega⟩
   obtain⟨lo,rfl⟩:∃m:Nat,low=(m:Int):=⟨low.toNat,by omega⟩
   obtain⟨hi,rfl⟩:∃m:Nat,high=(m:Int):=⟨high.toNat,by omega⟩
   have e:YdU a t0 t T F lo hi=plnF (YaS T) (miT a t0 t T lo hi) F lo hi:=by rw[YdU,if_neg (fun hh=>hh hr),if_neg (by rw[hb];decide)];rfl
   rw[e]at h
   refine⟨T,⟨rfl,hnm⟩,?_⟩
   rw[if_neg (fun hh=>hh hT)]
   dsimp only[Ybm,lenT,Ya7,Ya8,Ya6,Yba,Ybb,Ya9,Ybc,v30,rdyC,NotC,micC,stpC,befC,go_sem,reduceIte,YCS]
   simp only[Yd,YCS,YCU,reduceCtorEq,YCT]
   refine⟨by decide,by decide,?_⟩
   obtain⟨N,hN⟩:∃N:Nat,N=140:=⟨_,rfl⟩
   obtain⟨L,hL⟩:∃L,L=YaS T:=⟨_,rfl⟩
   rw[<-hL]at h⊢
   refine Loop.keep [2,2,0,1,0,0,0,1] Nat (fun i=>[(14,.int .i64 ((lo+i:Nat):Int))]) (fun i=>[(4,.box (.vs true false 12 7 (fun k=>encR (L k))::Yar (miP a t0 t T lo i) N))]) [] (fun i=>i<=hi+1-lo) (fun i=>hi+1-lo-i) ?_ ?_
   . refine⟨0,YDy _,?_⟩
     rw[miP_0]
     dsimp only[go_sem,reduceIte,YCS]
     simp only[Ya]
     refine⟨⟨by decide,by decide,by decide,by decide,by decide,rfl⟩,Yc _ (Yu T _),YzL (by subst hN;kernel_rfl) (Y7 _ _ _),by decide⟩
   . rintro i hi'
     have e1:1000*a=IntKind.i64.wrap (1000*a)\/True:= .inr trivial
     dsimp only[Ybm,lenT,Ya7,Ya8,Ya6,Yba,Ybb,Ya9,Ybc,v30,rdyC,NotC,micC,stpC,befC,YCY,go_sem,reduceIte,YCS]
     simp only[Yd,YCS,YCU,reduceCtorEq,YCT]
     refine⟨fun hlt=>?_,fun hge=>?_⟩
     . refine⟨T,⟨rfl,hnm⟩,by decide,by decide,⟨by omega,by omega⟩,by rw[Yau];simp only[idxN];omega,i+1,by omega,by omega,?_⟩
       rw[YpI _ _ (by omega)]
       rw[show((Yi4 (1000*a) a t0 t T ((lo+i:Nat):Int)).1.1,(Yi4 (1000*a) a t0 t T ((lo+i:Nat):Int)).1.2)=micF a t0 t T ((lo+i:Nat):Int)from rfl,YsY]
       simp only[Ya]
       refine⟨⟨by decide,by decide,by decide,by decide,by decide,?_⟩,Yc _ (Yu T _),Yc _ (Y7 _ _ _),by decide⟩
       rw[YCW (((lo+i:Nat):Int)+1) (by omega)]
       push_cast;omega
     . obtain rfl:i=hi+1-lo:=by omega
       rw[Yv0 a t0 t T (by omega)]
       refine⟨⟨by omega,by omega⟩,by omega,?_⟩
       obtain⟨nt,hnt⟩:∃m:Nat,m=F:=⟨_,rfl⟩
       obtain⟨K,hK⟩:∃K:Nat->Bool,K=fun _=>false:=⟨_,rfl⟩
       obtain⟨B,hB⟩:∃B:Nat->Stp,B=fun _=>Yfx:=⟨_,rfl⟩
       have hntb:lo<=nt/\nt<=hi:=by omega
       obtain⟨M,hM⟩:∃M,M=miT a t0 t T lo hi:=⟨_,rfl⟩
       rw[<-hM]at h⊢
       rw[<-hnt]
       obtain⟨s0,hs0⟩:∃m:Nat,m=max lo (nt-12):=⟨_,rfl⟩
       obtain⟨e0,he0⟩:∃m:Nat,m=min hi (nt+12):=⟨_,rfl⟩
       obtain⟨K',hK'⟩:∃K',K'=setB K nt true:=⟨_,rfl⟩
       refine Loop.keep [0,0,0,0,0,0] (Nat×(Nat->Stp)) (fun x=>[(7,.int .i64 x.1)]) (fun x=>[(6,.own false 1 140 (fun k=>[.bool (K' k)])),(7,.own false 7 140 (fun k=>encS (x.2 k)))]) [] (fun x=>s0<=x.1/\x.1<=e0+1/\x.2=lrnP L M lo hi K' B nt x.1) (fun x=>e0+1-x.1) ?_ ?_
       . refine⟨(s0,B),⟨by omega,by omega,?_⟩,?_⟩
         . funext k
           exact(if_neg (by omega)).symm
         dsimp only[go_sem,reduceIte,YCS]
         simp only[Ya]
         refine⟨⟨by decide,by decide,by decide,by decide,by decide,?_⟩,by decide,Yc _ (Yu T _),Yc _ (Y7 _ _ _),by decide,fun q hq=>?_,fun q hq=>?_⟩
         . rw[YCW ((nt:Int)-12) (by omega)];omega
         . rw[hK',hK]
           unfold setB
           by_cases hc:q=nt
           . rw[if_pos hc,if_pos hc,Ygj (v:= .bool false) (n:=140) ?_ ?_]
             . exact Yc _ ⟨trivial,trivial⟩
             . kernel_rfl
             . omega
           . rw[if_neg hc,if_neg hc,Ygj (v:= .bool false) (n:=140) ?_ ?_]
             . exact Yc _ ⟨trivial,trivial⟩
             . kernel_rfl
             . omega
         . show leL _ _ (Yt 7 (Yl (q*7) _)) (encS (B q))
           rw[hB,Ygj (v:= .int .i64 0) (n:=980) ?_ ?_]
           . exact Yc _ ⟨trivial,trivial,trivial,trivial,trivial,trivial,trivial,trivial⟩
           . kernel_rfl
           . omega
       rintro⟨n,W⟩ ⟨hn1,hn2,hW⟩
       replace hn1:s0<=n:=hn1
       replace hn2:n<=e0+1:=hn2
       replace hW:W=lrnP L M lo hi K' B nt n:=hW
       have hWn:W n=B n:=by rw[hW];exact if_neg (by omega)
       dsimp only[Ybm,lenT,Ya7,Ya8,Ya6,Yba,Ybb,Ya9,Ybc,v30,rdyC,NotC,micC,stpC,befC,YCY,go_sem,reduceIte,YCS]
       simp only[Yd,YCS,YCU,reduceCtorEq,YCT]
       rw[Ye2,YCW ((nt:Int)+12) (by omega)]
       refine⟨fun hlt=>?_,fun hge=>?_⟩
       . refine⟨L,M,N,⟨fun q _=>Ye _,⟨rfl,hN⟩,by omega,by omega⟩,by decide,by decide,?_⟩
         obtain⟨⟨⟨y1,y2,y3,y4,y5,y6,y7⟩,is⟩,hy⟩:∃y,y=stpF L M nt n:=⟨_,rfl⟩
         rw[<-hy]
         have hTk:Yc7 L M K' B nt n=(is&& !K' n&&(decide ((W n).p=0) || decide (befF ⟨y1,y2,y3,y4,y5,y6,y7⟩ (W n)<0))):=by rw[Yc7,<-hy,hWn]
         dsimp only[encS,Ybm,lenT,Ya7,Ya8,Ya6,Yba,Ybb,Ya9,Ybc,v30,rdyC,NotC,micC,stpC,befC,YCY,go_sem,reduceIte,YCS]
         simp only[Yd,YCS,YCU,reduceCtorEq,YCT]
         rw[show(⟨(W n).kn,(W n).nw,(W n).p,(W n).q,(W n).se,(W n).lo,(W n).hi⟩:Stp)=W n from rfl,<-hTk]
         have hbb:0<=(n:Int)/\(n:Int)<((140:Nat):Int):=by omega
         have hb2:n<140:=by omega
         refine⟨fun _=>hbb,fun _=>hb2,fun _=>hbb,fun _=>hb2,fun _=>hbb,fun _=>hb2,fun c1 c2=>?_,fun ht=>⟨hbb,hb2,(n+1,fun k=>if k=n then⟨y1,y2,y3,y4,y5,y6,y7⟩else W k),⟨by omega,by omega,?_⟩,?_,?_⟩,fun ht=>⟨(n+1,W),⟨by omega,by omega,?_⟩,?_,?_⟩⟩
         . rw[c1,decide_eq_false c2];rfl
         . show(fun k=>if k=n then(⟨y1,y2,y3,y4,y5,y6,y7⟩:Stp)else W k)=_
           rw[hW,show(⟨y1,y2,y3,y4,y5,y6,y7⟩:Stp)=(stpF L M nt n).1 by rw[<-hy]]
           exact Yt6 (by omega) ht
         . show e0+1-(n+1)<e0+1-n;omega
         . dsimp only[go_sem,reduceIte,YCS]
           simp only[Ya]
           refine⟨⟨by decide,by decide,by decide,by decide,by decide,?_⟩,by decide,Yc _ (Yu T _),Yc _ (Y7 _ _ _),?_⟩
           . rw[YCW ((n:Int)+1) (by omega)];rfl
           . first
             |exact⟨by decide,fun q hq=>lb7 ⟨y1,y2,y3,y4,y5,y6,y7⟩ W⟩
             |exact⟨by decide,fun q hq=>lb7 ⟨y1,y2,y3,y4,y5,y6,y7⟩ W,fun q hq=>lb8 out ⟨nx.kn,nt,nx.p,nx.q,nx.se,nx.lo,nx.hi⟩ hq,fun q hq=>lb1 ⟨nx.kn,nt,nx.p,nx.q,nx.se,nx.lo,nx.hi⟩ hq⟩
         . show W=_
           rw[hW]
           exact Yt5 (by simpa using ht)
         . show e0+1-(n+1)<e0+1-n;omega
         . dsimp only[go_sem,reduceIte,YCS]
           simp only[Ya]
           refine⟨⟨by decide,by decide,by decide,by decide,by decide,?_⟩,by decide,Yc _ (Yu T _),Yc _ (Y7 _ _ _),?_⟩
           . rw[YCW ((n:Int)+1) (by omega)];rfl
           . first
             |exact(by decide)
             |exact⟨by decide,fun q hq=>lb8 out ⟨nx.kn,nt,nx.p,nx.q,nx.se,nx.lo,nx.hi⟩ hq,fun q hq=>lb1 ⟨nx.kn,nt,nx.p,nx.q,nx.se,nx.lo,nx.hi⟩ hq⟩
       have hWe:W=lrnB L M lo hi K' B nt:=by
         rw[hW]
         exact Yt4 (by omega)
       have hP0:lrn L M lo hi ⟨fun _=>false,fun _=>Yfx⟩ F=⟨K',W⟩:=by rw[hWe,hK',hK,hB,hnt];rfl
       have hw0:∀q,(W q).p≠0->(W q).nw=(q:Int)/\lo<=q/\q<=hi:=by
         rw[hWe]
         exact Yqi (by rw[hB];exact fun q hq=>absurd rfl hq)
       obtain⟨P0,hPe⟩:∃P0:Pln,P0=⟨K',W⟩:=⟨_,rfl⟩
       rw[<-hPe]at hP0
       have hpl:plnF L M F lo hi=(match plnL L M lo hi P0 (hi-lo)with|none=>([],4) |some (_,out)=>(out,0)):=by rw[plnF,hP0]
       rw[hpl]at h
       rw[YCW ((hi:Int)-lo) (by omega)]
       refine Loop.keep [8,0,3,1,0,1,69] (Nat×Pln×List Stp×Bool) (fun x=>[(17,.own 8 0 x.2.2.1.length 7),(89,.int .i64 x.1)]) (fun x=>[(6,.own false 1 140 (fun k=>[.bool (x.2.1.K k)])),(7,.own false 7 140 (fun k=>encS (x.2.1.B k))),(8,.own x.2.2.2 7 x.2.2.1.length (fun k=>encS (x.2.2.1.getD k default)))]) [.gone] (fun x=>x.1<=hi-lo/\x.2.2.1.length=x.1/\(x.2.2.2=true->x.1=0)/\plnL L M lo hi P0 x.1=some (x.2.1,x.2.2.1)/\∀q,(x.2.1.B q).p≠0->(x.2.1.B q).nw=(q:Int)/\lo<=q/\q<=hi) (fun x=>hi-lo-x.1) ?_ ?_
       . refine⟨(0,P0,[],true),⟨YDy _,rfl,fun _=>rfl,rfl,by rw[hPe];exact hw0⟩,?_⟩
         rw[hPe]
         dsimp only[List.length_nil,go_sem,reduceIte,YCS]
         simp only[Ya]
         exact⟨⟨by decide,by decide,by decide,by decide,by decide,by decide,by decide,rfl⟩,Yc _ (Yu T _),Yc _ (Y7 _ _ _),by decide,fun q _=>Yc _ ⟨trivial,trivial,trivial,trivial,trivial,trivial,trivial,trivial⟩⟩
       clear hw0 hWe hge hW hWn hn1 hn2 n hP0 hPe
       rintro⟨j,⟨K,B⟩,out,z⟩ ⟨hj,hlen,hz,hpj,hnw⟩
       replace hj:j<=hi-lo:=hj
       replace hlen:out.length=j:=hlen
       replace hz:z=true->j=0:=hz
       replace hpj:plnL L M lo hi P0 j=some (⟨K,B⟩,out):=hpj
       replace hnw:∀q,(B q).p≠0->(B q).nw=(q:Int)/\lo<=q/\q<=hi:=hnw
       dsimp only[Ybm,lenT,Ya7,Ya8,Ya6,Yba,Ybb,Ya9,Ybc,v30,rdyC,NotC,micC,stpC,befC,YCY,go_sem,reduceIte,YCS]
       simp only[Yd,YCS,YCU,reduceCtorEq,YCT]
       refine⟨fun hlt=>?_,fun hge=>?_⟩
       . refine Loop.keep [8,0,3,1,0,0,0,0,68,0] Nat (fun i=>[(20,.int .i64 ((lo+i:Nat):Int))]) (fun i=>[(9,.box (encS (pckS ⟨K,B⟩ lo i)))]) [] (fun i=>i<=hi+1-lo) (fun i=>hi+1-lo-i) ?_ ?_
         . refine⟨0,YDy _,?_⟩
           dsimp only[pckS,Yfx,encS,go_sem,reduceIte,YCS]
           simp only[Ya]
           exact⟨⟨by decide,by decide,by decide,by decide,by decide,by decide,by decide,by decide,rfl⟩,Yc _ (Yu T _),Yc _ (Y7 _ _ _),by decide⟩
         rintro i hi'
         dsimp only[Ybm,lenT,Ya7,Ya8,Ya6,Yba,Ybb,Ya9,Ybc,v30,rdyC,NotC,micC,stpC,befC,encS,YCY,go_sem,reduceIte,YCS]
         simp only[Yd,YCS,YCU,reduceCtorEq,YCT]
         rw[show(⟨(B (lo+i)).kn,(B (lo+i)).nw,(B (lo+i)).p,(B (lo+i)).q,(B (lo+i)).se,(B (lo+i)).lo,(B (lo+i)).hi⟩:Stp)=B (lo+i)from rfl]
         rw[show(⟨(pckS ⟨K,B⟩ lo i).kn,(pckS ⟨K,B⟩ lo i).nw,(pckS ⟨K,B⟩ lo i).p,(pckS ⟨K,B⟩ lo i).q,(pckS ⟨K,B⟩ lo i).se,(pckS ⟨K,B⟩ lo i).lo,(pckS ⟨K,B⟩ lo i).hi⟩:Stp)=pckS ⟨K,B⟩ lo i from rfl]
         refine⟨fun hlt2=>?_,fun hge2=>?_⟩
         . have hbb:0<=((lo+i:Nat):Int)/\((lo+i:Nat):Int)<((140:Nat):Int):=by omega
           have hb2:lo+i<140:=by omega
           refine⟨hbb,hb2,fun _=>hbb,fun _=>hb2,fun _=>hbb,fun _=>hb2,fun c1 c2=>?_,fun ht=>⟨hbb,hb2,i+1,by omega,by omega,?_⟩,fun ht=>⟨i+1,by omega,by omega,?_⟩⟩
           . rw[c1,decide_eq_false c2];rfl
           . have hp:pckS ⟨K,B⟩ lo (i+1)=B (lo+i):=if_pos ht
             rw[hp]
             simp only[Ya]
             refine⟨⟨by decide,by decide,by decide,by decide,by decide,by decide,by decide,by decide,?_⟩,Yc _ (Yu T _),Yc _ (Y7 _ _ _),by decide⟩
             rw[YCW (((lo+i:Nat):Int)+1) (by omega)]
             push_cast;omega
           . have hp:pckS ⟨K,B⟩ lo (i+1)=pckS ⟨K,B⟩ lo i:=if_neg (by rw[ht];decide)
             rw[hp]
             simp only[Ya]
             refine⟨⟨by decide,by decide,by decide,by decide,by decide,by decide,by decide,by decide,?_⟩,Yc _ (Yu T _),Yc _ (Y7 _ _ _),by decide⟩
             rw[YCW (((lo+i:Nat):Int)+1) (by omega)]
             push_cast;omega
         obtain rfl:i=hi+1-lo:=by omega
         obtain⟨nx,hnx⟩:∃nx,nx=pckS ⟨K,B⟩ lo (hi+1-lo):=⟨_,rfl⟩
         rw[<-hnx]
         refine⟨fun hp0=>?_,fun hp0=>?_⟩
         . have hn1:plnL L M lo hi P0 (hi-lo)=none:=by
             have h1:=YkL (YqE hpj (by rw[<-hnx];exact hp0)) (hi-lo-(j+1))
             rwa [show j+1+(hi-lo-(j+1))=hi-lo by omega]at h1
           have h:=h true
           rw[hn1]at h
           exact Yli h ⟨rfl,fun q hq=>absurd hq (Nat.not_lt_zero _)⟩
         have hsu:=YqF hpj (by rw[<-hnx];exact hp0)
         rw[<-hnx]at hsu
         obtain⟨nt,hq⟩:=Yug ⟨K,B⟩ lo _ (by rw[<-hnx];exact hp0)
         rw[<-hnx]at hq
         replace hq:nx=B nt:=hq
         obtain⟨hnn,hntb⟩:=hnw nt (by rw[<-hq];exact hp0)
         rw[<-hq]at hnn
         rw[hnn,YCY]at hsu
         rw[hnn]
         refine⟨by decide,⟨by unfold YW;omega,fun q hq=>?_⟩,by omega,by omega,?_⟩
         . obtain rfl:q=0:=by omega
           exact⟨rfl,trivial,trivial,trivial,trivial,trivial,trivial,trivial,trivial⟩
         rw[Ywj,YqJ]
         obtain⟨s0,hs0⟩:∃m:Nat,m=max lo (nt-12):=⟨_,rfl⟩
         obtain⟨e0,he0⟩:∃m:Nat,m=min hi (nt+12):=⟨_,rfl⟩
         obtain⟨K',hK'⟩:∃K',K'=setB K nt true:=⟨_,rfl⟩
         refine Loop.keep [0,0,0,0,0,0] (Nat×(Nat->Stp)) (fun x=>[(7,.int .i64 x.1)]) (fun x=>[(6,.own false 1 140 (fun k=>[.bool (K' k)])),(7,.own false 7 140 (fun k=>encS (x.2 k)))]) [] (fun x=>s0<=x.1/\x.1<=e0+1/\x.2=lrnP L M lo hi K' B nt x.1) (fun x=>e0+1-x.1) ?_ ?_
         . refine⟨(s0,B),⟨by omega,by omega,?_⟩,?_⟩
           . funext k
             exact(if_neg (by omega)).symm
           dsimp only[YCY,go_sem,reduceIte,YCS]
           simp only[Ya]
           refine⟨⟨by decide,by decide,by decide,by decide,by decide,?_⟩,by decide,Yc _ (Yu T _),Yc _ (Y7 _ _ _),by decide,fun q hq=>?_,fun q hq=>Yc _ ⟨trivial,trivial,trivial,trivial,trivial,trivial,trivial,trivial⟩,fun q hq=>?_,fun q hq=>?_⟩
           . rw[YCW ((nt:Int)-12) (by omega)];omega
           . rw[hK']
             unfold setB
             by_cases hc:q=nt
             . rw[if_pos hc,if_pos hc];exact Yc _ ⟨trivial,trivial⟩
             . rw[if_neg hc,if_neg hc];exact Yc _ ⟨trivial,trivial⟩
           . by_cases hc:q<out.length
             . rw[if_pos hc];exact Yc _ ⟨trivial,trivial,trivial,trivial,trivial,trivial,trivial,trivial⟩
             . rw[if_neg hc,show q-out.length=0 by omega];exact Yc _ ⟨trivial,trivial,trivial,trivial,trivial,trivial,trivial,trivial⟩
           . obtain rfl:q=0:=by omega
             exact Yc _ ⟨trivial,trivial,trivial,trivial,trivial,trivial,trivial,trivial⟩
         rintro⟨n,W⟩ ⟨hn1,hn2,hW⟩
         replace hn1:s0<=n:=hn1
         replace hn2:n<=e0+1:=hn2
         replace hW:W=lrnP L M lo hi K' B nt n:=hW
         have hWn:W n=B n:=by rw[hW];exact if_neg (by omega)
         dsimp only[Ybm,lenT,Ya7,Ya8,Ya6,Yba,Ybb,Ya9,Ybc,v30,rdyC,NotC,micC,stpC,befC,YCY,go_sem,reduceIte,YCS]
         simp only[Yd,YCS,YCU,reduceCtorEq,YCT]
         rw[Ye2,YCW ((nt:Int)+12) (by omega)]
         refine⟨fun hlt=>?_,fun hge=>?_⟩
         . refine⟨L,M,N,⟨fun q _=>Ye _,⟨rfl,hN⟩,by omega,by omega⟩,by decide,by decide,?_⟩
           obtain⟨⟨⟨y1,y2,y3,y4,y5,y6,y7⟩,is⟩,hy⟩:∃y,y=stpF L M nt n:=⟨_,rfl⟩
           rw[<-hy]
           have hTk:Yc7 L M K' B nt n=(is&& !K' n&&(decide ((W n).p=0) || decide (befF ⟨y1,y2,y3,y4,y5,y6,y7⟩ (W n)<0))):=by rw[Yc7,<-hy,hWn]
           dsimp only[encS,Ybm,lenT,Ya7,Ya8,Ya6,Yba,Ybb,Ya9,Ybc,v30,rdyC,NotC,micC,stpC,befC,YCY,go_sem,reduceIte,YCS]
           simp only[Yd,YCS,YCU,reduceCtorEq,YCT]
           rw[show(⟨(W n).kn,(W n).nw,(W n).p,(W n).q,(W n).se,(W n).lo,(W n).hi⟩:Stp)=W n from rfl,<-hTk]
           have hbb:0<=(n:Int)/\(n:Int)<((140:Nat):Int):=by omega
           have hb2:n<140:=by omega
           refine⟨fun _=>hbb,fun _=>hb2,fun _=>hbb,fun _=>hb2,fun _=>hbb,fun _=>hb2,fun c1 c2=>?_,fun ht=>⟨hbb,hb2,(n+1,fun k=>if k=n then⟨y1,y2,y3,y4,y5,y6,y7⟩else W k),⟨by omega,by omega,?_⟩,?_,?_⟩,fun ht=>⟨(n+1,W),⟨by omega,by omega,?_⟩,?_,?_⟩⟩
           . rw[c1,decide_eq_false c2];rfl
           . show(fun k=>if k=n then(⟨y1,y2,y3,y4,y5,y6,y7⟩:Stp)else W k)=_
             rw[hW,show(⟨y1,y2,y3,y4,y5,y6,y7⟩:Stp)=(stpF L M nt n).1 by rw[<-hy]]
             exact Yt6 (by omega) ht
           . show e0+1-(n+1)<e0+1-n;omega
           . dsimp only[go_sem,reduceIte,YCS]
             simp only[Ya]
             refine⟨⟨by decide,by decide,by decide,by decide,by decide,?_⟩,by decide,Yc _ (Yu T _),Yc _ (Y7 _ _ _),?_⟩
             . rw[YCW ((n:Int)+1) (by omega)];rfl
             . first
               |exact⟨by decide,fun q hq=>lb7 ⟨y1,y2,y3,y4,y5,y6,y7⟩ W⟩
               |exact⟨by decide,fun q hq=>lb7 ⟨y1,y2,y3,y4,y5,y6,y7⟩ W,fun q hq=>lb8 out ⟨nx.kn,nt,nx.p,nx.q,nx.se,nx.lo,nx.hi⟩ hq,fun q hq=>lb1 ⟨nx.kn,nt,nx.p,nx.q,nx.se,nx.lo,nx.hi⟩ hq⟩
           . show W=_
             rw[hW]
             exact Yt5 (by simpa using ht)
           . show e0+1-(n+1)<e0+1-n;omega
           . dsimp only[go_sem,reduceIte,YCS]
             simp only[Ya]
             refine⟨⟨by decide,by decide,by decide,by decide,by decide,?_⟩,by decide,Yc _ (Yu T _),Yc _ (Y7 _ _ _),?_⟩
             . rw[YCW ((n:Int)+1) (by omega)];rfl
             . first
               |exact(by decide)
               |exact⟨by decide,fun q hq=>lb8 out ⟨nx.kn,nt,nx.p,nx.q,nx.se,nx.lo,nx.hi⟩ hq,fun q hq=>lb1 ⟨nx.kn,nt,nx.p,nx.q,nx.se,nx.lo,nx.hi⟩ hq⟩
         have hWe:W=lrnB L M lo hi K' B nt:=by
           rw[hW]
           exact Yt4 (by omega)
         refine⟨(j+1,⟨K',W⟩,out++[nx],false),⟨?_,?_,fun hh=>?_,?_,?_⟩,?_,?_⟩
         . show j+1<=hi-lo;omega
         . show(out++[nx]).length=j+1;rw[YDo,hlen];rfl
         . exact absurd (show false=true from hh) (by decide)
         . show plnL L M lo hi P0 (j+1)=some (⟨K',W⟩,out++[nx])
           rw[hsu,hWe,hK'];rfl
         . show∀q,(W q).p≠0->(W q).nw=(q:Int)/\lo<=q/\q<=hi
           rw[hWe]
           exact Yqi hnw
         . show hi-lo-(j+1)<hi-lo-j;omega
         . dsimp only[YDo,YDt,List.length_nil,go_sem,reduceIte,YCS]
           simp only[Ya]
           refine⟨⟨by decide,by decide,by decide,by decide,by decide,⟨by simp,by decide⟩,by decide,?_⟩,Yc _ (Yu T _),Yc _ (Y7 _ _ _),by decide,fun q hq=>Yc _ ⟨trivial,trivial,trivial,trivial,trivial,trivial,trivial,trivial⟩,by simp,by simp,fun q hq=>?_⟩
           . rw[YCW ((j:Int)+1) (by omega)];rfl
           . show leL _ _ _ (encS ((out++[nx]).getD q default))
             by_cases hc:q<out.length
             . rw[if_pos hc,Yal hc];exact Yc _ ⟨trivial,trivial,trivial,trivial,trivial,trivial,trivial,trivial⟩
             . rw[if_neg hc,Yam (by omega),show q-out.length=0 by omega,<-hnn];exact Yc _ ⟨trivial,trivial,trivial,trivial,trivial,trivial,trivial,trivial⟩
       . obtain rfl:j=hi-lo:=by omega
         have h:=h z
         rw[hpj]at h
         have h:k (.tup [.vs true z out.length 7 (fun k=>encS (out.getD k default)),.int .i64 0]) []:=h
         refine YE h ?_ (fun _=>by simp [Ym,Yp,encS])
         dsimp only[expo,go_sem,reduceIte,YCS]
         simp only[Ya]
         exact fun q hq=>Ye _
 . exact h.1.elim
def okI(m:Int)(x:Iv):Prop:= -m<=x.1/\x.1<=x.2/\x.2<=m
theorem YiZ{m:Int}(h:0<=m):okI m (0,0):=⟨by show -m<=0;omega,Int.le_refl _,h⟩
theorem YlQ{x:Iv}{n d:Int}(h:x.1*n<=x.2*n):(sclF x n d).1=(0,0)\/(sclF x n d).1=(x.1*n/d, -(-(x.2*n)/d)):=by
 have e1:lowI (x.1*n) [x.2*n]=x.1*n:=by
   show(if x.2*n<x.1*n then x.2*n else x.1*n)=_
   rw[if_neg (by omega)]
 have e2:Ydy (x.1*n) [x.2*n]=x.2*n:=by
   show(if x.1*n<x.2*n then x.2*n else x.1*n)=_
   split <;> omega
 unfold sclF
 split
 . exact .inl rfl
 . split
   . exact .inl rfl
   . rw[YlT,e1,e2,rndF,rndF,rndB,rndB,YwT]
     split <;> split
     . exact .inr rfl
     . exact .inl rfl
     . exact .inl rfl
     . exact .inl rfl
theorem Yus{x:Iv}{m n:Int}(h:okI m x)(h0:0<=m)(hn:0<=n)(hn2:n<=16):okI (16*m) (tmsF x n):=by
 obtain⟨h1,h2,h3⟩:=h
 have a1:x.1*n<=x.2*n:=Int.mul_le_mul_of_nonneg_right h2 hn
 have a2:x.2*n<=m*n:=Int.mul_le_mul_of_nonneg_right h3 hn
 have a3: -m*n<=x.1*n:=Int.mul_le_mul_of_nonneg_right h1 hn
 have a4:m*n<=m*16:=Int.mul_le_mul_of_nonneg_left hn2 h0
 rw[Int.neg_mul]at a3
 unfold tmsF
 rcases YlQ (d:=1) a1 with e|e
 . rw[e];exact YiZ (by omega)
 . rw[e]
   refine⟨?_,?_,?_⟩ <;> simp only[Int.ediv_one] <;> omega
theorem Yz8{x:Iv}{m:Int}(h:okI (1000*m) x)(h0:0<=m):okI m (milF x):=by
 obtain⟨h1,h2,h3⟩:=h
 unfold milF
 rcases YlQ (x:=x) (n:=1) (d:=1000) (by omega)with e|e
 . rw[e];exact YiZ h0
 . rw[e]
   refine⟨?_,?_,?_⟩ <;> simp only[Int.mul_one] <;> omega
theorem Yv1{x:Iv}(h:0<=x.1)(h2:x.1<=x.2):0<=(milF x).2:=by
 unfold milF
 rcases YlQ (x:=x) (n:=1) (d:=1000) (by omega)with e|e
 . rw[e];exact Int.le_refl _
 . rw[e];simp only[Int.mul_one];omega
theorem Yw1{a b:Iv}{m:Int}(ha:okI m a)(hb:okI m b)(h0:0<=m):okI (2*m) (subF a b).1:=by
 obtain⟨h1,h2,h3⟩:=ha
 obtain⟨h4,h5,h6⟩:=hb
 unfold subF
 split
 . exact YiZ (by omega)
 . unfold addF
   split
   . exact YiZ (by omega)
   . unfold fitF
     split
     . refine⟨?_,?_,?_⟩ <;> simp only <;> omega
     . exact YiZ (by omega)
theorem YBi{a b:Iv}(ha:okI 16000000000016 a)(hb:okI 16000000000016 b):0<=(ratF a b).2/\(ratF a b).2<=1000000000000:=by
 obtain⟨h1,h2,h3⟩:=Yw1 hb ha (by decide)
 unfold ratF
 obtain⟨s,hs⟩:∃s,s=(subF b a).1:=⟨_,rfl⟩
 rw[<-hs]at h1 h2 h3⊢
 have e1:ngW s.1= -s.1:=by unfold ngW;rw[YCW (0-s.1) (by omega)];omega
 have e2:ngW s.2= -s.2:=by unfold ngW;rw[YCW (0-s.2) (by omega)];omega
 rw[e1,e2]
 refine⟨Yv1 ?_ ?_,(Yz8 (m:=1000000000000) ⟨?_,?_,?_⟩ (by decide)).2.2⟩ <;> simp only <;> omega
theorem YAt(s:Int)(l:List (Int×Int))(den:Int):okI 1000000000001 (pspF s l den):=by
 have h:0<=(Yet s l den).1/\(Yet s l den).1<=1000000000000:=by
   unfold Yet
   split
   . exact⟨Int.le_refl _,by show(0:Int)<=1000000000000;decide⟩
   . split
     . exact⟨Int.le_refl _,by show(0:Int)<=1000000000000;decide⟩
     . unfold Ys6
       split
       . exact⟨Int.le_refl _,by show(0:Int)<=1000000000000;decide⟩
       . have:=YfC (t:=isF (l++[(s,den)]) den) 64 0 1000000000001 (by decide)
         simp only;omega
 unfold pspF
 split
 . refine⟨?_,?_,?_⟩ <;> simp only <;> omega
 . rw[YCW ((Yet s l den).1+1) (by omega)]
   refine⟨?_,?_,?_⟩ <;> simp only <;> omega
theorem Yz7(a t0 t:Int)(T:Tm)(n:Int):okI 1000000000001 (micF a t0 t T n):=by
 unfold micF Yi4
 split
 . exact YiZ (by decide)
 . split
   . exact YiZ (by decide)
   . split
     . exact YiZ (by decide)
     . exact YAt _ _ _
theorem Yz5(a t0 t:Int)(T:Tm)(lo hi n:Nat):okI 1000000000001 (miT a t0 t T lo hi n):=by
 unfold miT
 split
 . exact Yz7 _ _ _ _ _
 . exact YiZ (by decide)
theorem Ynn{L:Nat->Rt}{M:Nat->Iv}(hM:∀n,okI 1000000000001 (M n)){x y:Int}(h:(stpF L M x y).2=true):
   (0<=(stpF L M x y).1.hi/\(stpF L M x y).1.hi<=1000000000000)/\(byF (max x y-min x y)).1≠0/\(stpF L M x y).1.p=(byF (max x y-min x y)).1/\(stpF L M x y).1.q=(byF (max x y-min x y)).2/\(stpF L M x y).1.kn=x/\(stpF L M x y).1.nw=y:=by
 unfold stpF at h⊢
 by_cases hc:(byF (max x y-min x y)).1=0
 . rw[if_pos hc]at h;exact absurd h (by decide)
 . rw[if_neg hc]
   refine⟨?_,hc,rfl,rfl,rfl,rfl⟩
   obtain⟨h1,h2,h3,h4,h5,h6⟩:=Ymr hc
   simp only
   split
   . exact⟨Int.le_refl _,by decide⟩
   . exact YBi (Yus (hM _) (by decide) (by omega) (by omega)) (Yus (hM _) (by decide) (by omega) (by omega))
theorem YwX{L:Nat->Rt}{M:Nat->Iv}{x y:Int}:(stpF L M x y).2=decide ((byF (max x y-min x y)).1≠0):=by
 unfold stpF
 by_cases hc:(byF (max x y-min x y)).1=0
 . rw[if_pos hc];simp [hc]
 . rw[if_neg hc];simp [hc]
theorem YwZ{L:Nat->Rt}{M:Nat->Iv}{x y:Int}:(stpF L M x y).1.hi=(stpF L M y x).1.hi/\(stpF L M x y).1.lo=(stpF L M y x).1.lo/\(stpF L M x y).2=(stpF L M y x).2:=by
 unfold stpF
 rw[Int.max_comm x y,Int.min_comm x y]
 split <;> exact⟨rfl,rfl,rfl⟩
theorem YqW{a t0 t:Int}{T:Tm}{lo hi:Nat}(hr:rdyF a t0 t T=0)(hh:hi<=139){x y:Nat}(hx:lo<=x/\x<=hi)(hy:lo<=y/\y<=hi)(h:(stpF (YaS T) (miT a t0 t T lo hi) x y).2=true):
   rteF a t0 t T (min (x:Int) y) (max (x:Int) y) (byF (max (x:Int) y-min (x:Int) y)).1 (byF (max (x:Int) y-min (x:Int) y)).2=(((stpF (YaS T) (miT a t0 t T lo hi) x y).1.lo,(stpF (YaS T) (miT a t0 t T lo hi) x y).1.hi),0):=by
 have hc:(byF (max (x:Int) y-min (x:Int) y)).1≠0:=by rw[YwX]at h;exact of_decide_eq_true h
 obtain⟨h1,h2,h3,h4,h5,h6⟩:=Ymr hc
 have hb:Yik (min (x:Int) y) (max (x:Int) y) (byF (max (x:Int) y-min (x:Int) y)).1 (byF (max (x:Int) y-min (x:Int) y)).2=true:=by
   simp only[Yik,YC0,decide_eq_true_eq];omega
 obtain⟨l,hl⟩:∃m:Nat,min (x:Int) y=(m:Int):=⟨min x y,by omega⟩
 obtain⟨g,hg⟩:∃m:Nat,max (x:Int) y=(m:Int):=⟨max x y,by omega⟩
 unfold stpF
 rw[if_neg hc]
 simp only
 rw[hl,hg]at hb⊢
 simp only[YCY]
 have el:miT a t0 t T lo hi l=micF a t0 t T l:=if_pos (by omega)
 have eg:miT a t0 t T lo hi g=micF a t0 t T g:=if_pos (by omega)
 rw[el,eg]
 have hT:=(YwF hr).2
 have hp:prtF a t0 t T l g (byF ((g:Int)-l)).1 (byF ((g:Int)-l)).2=⟨tmsF (micF a t0 t T l) (byF ((g:Int)-l)).1,tmsF (micF a t0 t T g) (byF ((g:Int)-l)).2,0⟩:=by
   rw[prtF,if_neg (fun hh=>hh hr),if_neg (by rw[hb];decide)]
 have hs:SenF T l g (byF ((g:Int)-l)).1 (byF ((g:Int)-l)).2=(senF (YaS T) l g (byF ((g:Int)-l)).1 (byF ((g:Int)-l)).2,0):=by
   rw[SenF,if_neg (fun hh=>hh hT),if_neg (by rw[hb];decide)]
 rw[rteF,hp,hs,if_neg (fun hh=>hh rfl)]
 simp only
 split <;> rfl
end Go.Proofs.YtnfkhknfpaamoaaGreatDoor
namespace Go.Proofs.YtnfkhknfpaamoaaGreatDoor
def cnt(p:Nat->Bool):Nat->Nat
 |0=>0
 |n+1=>cnt p n+(if p n=true then 1 else 0)
theorem Ypr{p q:Nat->Bool}:∀{n:Nat},(∀k,k<n->p k=true->q k=true)->cnt p n<=cnt q n
 |0,_=>YC2 _
 |n+1,h=>by
   have h1:=Ypr (n:=n) (p:=p) (q:=q) fun k hk=>h k (by omega)
   unfold cnt
   split
   . rename_i hp;rw[if_pos (h n (by omega) hp)];omega
   . split <;> omega
theorem Ypq{p q:Nat->Bool}{n:Nat}(h:∀k,k<n->p k=q k):cnt p n=cnt q n:=
 Nat.le_antisymm (Ypr fun k hk hp=>by rw[<-h k hk];exact hp) (Ypr fun k hk hp=>by rw[h k hk];exact hp)
theorem Ypp:∀{p:Nat->Bool}{n:Nat},(∀k,k<n->p k=true)->cnt p n=n
 |_,0,_=>rfl
 |p,n+1,h=>by unfold cnt;rw[if_pos (h n (by omega)),Ypp fun k hk=>h k (by omega)]
theorem Yed{p q:Nat->Bool}{c:Nat}:∀{n:Nat},c<n->p c=true->(∀k,k<n->q k=(p k&& !decide (k=c)))->cnt q n+1=cnt p n
 |0,h,_,_=>absurd h (Nat.not_lt_zero _)
 |n+1,h,hc,hq=>by
   unfold cnt
   rcases YC4 c n with h1|h1
   . have h2:=Yed h1 hc fun k hk=>hq k (by omega)
     rw[hq n (by omega),decide_eq_false (by omega:¬n=c),Bool.not_false,Bool.and_true]
     split <;> omega
   . obtain rfl:c=n:=by omega
     have h2:cnt q c=cnt p c:=Ypq fun k hk=>by
       rw[hq k (by omega),decide_eq_false (by omega:¬k=c),Bool.not_false,Bool.and_true]
     rw[hq c (by omega),decide_eq_true rfl,if_pos hc,h2]
     simp
theorem Yvb{p:Nat->Bool}{c n:Nat}(h:c<n)(hc:p c=true):1<=cnt p n:=by
 have:=Yed (q:=fun k=>p k&& !decide (k=c)) h hc fun _ _=>rfl
 omega
theorem Yvc{p:Nat->Bool}{a b n:Nat}(ha:a<n)(hb:b<n)(pa:p a=true)(pb:p b=true)(hab:a≠b):2<=cnt p n:=by
 have h1:=Yed (q:=fun k=>p k&& !decide (k=a)) ha pa fun _ _=>rfl
 have h2:1<=cnt (fun k=>p k&& !decide (k=a)) n:=Yvb hb (by simp [pb,Ne.symm hab])
 omega
theorem Yio{p:Nat->Bool}{a:Nat}:∀{b:Nat},a<=b->cnt p a<=cnt p b
 |0,h=>by
   obtain rfl:a=0:=by omega
   exact YC2 _
 |b+1,h=>by
   rcases YC4 a (b+1)with h1|h1
   . have:=Yio (p:=p) (show a<=b by omega)
     rw[show cnt p (b+1)=cnt p b+(if p b=true then 1 else 0)from rfl]
     omega
   . obtain rfl:a=b+1:=by omega
     exact YC2 _
theorem Yip{p:Nat->Bool}{a:Nat}:∀{b:Nat},a<=b->cnt p a≠cnt p b->∃j,a<=j/\j<b/\p j=true
 |0,h,hn=>by
   obtain rfl:a=0:=by omega
   exact absurd rfl hn
 |b+1,h,hn=>by
   rcases YC4 a (b+1)with h1|h1
   . cases hp:p b with
     |true=>exact⟨b,by omega,by omega,hp⟩
     |false=>
       obtain⟨j,j1,j2,j3⟩:=Yip (p:=p) (a:=a) (b:=b) (by omega) (by rw[cnt,hp]at hn;simpa using hn)
       exact⟨j,j1,by omega,j3⟩
   . obtain rfl:a=b+1:=by omega
     exact absurd rfl hn
theorem Ymu{p:Nat->Bool}:∀{n m:Nat},m<=cnt p n->∃i,i<=n/\cnt p i=m
 |0,m,h=>⟨0,YC2 _,by unfold cnt at h⊢;omega⟩
 |n+1,m,h=>by
   rcases YC4 (cnt p n) m with h1|h1
   . refine⟨n+1,YC2 _,?_⟩
     have:cnt p (n+1)<=cnt p n+1:=by rw[cnt];split <;> omega
     omega
   . obtain⟨i,i1,i2⟩:=Ymu h1
     exact⟨i,by omega,i2⟩
def YaV(g:Nat->Nat)(a b:Nat):Nat->Nat:=fun k=>if g k=g a then g b else g k
def labs(g:Nat->Nat)(l:List (Nat×Nat)):Nat->Nat:=l.foldl (fun g e=>YaV g e.1 e.2) g
def Idem(n:Nat)(g:Nat->Nat):Prop:=∀k,k<n->g k<n/\g (g k)=g k
def fixB(g:Nat->Nat)(k:Nat):Bool:=decide (g k=k)
theorem YeO{n:Nat}{g:Nat->Nat}{a b:Nat}(h:Idem n g)(hb:b<n):Idem n (YaV g a b):=by
 intro k hk
 obtain⟨k1,k2⟩:=h k hk
 obtain⟨b1,b2⟩:=h b hb
 unfold YaV
 split
 . rename_i e
   refine⟨b1,?_⟩
   rw[b2]
   split <;> rfl
 . rename_i e
   refine⟨k1,?_⟩
   rw[k2,if_neg e]
theorem YkS{n:Nat}{g:Nat->Nat}{a b:Nat}(h:Idem n g)(ha:a<n)(hb:b<n)(hne:g a≠g b):cnt (fixB (YaV g a b)) n+1=cnt (fixB g) n:=by
 refine Yed (c:=g a) (h a ha).1 (by simp [fixB,(h a ha).2]) fun k hk=>?_
 unfold fixB YaV
 by_cases e:g k=g a
 . rw[if_pos e]
   have h1:¬g b=k:=fun hh=>by
     have:=(h b hb).2
     rw[hh,e]at this
     exact hne (by rw[this,hh])
   rw[decide_eq_false h1]
   by_cases e2:k=g a
   . rw[decide_eq_true e2];simp
   . rw[decide_eq_false (show¬g k=k by rw[e];exact fun hh=>e2 hh.symm)];rfl
 . rw[if_neg e]
   have h2:¬k=g a:=fun hh=>e (by rw[hh];exact(h a ha).2)
   rw[decide_eq_false h2];simp
theorem YnW{g:Nat->Nat}{a b:Nat}(he:g a=g b):YaV g a b=g:=by
 funext k;unfold YaV;split
 . rename_i h;rw[h,he]
 . rfl
theorem YkT{n:Nat}{g:Nat->Nat}{a b:Nat}(h:Idem n g)(ha:a<n)(hb:b<n):cnt (fixB g) n<=cnt (fixB (YaV g a b)) n+1:=by
 by_cases e:g a=g b
 . rw[YnW e];omega
 . have:=YkS h ha hb e;omega
theorem YnV{g:Nat->Nat}{a b x y:Nat}(h:g x=g y):YaV g a b x=YaV g a b y:=by unfold YaV;rw[h]
theorem Yte{g:Nat->Nat}{a b:Nat}:YaV g a b a=YaV g a b b:=by
 unfold YaV;rw[if_pos rfl];split <;> rfl
theorem Ykr{n:Nat}:∀{l:List (Nat×Nat)}{g:Nat->Nat},Idem n g->(∀e,e∈l->e.1<n/\e.2<n)->Idem n (labs g l)
 | [],_,h,_=>h
 |e::l,g,h,hl=>Ykr (l:=l) (YeO h (hl e (by simp)).2) fun x hx=>hl x (by simp [hx])
theorem Yks{x y:Nat}:∀{l:List (Nat×Nat)}{g:Nat->Nat},g x=g y->labs g l x=labs g l y
 | [],_,h=>h
 |e::l,g,h=>Yks (l:=l) (YnV h)
theorem Ykq:∀{l:List (Nat×Nat)}{g:Nat->Nat}{e:Nat×Nat},e∈l->labs g l e.1=labs g l e.2
 |e::l,g,e',h=>by
   rcases YDc.1 h with rfl|h
   . exact Yks (l:=l) Yte
   . exact Ykq (l:=l) h
theorem YmS{n:Nat}:∀{l:List (Nat×Nat)}{g:Nat->Nat},Idem n g->(∀e,e∈l->e.1<n/\e.2<n)->cnt (fixB g) n<=cnt (fixB (labs g l)) n+l.length
 | [],_,_,_=>YC2 _
 |e::l,g,h,hl=>by
   have h1:=YkT h (hl e (by simp)).1 (hl e (by simp)).2
   have h2:=YmS (l:=l) (YeO (a:=e.1) h (hl e (by simp)).2) fun x hx=>hl x (by simp [hx])
   simp only[YDt]
   show cnt (fixB g) n<=cnt (fixB (labs (YaV g e.1 e.2) l)) n+(l.length+1)
   omega
theorem YlD(n:Nat):Idem n (fun k=>k):=fun k hk=>⟨hk,rfl⟩
theorem YtX(n:Nat):cnt (fixB fun k=>k) n=n:=Ypp fun k _=>by simp [fixB]
def Conn(n:Nat)(l:List (Nat×Nat)):Prop:=∀h:Nat->Nat,(∀e,e∈l->h e.1=h e.2)->∀x y,x<n->y<n->h x=h y
def YgT(g:Nat->Nat):List (Nat×Nat)->Prop
 | []=>True
 |e::l=>g e.1≠g e.2/\YgT (YaV g e.1 e.2) l
theorem Ykn{n:Nat}:∀{l:List (Nat×Nat)}{g:Nat->Nat},Idem n g->(∀e,e∈l->e.1<n/\e.2<n)->YgT g l->cnt (fixB (labs g l)) n+l.length=cnt (fixB g) n
 | [],_,_,_,_=>rfl
 |e::l,g,h,hl,hj=>by
   have h1:=YkS h (hl e (by simp)).1 (hl e (by simp)).2 hj.1
   have h2:=Ykn (l:=l) (YeO (a:=e.1) h (hl e (by simp)).2) (fun x hx=>hl x (by simp [hx])) hj.2
   simp only[YDt]
   show cnt (fixB (labs (YaV g e.1 e.2) l)) n+(l.length+1)=cnt (fixB g) n
   omega
theorem YiO{h:Nat->Nat}:∀{l:List (Nat×Nat)}{g:Nat->Nat},(∀k,h (g k)=h k)->(∀e,e∈l->h e.1=h e.2)->∀k,h (labs g l k)=h k
 | [],_,hg,_=>hg
 |e::l,g,hg,hl=>YiO (l:=l) (g:=YaV g e.1 e.2) (fun k=>by
     unfold YaV
     split
     . rename_i he
       rw[hg e.2,<-hl e (by simp),<-hg e.1,<-he,hg k]
     . exact hg k) fun x hx=>hl x (by simp [hx])
theorem Yve{n:Nat}{l:List (Nat×Nat)}(hl:∀e,e∈l->e.1<n/\e.2<n)(hj:YgT (fun k=>k) l)(hn:l.length+1=n):Conn n l:=by
 intro h hh x y hx hy
 have h1:=Ykn (YlD n) hl hj
 rw[YtX]at h1
 have hi:=Ykr (YlD n) hl
 have e1:=YiO (h:=h) (g:=fun k=>k) (fun _=>rfl) hh x
 have e2:=YiO (h:=h) (g:=fun k=>k) (fun _=>rfl) hh y
 rw[<-e1,<-e2]
 by_cases hne:labs (fun k=>k) l x=labs (fun k=>k) l y
 . rw[hne]
 . have:=Yvc (p:=fixB (labs (fun k=>k) l)) (hi x hx).1 (hi y hy).1 (by simp [fixB,(hi x hx).2]) (by simp [fixB,(hi y hy).2]) hne
   omega
theorem Ylx{n m:Nat}{l:List (Nat×Nat)}(hc:Conn n l)(lab:Nat->Nat)(hl:∀e,e∈l->lab e.1<=m/\lab e.2<=m)(hs:∀j,j<=m->∃x,x<n/\lab x=j):
   m<=(l.filter fun e=>!decide (lab e.1=lab e.2)).length:=by
 let E:=(l.filter fun e=>!decide (lab e.1=lab e.2)).map fun e=>(lab e.1,lab e.2)
 have hE:∀e,e∈E->e.1<m+1/\e.2<m+1:=by
   intro e he
   obtain⟨x,hx,rfl⟩:=YDv.1 he
   have:=hl x (List.mem_filter.1 hx).1
   exact⟨Nat.lt_succ_of_le this.1,Nat.lt_succ_of_le this.2⟩
 have h1:=YmS (YlD (m+1)) hE
 rw[YtX]at h1
 have h2:=hc (fun x=>labs (fun k=>k) E (lab x)) fun e he=>by
   by_cases h:lab e.1=lab e.2
   . show labs _ E (lab e.1)=labs _ E (lab e.2)
     rw[h]
   . exact Ykq (l:=E) (e:=(lab e.1,lab e.2)) (YDv.2 ⟨e,List.mem_filter.2 ⟨he,by simp [h]⟩,rfl⟩)
 have h3:cnt (fixB (labs (fun k=>k) E)) (m+1)<=1:=by
   rcases YC4 1 (cnt (fixB (labs (fun k=>k) E)) (m+1))with h|h
   . exfalso
     --two fixed points
     have key:∀(N:Nat),2<=cnt (fixB (labs (fun k=>k) E)) N->∃a b,a<N/\b<N/\a≠b/\labs (fun k=>k) E a=a/\labs (fun k=>k) E b=b:=by
       intro N
       induction N with
       |zero=>intro h;simp [cnt]at h
       |succ N ih=>
         intro h
         by_cases hf:labs (fun k=>k) E N=N
         . rcases YC4 1 (cnt (fixB (labs (fun k=>k) E)) N)with h'|h'
           . obtain⟨a,b,q1,q2,q3⟩:=ih h'
             exact⟨a,b,by omega,by omega,q3⟩
           . rw[cnt]at h
             have h5:1<=cnt (fixB (labs (fun k=>k) E)) N:=by
               split at h <;> omega
             have:∀(M:Nat),1<=cnt (fixB (labs (fun k=>k) E)) M->∃a,a<M/\labs (fun k=>k) E a=a:=by
               intro M
               induction M with
               |zero=>intro h;simp [cnt]at h
               |succ M ih2=>
                 intro h
                 by_cases hf2:labs (fun k=>k) E M=M
                 . exact⟨M,by omega,hf2⟩
                 . rw[cnt,if_neg (by simp [fixB,hf2])]at h
                   obtain⟨a,a1,a2⟩:=ih2 h
                   exact⟨a,by omega,a2⟩
             obtain⟨a,a1,a2⟩:=this N h5
             exact⟨a,N,by omega,by omega,by omega,a2,hf⟩
         . rw[cnt,if_neg (by simp [fixB,hf])]at h
           obtain⟨a,b,q1,q2,q3⟩:=ih h
           exact⟨a,b,by omega,by omega,q3⟩
     obtain⟨a,b,a1,b1,hab,fa,fb⟩:=key (m+1) h
     obtain⟨x,x1,rfl⟩:=hs a (by omega)
     obtain⟨y,y1,rfl⟩:=hs b (by omega)
     have:labs (fun k=>k) E (lab x)=labs (fun k=>k) E (lab y):=h2 x y x1 y1
     rw[fa,fb]at this
     exact hab this
   . exact h
 have h4:E.length=(l.filter fun e=>!decide (lab e.1=lab e.2)).length:=List.length_map _
 omega
def YaD(c:Nat):List Nat->Nat
 | []=>0
 |x::l=>(if c<x then 1 else 0)+YaD c l
def sumN:List Nat->Nat
 | []=>0
 |x::l=>x+sumN l
def maxN:List Nat->Nat
 | []=>0
 |x::l=>Nat.max x (maxN l)
def sumT(l:List Nat):Nat->Nat
 |0=>0
 |M+1=>sumT l M+YaD M l
theorem Yk7{x:Nat}{l:List Nat}:∀M,sumT (x::l) M=Nat.min x M+sumT l M
 |0=>by simp [sumT]
 |M+1=>by
   rw[sumT,sumT,Yk7 M,YaD]
   have:Nat.min x (M+1)=Nat.min x M+(if M<x then 1 else 0):=by
     show min x (M+1)=min x M+_
     split <;> omega
   omega
theorem Ynr:∀M,sumT [] M=0
 |0=>rfl
 |M+1=>by rw[sumT,Ynr M];rfl
theorem Yqn{l:List Nat}{x:Nat}:x∈l->x<=maxN l:=by
 induction l with
 |nil=>intro h;cases h
 |cons y l ih=>
   intro h
   show x<=max y (maxN l)
   rcases YDc.1 h with rfl|h
   . omega
   . have:=ih h;omega
theorem Yw2{M:Nat}:∀{l:List Nat},(∀x,x∈l->x<=M)->sumT l M=sumN l
 | [],_=>Ynr M
 |x::l,h=>by
   rw[Yk7,sumN,Yw2 fun y hy=>h y (by simp [hy])]
   have:=h x (by simp)
   show min x M+_=_
   omega
theorem Yrc{a b:List Nat}(h:∀c,YaD c a<=YaD c b):∀M,sumT a M<=sumT b M
 |0=>YC2 _
 |M+1=>by have:=Yrc h M;have:=h M;rw[sumT,sumT];omega
theorem YjK:∀{l:List Nat}{c:Nat},maxN l<=c->YaD c l=0
 | [],_,_=>rfl
 |x::l,c,h=>by
   have h:max x (maxN l)<=c:=h
   rw[YaD,YjK (l:=l) (by omega),if_neg (by omega)]
theorem Ykx:∀{l:List Nat}{c:Nat},YaD c l=0->maxN l<=c
 | [],_,_=>YDy _
 |x::l,c,h=>by
   rw[YaD]at h
   have h1:=Ykx (l:=l) (c:=c) (by omega)
   show max x (maxN l)<=c
   split at h <;> omega
theorem Yn6{a b:List Nat}(h:∀c,YaD c a<=YaD c b):sumN a<=sumN b/\maxN a<=maxN b:=by
 constructor
 . obtain⟨M,h1,h2⟩:∃M,(∀x,x∈a->x<=M)/\∀x,x∈b->x<=M:=⟨max (maxN a) (maxN b),fun x hx=>by have:=Yqn hx;omega,fun x hx=>by have:=Yqn hx;omega⟩
   rw[<-Yw2 h1,<-Yw2 h2]
   exact Yrc h M
 . refine Ykx ?_
   have:=h (maxN b)
   rw[YjK (YC2 _)]at this
   omega
theorem YjJ{α:Type}{c:Nat}{w:α->Nat}{q:α->Bool}:∀{l:List α},(∀x,x∈l->q x=true->c<w x)->(l.filter q).length<=YaD c (l.map w)
 | [],_=>YC2 _
 |x::l,h=>by
   have ih:=YjJ (l:=l) fun y hy=>h y (by simp [hy])
   rw[YC6,YaD,List.filter_cons]
   split
   . rename_i hq
     rw[if_pos (h x (by simp) hq),YDt];omega
   . omega
theorem YjI{c:Nat}{w:Nat->Nat}:∀m,YaD c ((YDk m).map w)=cnt (fun j=>decide (c<w j)) m
 |0=>rfl
 |m+1=>by
   have happ:∀(a:List Nat)(x:Nat),YaD c (a++[x])=YaD c a+if c<x then 1 else 0:=by
     intro a x
     induction a with
     |nil=>simp [YaD]
     |cons y a ih=>simp only[List.cons_append,YaD,ih];omega
   rw[List.range_succ,List.map_append,YC6,List.map_nil,happ,YjI m,cnt]
   by_cases h:c<w m
   . rw[if_pos h,if_pos (decide_eq_true h)]
   . rw[if_neg h,if_neg (by rw[decide_eq_false h];decide)]
theorem YnM{n:Nat}{pos v w:Nat->Nat}{al:Nat->Nat->Prop}{W:Nat×Nat->Nat}{o:List (Nat×Nat)}
   (hp:∀x,x<n+1->pos x<=n)(hv:∀i,i<=n->v i<n+1/\pos (v i)=i)
   (hstep:∀i x y,i<n->x<n+1->y<n+1->pos x<=i->i<pos y->(al x y->w i<=W (x,y))/\(al y x->w i<=W (y,x)))
   (ho:∀e,e∈o->e.1<n+1/\e.2<n+1/\al e.1 e.2)(hj:YgT (fun k=>k) o)(hn:o.length=n):
   sumN ((YDk n).map w)<=sumN (o.map W)/\maxN ((YDk n).map w)<=maxN (o.map W):=by
 have hc:Conn (n+1) o:=Yve (fun e he=>⟨(ho e he).1,(ho e he).2.1⟩) hj (by omega)
 refine Yn6 fun c=>?_
 rw[YjI]
 let p:Nat->Bool:=fun j=>decide (c<w j)
 refine YDp (Ylx (m:=cnt p n) hc (fun x=>cnt p (pos x)) (fun e he=>⟨Yio (hp _ (ho e he).1),Yio (hp _ (ho e he).2.1)⟩) fun j hj=>?_) (YjJ fun e he hq=>?_)
 . obtain⟨i,i1,i2⟩:=Ymu hj
   exact⟨v i,(hv i i1).1,by rw[(hv i i1).2,i2]⟩
 . obtain⟨e1,e2,e3⟩:=ho e he
   have hq:cnt p (pos e.1)≠cnt p (pos e.2):=by simpa using hq
   rcases Nat.le_total (pos e.1) (pos e.2)with h|h
   . obtain⟨j,j1,j2,j3⟩:=Yip h hq
     have hj:c<w j:=of_decide_eq_true j3
     have:=(hstep j e.1 e.2 (by have:=hp _ e2;omega) e1 e2 j1 j2).1 e3
     exact Nat.lt_of_lt_of_le hj this
   . obtain⟨j,j1,j2,j3⟩:=Yip h (Ne.symm hq)
     have hj:c<w j:=of_decide_eq_true j3
     have:=(hstep j e.2 e.1 (by have:=hp _ e1;omega) e2 e1 j1 j2).2 e3
     exact Nat.lt_of_lt_of_le hj this
end Go.Proofs.YtnfkhknfpaamoaaGreatDoor
namespace Go.Proofs.YtnfkhknfpaamoaaGreatDoor
open Go Go.Vx
set_option maxRecDepth 100000
theorem YtL{a b:Stp}(h:befF a b<0):a.hi<=b.hi:=by
 rcases Int.lt_or_le b.hi a.hi with h1|h1
 . have e:befF a b=1:=by
     unfold befF orF cmpI
     rw[if_neg (by omega:¬a.hi<b.hi),if_pos h1];rfl
   omega
 . exact h1
theorem YtK{a b:Stp}(h:¬befF a b<0):b.hi<=a.hi:=by
 rcases Int.lt_or_le a.hi b.hi with h1|h1
 . have e:befF a b= -1:=by
     unfold befF orF cmpI
     rw[if_pos h1];rfl
   omega
 . exact h1
theorem YwY{L:Nat->Rt}{M:Nat->Iv}{x y:Int}(h:(stpF L M x y).2=true):0<(stpF L M x y).1.p/\(max x y-min x y<=12):=by
 have hc:(byF (max x y-min x y)).1≠0:=by rw[YwX]at h;exact of_decide_eq_true h
 obtain⟨h1,h2,h3,h4,h5,h6⟩:=Ymr hc
 refine⟨?_,h2⟩
 unfold stpF
 rw[if_neg hc]
 exact h3
theorem YqD(s:Pln)(lo:Nat):∀i,((pckS s lo i).p=0->∀y,lo<=y->y<lo+i->s.K y=false->¬0<(s.B y).p)/\
   ((pckS s lo i).p≠0->∃q,lo<=q/\q<lo+i/\s.K q=false/\0<(s.B q).p/\pckS s lo i=s.B q/\∀y,lo<=y->y<lo+i->s.K y=false->0<(s.B y).p->(pckS s lo i).hi<=(s.B y).hi)
 |0=>⟨fun _ y h1 h2=>by omega,fun h=>absurd rfl h⟩
 |i+1=>by
   obtain⟨ih1,ih2⟩:=YqD s lo i
   rw[pckS]
   cases hc:(!s.K (lo+i)&&decide (0<(s.B (lo+i)).p)&&(decide ((pckS s lo i).p=0) || decide (befF (s.B (lo+i)) (pckS s lo i)<0)))
   . rw[if_neg (by decide)]
     have hno:s.K (lo+i)=false->0<(s.B (lo+i)).p->(pckS s lo i).p≠0/\(pckS s lo i).hi<=(s.B (lo+i)).hi:=fun hk hp=>by
       rw[hk,decide_eq_true hp]at hc
       simp only[Bool.not_false,Bool.true_and,YDb,decide_eq_false_iff_not]at hc
       exact⟨hc.1,YtK hc.2⟩
     refine⟨fun hz y h1 h2 hk hp=>?_,fun hz=>?_⟩
     . rcases YC4 y (lo+i)with h3|h3
       . exact ih1 hz y h1 h3 hk hp
       . obtain rfl:y=lo+i:=by omega
         exact(hno hk hp).1 hz
     . obtain⟨q,q1,q2,q3,q4,q5,q6⟩:=ih2 hz
       refine⟨q,q1,by omega,q3,q4,q5,fun y h1 h2 hk hp=>?_⟩
       rcases YC4 y (lo+i)with h3|h3
       . exact q6 y h1 h3 hk hp
       . obtain rfl:y=lo+i:=by omega
         exact(hno hk hp).2
   . rw[if_pos rfl]
     rw[YC0,YC0,YDm,decide_eq_true_eq,decide_eq_true_eq,decide_eq_true_eq,YDe]at hc
     obtain⟨⟨c1,c2⟩,c3⟩:=hc
     refine⟨fun hz=>by omega,fun _=>⟨lo+i,by omega,by omega,c1,c2,rfl,fun y h1 h2 hk hp=>?_⟩⟩
     rcases YC4 y (lo+i)with h3|h3
     . rcases c3 with c3|c3
       . exact absurd hp (ih1 c3 y h1 h3 hk)
       . by_cases hz:(pckS s lo i).p=0
         . exact absurd hp (ih1 hz y h1 h3 hk)
         . obtain⟨q,q1,q2,q3,q4,q5,q6⟩:=ih2 hz
           exact Int.le_trans (YtL c3) (q6 y h1 h3 hk hp)
     . obtain rfl:y=lo+i:=by omega
       exact Int.le_refl _
section
variable {L:Nat->Rt} {M:Nat->Iv} {lo hi:Nat}
theorem Yz3{K:Nat->Bool}{B:Nat->Stp}{z y:Nat}(h1:lo<=y)(h2:y<=hi)(h:Yc7 L M K B z y=true):lrnB L M lo hi K B z y=(stpF L M z y).1/\(stpF L M z y).2=true:=by
 have h3:(stpF L M z y).2=true:=by
   unfold Yc7 at h;rw[YC0,YC0]at h;exact h.1.1
 have h4:=(YwY h3).2
 exact⟨if_pos ⟨h1,h2,by omega,by omega,h⟩,h3⟩
theorem lrn_f{K:Nat->Bool}{B:Nat->Stp}{z y:Nat}(h:Yc7 L M K B z y=false):lrnB L M lo hi K B z y=B y:=
 if_neg fun hh=>by rw[h]at hh;exact absurd hh.2.2.2.2 (by decide)
def LeP(L:Nat->Rt)(M:Nat->Iv)(lo hi:Nat)(t:Pln):Prop:=∀y x,lo<=y->y<=hi->t.K y=false->t.K x=true->(stpF L M x y).2=true->0<(t.B y).p/\(t.B y).hi<=(stpF L M x y).1.hi
def OfP(L:Nat->Rt)(M:Nat->Iv)(lo hi:Nat)(t:Pln):Prop:=∀y,(t.B y).p≠0->∃x,t.K x=true/\(stpF L M x y).2=true/\t.B y=(stpF L M x y).1/\lo<=y/\y<=hi
theorem Yq1{K:Nat->Bool}{z x:Nat}(h:setB K z true x=true):x=z\/K x=true:=by
 unfold setB at h;split at h
 . exact .inl ‹_›
 . exact .inr h
theorem YBp{K:Nat->Bool}{z x:Nat}(h:setB K z true x=false):x≠z/\K x=false:=by
 unfold setB at h;split at h
 . cases h
 . exact⟨‹_›,h⟩
theorem Yt7{t:Pln}{z:Nat}(hle:LeP L M lo hi t)(hof:OfP L M lo hi t):LeP L M lo hi (lrn L M lo hi t z):=by
 intro y x h1 h2 hy hx hs
 replace hy:setB t.K z true y=false:=hy
 replace hx:setB t.K z true x=true:=hx
 show 0<(lrnB L M lo hi (setB t.K z true) t.B z y).p/\(lrnB L M lo hi (setB t.K z true) t.B z y).hi<=_
 obtain⟨y1,y2⟩:=YBp hy
 cases ht:Yc7 L M (setB t.K z true) t.B z y
 . rw[lrn_f ht]
   rcases Yq1 hx with rfl|hx
   . unfold Yc7 at ht
     rw[hs,hy]at ht
     simp only[Bool.not_false,Bool.true_and,YDb,decide_eq_false_iff_not]at ht
     obtain⟨x',e1,e2,e3,_⟩:=hof y ht.1
     refine⟨?_,YtK ht.2⟩
     rw[e3];exact(YwY e2).1
   . exact hle y x h1 h2 y2 hx hs
 . obtain⟨e,e2⟩:=Yz3 h1 h2 ht
   rw[e]
   refine⟨(YwY e2).1,?_⟩
   rcases Yq1 hx with rfl|hx
   . exact Int.le_refl _
   . obtain⟨p1,p2⟩:=hle y x h1 h2 y2 hx hs
     unfold Yc7 at ht
     rw[YC0,YDm,decide_eq_true_eq,decide_eq_true_eq]at ht
     rcases ht.2 with h3|h3
     . omega
     . exact Int.le_trans (YtL h3) p2
theorem Yt8{t:Pln}{z:Nat}(hof:OfP L M lo hi t):OfP L M lo hi (lrn L M lo hi t z):=by
 intro y hp
 replace hp:(lrnB L M lo hi (setB t.K z true) t.B z y).p≠0:=hp
 show∃x,setB t.K z true x=true/\_/\lrnB L M lo hi (setB t.K z true) t.B z y=_/\_
 by_cases hc:lo<=y/\y<=hi/\z<=y+12/\y<=z+12/\Yc7 L M (setB t.K z true) t.B z y=true
 . obtain⟨e,e2⟩:=Yz3 hc.1 hc.2.1 hc.2.2.2.2
   exact⟨z,if_pos rfl,e2,e,hc.1,hc.2.1⟩
 . have e:lrnB L M lo hi (setB t.K z true) t.B z y=t.B y:=if_neg hc
   rw[e]at hp⊢
   obtain⟨x,x1,x2,x3,x4,x5⟩:=hof y hp
   refine⟨x,?_,x2,x3,x4,x5⟩
   unfold setB;split
   . rfl
   . exact x1
def rch(F:Nat)(out:List Stp):Nat->Nat
 |0=>F
 |i+1=>(out.getD i default).nw.toNat
theorem Yad{F:Nat}{out:List Stp}{x:Stp}:∀{i:Nat},i<=out.length->rch F (out++[x]) i=rch F out i
 |0,_=>rfl
 |i+1,h=>by show((out++[x]).getD i default).nw.toNat=_;rw[Yal h];rfl
theorem YwD{F:Nat}{out:List Stp}{x:Stp}:rch F (out++[x]) (out.length+1)=x.nw.toNat:=by
 show((out++[x]).getD out.length default).nw.toNat=_
 rw[Yam (YC2 _),Nat.sub_self];rfl
structure Prim (L:Nat->Rt) (M:Nat->Iv) (lo hi F:Nat) (t:Pln) (out:List Stp):Prop where
 kn:∀n,t.K n=true↔∃i,i<=out.length/\rch F out i=n
 le:LeP L M lo hi t
 of:OfP L M lo hi t
 rg:∀i,i<=out.length->lo<=rch F out i/\rch F out i<=hi
 inj:∀i j,i<j->j<=out.length->rch F out i≠rch F out j
 st:∀i,i<out.length->∃a,a<=i/\(stpF L M (rch F out a) (rch F out (i+1))).2=true/\out.getD i default=(stpF L M (rch F out a) (rch F out (i+1))).1
 ls:∀i x y,i<out.length->lo<=y->y<=hi->(∃k,k<=i/\rch F out k=x)->(∀k,k<=i->rch F out k≠y)->(stpF L M x y).2=true->(out.getD i default).hi<=(stpF L M x y).1.hi
 ct:cnt (fun k=>t.K (lo+k)) (hi+1-lo)=out.length+1
theorem YtP:∀n,cnt (fun _=>false) n=0
 |0=>rfl
 |n+1=>by rw[cnt,YtP n];rfl
theorem Yps{K:Nat->Bool}{z:Nat}(h1:lo<=z)(h2:z<=hi)(h:K z=false):cnt (fun k=>setB K z true (lo+k)) (hi+1-lo)=cnt (fun k=>K (lo+k)) (hi+1-lo)+1:=by
 refine(Yed (c:=z-lo) (by omega) ?_ fun k hk=>?_).symm
 . unfold setB;rw[if_pos (by omega)]
 . unfold setB
   by_cases hc:lo+k=z
   . rw[if_pos hc,hc,h,decide_eq_true (by omega)];rfl
   . rw[if_neg hc,decide_eq_false (by omega)];simp
theorem YAq{F:Nat}(h1:lo<=F)(h2:F<=hi):Prim L M lo hi F (lrn L M lo hi ⟨fun _=>false,fun _=>Yfx⟩ F) [] where
 kn n:=by
   show setB (fun _=>false) F true n=true↔_
   unfold setB
   constructor
   . intro h
     split at h
     . exact⟨0,YC2 _,(‹n=F›).symm⟩
     . cases h
   . rintro⟨i,hi,e⟩
     obtain rfl:i=0:=Nat.le_zero.1 hi
     exact if_pos e.symm
 le:=Yt7 (fun y x _ _ _ hx=>by cases hx) (fun y hp=>absurd rfl hp)
 of:=Yt8 (fun y hp=>absurd rfl hp)
 rg i hi:=by
   obtain rfl:i=0:=Nat.le_zero.1 hi
   exact⟨h1,h2⟩
 inj i j h h2:=by have:j=0:=Nat.le_zero.1 h2;omega
 st i hi:=absurd hi (Nat.not_lt_zero _)
 ls i x y hi:=absurd hi (Nat.not_lt_zero _)
 ct:=by
   show cnt (fun k=>setB (fun _=>false) F true (lo+k)) _=_
   rw[Yps h1 h2 rfl,YtP];rfl
theorem YAr{F:Nat}{t:Pln}{out:List Stp}(h:Prim L M lo hi F t out)(hp:(pckS t lo (hi+1-lo)).p≠0):
   Prim L M lo hi F (lrn L M lo hi t (pckS t lo (hi+1-lo)).nw.toNat) (out++[pckS t lo (hi+1-lo)]):=by
 obtain⟨q,q1,q2,q3,q4,q5,q6⟩:=(YqD t lo _).2 hp
 obtain⟨x0,x1,x2,x3,x4,x5⟩:=h.of q (by omega)
 obtain⟨nx,hnx⟩:∃nx,nx=pckS t lo (hi+1-lo):=⟨_,rfl⟩
 rw[<-hnx]at q5 q6⊢
 have hnw:nx.nw=(q:Int):=by rw[q5,x3];exact Yuo L M x2
 have hnq:nx.nw.toNat=q:=by rw[hnw];rfl
 have hlen:(out++[nx]).length=out.length+1:=by simp
 have hnew:rch F (out++[nx]) (out.length+1)=q:=by rw[YwD,hnq]
 have hne:∀i,i<=out.length->rch F out i≠q:=fun i hi he=>by
   have:=(h.kn q).2 ⟨i,hi,he⟩
   rw[q3]at this;cases this
 rw[hnq]
 refine⟨fun n=>?_,Yt7 h.le h.of,Yt8 h.of,fun i hi'=>?_,fun i j hij hj=>?_,fun i hi'=>?_,fun i x y hi' hy1 hy2 hx hy hs=>?_,?_⟩
 . show setB t.K q true n=true↔_
   constructor
   . intro hh
     rcases Yq1 hh with rfl|hh
     . exact⟨out.length+1,by omega,hnew⟩
     . obtain⟨i,i1,i2⟩:=(h.kn n).1 hh
       exact⟨i,by omega,by rw[Yad i1];exact i2⟩
   . rintro⟨i,i1,i2⟩
     unfold setB
     split
     . rfl
     . rcases YC4 out.length i with h3|h3
       . obtain rfl:i=out.length+1:=by omega
         rw[hnew]at i2;exact absurd i2.symm ‹_›
       . rw[Yad h3]at i2
         exact(h.kn n).2 ⟨i,h3,i2⟩
 . rcases YC4 out.length i with h3|h3
   . obtain rfl:i=out.length+1:=by omega
     rw[hnew];omega
   . rw[Yad h3];exact h.rg i h3
 . rcases YC4 out.length j with h3|h3
   . obtain rfl:j=out.length+1:=by omega
     rw[hnew,Yad (by omega)];exact hne i (by omega)
   . rw[Yad h3,Yad (by omega)];exact h.inj i j hij h3
 . rcases YC4 i out.length with h3|h3
   . obtain⟨a,a1,a2,a3⟩:=h.st i h3
     refine⟨a,a1,?_,?_⟩
     . rw[Yad (by omega),Yad (by omega)];exact a2
     . rw[Yal h3,Yad (by omega),Yad (by omega)];exact a3
   . obtain rfl:i=out.length:=by omega
     obtain⟨a,a1,a2⟩:=(h.kn x0).1 x1
     refine⟨a,a1,?_,?_⟩
     . rw[hnew,Yad a1,a2];exact x2
     . rw[hnew,Yad a1,a2,Yam (YC2 _),Nat.sub_self]
       show nx=_
       rw[q5,x3]
 . rcases YC4 i out.length with h3|h3
   . rw[Yal h3]
     refine h.ls i x y h3 hy1 hy2 ?_ (fun k hk=>by rw[<-Yad (x:=nx) (by omega)];exact hy k hk) hs
     obtain⟨k,k1,k2⟩:=hx
     exact⟨k,k1,by rw[<-Yad (x:=nx) (by omega)];exact k2⟩
   . obtain rfl:i=out.length:=by omega
     rw[Yam (YC2 _),Nat.sub_self]
     show nx.hi<=_
     have hky:t.K y=false:=by
       cases hk:t.K y
       . rfl
       . obtain⟨k,k1,k2⟩:=(h.kn y).1 hk
         exact absurd (by rw[Yad k1];exact k2) (hy k k1)
     have hkx:t.K x=true:=by
       obtain⟨k,k1,k2⟩:=hx
       exact(h.kn x).2 ⟨k,k1,by rw[Yad k1]at k2;exact k2⟩
     obtain⟨p1,p2⟩:=h.le y x hy1 hy2 hky hkx hs
     exact Int.le_trans (q6 y hy1 (by omega) hky p1) p2
 . show cnt (fun k=>setB t.K q true (lo+k)) _=_
   rw[Yps q1 (by omega) q3,h.ct,hlen]
theorem Ym4{F:Nat}(h1:lo<=F)(h2:F<=hi):∀{j:Nat}{t:Pln}{out:List Stp},plnL L M lo hi (lrn L M lo hi ⟨fun _=>false,fun _=>Yfx⟩ F) j=some (t,out)->Prim L M lo hi F t out/\out.length=j
 |0,t,out,h=>by
   cases h;exact⟨YAq h1 h2,rfl⟩
 |j+1,t,out,h=>by
   rw[plnL]at h
   cases hj:plnL L M lo hi (lrn L M lo hi ⟨fun _=>false,fun _=>Yfx⟩ F) j with
   |none=>rw[hj]at h;cases h
   |some x=>
     obtain⟨t',out'⟩:=x
     rw[hj]at h
     obtain⟨i1,i2⟩:=Ym4 h1 h2 hj
     replace h:(if(pckS t' lo (hi+1-lo)).p=0 then none else some (lrn L M lo hi t' (pckS t' lo (hi+1-lo)).nw.toNat,out'++[pckS t' lo (hi+1-lo)]))=some (t,out):=h
     by_cases hc:(pckS t' lo (hi+1-lo)).p=0
     . rw[if_pos hc]at h;cases h
     . rw[if_neg hc]at h
       cases h
       exact⟨YAr i1 hc,by simp [i2]⟩
end
def wOf(out:List Stp)(j:Nat):Nat:=(out.getD j default).hi.toNat
def wE(L:Nat->Rt)(M:Nat->Iv)(lo:Nat)(e:Nat×Nat):Nat:=(stpF L M ((lo+e.1:Nat):Int) ((lo+e.2:Nat):Int)).1.hi.toNat
theorem YtO{p:Nat->Bool}:∀n,cnt p n<=n
 |0=>YC2 _
 |n+1=>by have:=YtO (p:=p) n;unfold cnt;split <;> omega
theorem Ymt{p:Nat->Bool}:∀{n:Nat},cnt p n=n->∀k,k<n->p k=true
 |n+1,h,k,hk=>by
   have h1:=YtO (p:=p) n
   unfold cnt at h
   by_cases hp:p n=true
   . rw[if_pos hp]at h
     rcases YC4 k n with h2|h2
     . exact Ymt (by omega) k h2
     . obtain rfl:k=n:=by omega
       exact hp
   . rw[if_neg hp]at h;omega
theorem YnR{L:Nat->Rt}{M:Nat->Iv}{lo hi F n:Nat}{t:Pln}{out:List Stp}(hP:Prim L M lo hi F t out)(hlen:out.length=n)(hn:n=hi-lo)(hlh:lo<=hi)
   {E:List (Nat×Nat)}(hE:∀e,e∈E->e.1<n+1/\e.2<n+1/\(stpF L M ((lo+e.1:Nat):Int) ((lo+e.2:Nat):Int)).2=true)(hj:YgT (fun k=>k) E)(hEn:E.length=n):
   sumN ((YDk n).map (wOf out))<=sumN (E.map (wE L M lo))/\maxN ((YDk n).map (wOf out))<=maxN (E.map (wE L M lo)):=by
 have hall:∀x,x<n+1->∃i,i<=n/\rch F out i=lo+x:=fun x hx=>by
   have h1:=Ymt (p:=fun k=>t.K (lo+k)) (n:=hi+1-lo) (by rw[hP.ct];omega) x (by omega)
   obtain⟨i,i1,i2⟩:=(hP.kn (lo+x)).1 h1
   exact⟨i,by omega,i2⟩
 let pos:Nat->Nat:=fun x=>if h:x<n+1 then Classical.choose (hall x h)else 0
 have hpos:∀x,x<n+1->pos x<=n/\rch F out (pos x)=lo+x:=fun x hx=>by
   have e:pos x=Classical.choose (hall x hx):=dif_pos hx
   rw[e]
   exact Classical.choose_spec (hall x hx)
 have huniq:∀i j,i<=n->j<=n->rch F out i=rch F out j->i=j:=fun i j h1 h2 he=>by
   rcases Nat.lt_trichotomy i j with h|h|h
   . exact absurd he (hP.inj i j h (by omega))
   . exact h
   . exact absurd he.symm (hP.inj j i h (by omega))
 refine YnM (pos:=pos) (v:=fun i=>rch F out i-lo) (w:=wOf out) (al:=fun x y=>(stpF L M ((lo+x:Nat):Int) ((lo+y:Nat):Int)).2=true) (fun x hx=>(hpos x hx).1) (fun i hi'=>?_) (fun i x y hi' hx hy h1 h2=>?_) hE hj hEn
 . obtain⟨r1,r2⟩:=hP.rg i (by omega)
   refine⟨by omega,?_⟩
   obtain⟨p1,p2⟩:=hpos (rch F out i-lo) (by omega)
   exact huniq _ _ p1 hi' (by rw[p2];omega)
 . have key:(stpF L M ((lo+x:Nat):Int) ((lo+y:Nat):Int)).2=true->wOf out i<=(stpF L M ((lo+x:Nat):Int) ((lo+y:Nat):Int)).1.hi.toNat:=fun hs=>by
     have:=hP.ls i (lo+x) (lo+y) (by omega) (by omega) (by omega) ⟨pos x,h1,(hpos x hx).2⟩ (fun k hk he=>by
       have:=huniq k (pos y) (by omega) (hpos y hy).1 (by rw[he,(hpos y hy).2])
       omega) hs
     unfold wOf
     omega
   refine⟨key,fun hs=>?_⟩
   have hsy:=YwZ (L:=L) (M:=M) (x:=((lo+x:Nat):Int)) (y:=((lo+y:Nat):Int))
   have:=key (by rw[hsy.2.2];exact hs)
   rw[hsy.1]at this
   exact this
theorem YsN(g:Nat->Nat)(l:List (Nat×Nat))(e:Nat×Nat):labs g (l++[e])=YaV (labs g l) e.1 e.2:=by
 unfold labs;rw[List.foldl_append];rfl
theorem Ykm:∀{l:List (Nat×Nat)}{g:Nat->Nat}{e:Nat×Nat},YgT g l->labs g l e.1≠labs g l e.2->YgT g (l++[e])
 | [],g,e,_,h=>⟨h,trivial⟩
 |x::l,g,e,hj,h=>⟨hj.1,Ykm hj.2 h⟩
theorem Ynq:∀(l:List Nat)(x:Nat),sumN (l++[x])=sumN l+x
 | [],x=>by simp [sumN]
 |y::l,x=>by simp only[List.cons_append,sumN,Ynq l x];omega
theorem YmW:∀(l:List Nat)(x:Nat),maxN (l++[x])=max (maxN l) x
 | [],x=>by simp [maxN]
 |y::l,x=>by
   show Nat.max y (maxN (l++[x]))=max (Nat.max y (maxN l)) x
   rw[YmW l x]
   exact(Nat.max_assoc y (maxN l) x).symm
theorem Yrb{m:Nat}:∀{l:List Nat},(∀x,x∈l->x<=m)->sumN l<=l.length*m
 | [],_=>by simp [sumN]
 |y::l,h=>by
   have h1:=Yrb (l:=l) fun x hx=>h x (YC9 _ hx)
   have h2:=h y (YC8 ..)
   simp only[sumN,YDt,Nat.succ_mul];omega
theorem YqU{w:Nat->Nat}{i:Nat}(h:∀j,j<i->w j<=1000000000000)(hi:i<=24):sumN ((YDk i).map w)<=24000000000000:=by
 have h1:=Yrb (m:=1000000000000) (l:=(YDk i).map w) fun x hx=>by
   obtain⟨j,hj,rfl⟩:=YDv.1 hx
   exact h j (List.mem_range.1 hj)
 rw[List.length_map,List.length_range]at h1
 omega
theorem Ynd(w:Nat->Nat)(i:Nat):sumN ((YDk (i+1)).map w)=sumN ((YDk i).map w)+w i:=by
 rw[List.range_succ,List.map_append,YC6,List.map_nil,Ynq]
theorem Ync(w:Nat->Nat)(i:Nat):maxN ((YDk (i+1)).map w)=max (maxN ((YDk i).map w)) (w i):=by
 rw[List.range_succ,List.map_append,YC6,List.map_nil,YmW]
set_option maxHeartbeats 8000000
def v4:VF:=⟨428,[.tmp 6],(ZR [u1 3 .box [.tm 0],u1 6 .mov [.cn (.bool false)]] (ZR [Za 34 0 3,Zt 35 3 34,Za 36 3 3,Zt 37 27 36,Zm 38 1,Za 39 30 3,Zf 40 1 39,Za 41 31 3,Zf 42 1 41,u1 43 (.call 10) [.tm 35,.tm 37,.tm 38,.tm 40,.tm 42],Zm 33 43,Ze 44 0 33,Ze 45 1 33,Zm 7 44,Zm 8 45] (.seq (ZR [Zm 46 8,Zq 47 .neq 46 0] (ZC 47 (ZR [u1 48 (.call 9) [],Zm 6 48] .ret) .skip)) (.seq (ZR [Za 49 0 3,Zt 50 3 49,Zc 51 11 50,Zq 52 .neq 51 0,Zm 53 52,Zj 54 53 false 3 3,u2 55 53 false (.load true 27) [.tm 54],u2 56 53 false (.call 12) [.tm 55],u2 57 53 false (.cmp .neq) [.tm 56,.cn (.int .i64 0)],u1 58 .or [.tm 53,.tm 57],Zm 59 58,Zj 60 59 false 30 3,Zh 61 59 false 1 60,u2 62 59 false (.cmp .lss) [.tm 61,.cn (.int .i64 0)],u1 63 .or [.tm 59,.tm 62],Zm 64 63,Zj 65 64 false 30 3,Zh 66 64 false 1 65,Zj 67 64 false 31 3,Zh 68 64 false 1 67,u2 69 64 false (.cmp .geq) [.tm 66,.tm 68],u1 70 .or [.tm 64,.tm 69],Zm 71 70,Zj 72 71 false 31 3,Zh 73 71 false 1 72,u2 74 71 false (.cmp .gtr) [.tm 73,.cn (.int .i64 139)],u1 75 .or [.tm 71,.tm 74],Zm 76 75,Zj 77 76 false 31 3,Zh 78 76 false 1 77,Zj 79 76 false 30 3,Zh 80 76 false 1 79,u2 81 76 false (.ari .sub) [.tm 78,.tm 80],u2 82 76 false (.cmp .geq) [.tm 81,.cn (.int .i64 25)],u1 83 .or [.tm 76,.tm 82],Zm 84 83,Zg 85 84 false 1,Zj 86 84 false 30 3,Zh 87 84 false 1 86,u2 88 84 false (.cmp .lss) [.tm 85,.tm 87],u1 89 .or [.tm 84,.tm 88],Zm 90 89,Zg 91 90 false 1,Zj 92 90 false 31 3,Zh 93 90 false 1 92,u2 94 90 false (.cmp .gtr) [.tm 91,.tm 93],u1 95 .or [.tm 90,.tm 94],Zm 96 95,Zg 97 96 false 7,u2 98 96 false .len [.tm 97],Zj 99 96 false 31 3,Zh 100 96 false 1 99,Zj 101 96 false 30 3,Zh 102 96 false 1 101,u2 103 96 false (.ari .sub) [.tm 100,.tm 102],u2 104 96 false (.cmp .neq) [.tm 98,.tm 103],u1 105 .or [.tm 96,.tm 104]] (ZC 105 (ZR [u1 6 .mov [.cn (.bool false)]] .ret) .skip)) (ZR [Za 106 31 3,Zf 107 1 106,Za 108 30 3,Zf 109 1 108,Zo 110 .sub 107 109,Zp 111 110 1,u1 112 (.make 1 1 [(.bool false)]) [.tm 111,.tm 111],Zm 9 112] (ZR [Zm 113 9,Zm 114 1,Za 115 30 3,Zf 116 1 115,Zo 117 .sub 114 116,Zx 118 1 113 117,u0 (.store 1) [.tm 118,.cn (.bool true)]] (ZR [Zi 10 0,Zi 11 0] (.seq (ZR [Zi 12 0] (.block 0 (.loop (.seq (ZR [Zm 119 12,Zm 120 7,Zl 121 120,Zr 122 .lss 119 121] (ZC 122 .skip (.exit 0))) (.seq (.block 1 (.seq (.draw [] [Zu 125 7,Zu 126 12,ZX 127 7 125 126,Zy 128 0 127,Zv 129 1 128,Zu 130 7,Zu 131 12,ZX 132 7 130 131,Zy 133 1 132,Zv 134 1 133,Zu 13 129,Zu 14 134]) (.seq (ZR [Zm 135 13,Za 136 30 3,Zf 137 1 136,Zr 138 .lss 135 137,Zm 139 138,Zg 140 139 false 13,Zj 141 139 false 31 3,Zh 142 139 false 1 141,u2 143 139 false (.cmp .gtr) [.tm 140,.tm 142],u1 144 .or [.tm 139,.tm 143],Zm 145 144,Zg 146 145 false 14,Zj 147 145 false 30 3,Zh 148 145 false 1 147,u2 149 145 false (.cmp .lss) [.tm 146,.tm 148],u1 150 .or [.tm 145,.tm 149],Zm 151 150,Zg 152 151 false 14,Zj 153 151 false 31 3,Zh 154 151 false 1 153,u2 155 151 false (.cmp .gtr) [.tm 152,.tm 154],u1 156 .or [.tm 151,.tm 155],Zm 157 156,Zg 158 157 false 9,Zg 159 157 false 13,Zj 160 157 false 30 3,Zh 161 157 false 1 160,u2 162 157 false (.ari .sub) [.tm 159,.tm 161],u2 163 157 false (.idxAddr 1) [.tm 158,.tm 162],Zh 164 157 false 1 163,u2 165 157 false .not [.tm 164],u1 166 .or [.tm 157,.tm 165],Zm 167 166,Zg 168 167 false 9,Zg 169 167 false 14,Zj 170 167 false 30 3,Zh 171 167 false 1 170,u2 172 167 false (.ari .sub) [.tm 169,.tm 171],u2 173 167 false (.idxAddr 1) [.tm 168,.tm 172],Zh 174 167 false 1 173,u1 175 .or [.tm 167,.tm 174]] (ZC 175 (ZR [u1 6 .mov [.cn (.bool false)]] .ret) .skip)) (ZR [Zm 176 9,Zm 177 14,Za 178 30 3,Zf 179 1 178,Zo 180 .sub 177 179,Zx 181 1 176 180,u0 (.store 1) [.tm 181,.cn (.bool true)]] (ZR [Zm 183 13,Zm 184 14,u1 185 .max [.tm 183,.tm 184],Zm 186 13,Zm 187 14,u1 188 .min [.tm 186,.tm 187],Zo 189 .sub 185 188,Zc 190 13 189,Zm 182 190,Ze 191 0 182,Ze 192 1 182,Zm 15 191,Zm 16 192] (ZR [Za 194 0 3,Zt 195 3 194,Za 196 3 3,Zt 197 27 196,Zm 198 13,Zm 199 14,u1 200 .min [.tm 198,.tm 199],Zm 201 13,Zm 202 14,u1 203 .max [.tm 201,.tm 202],Zm 204 15,Zm 205 16,u1 206 (.call 14) [.tm 195,.tm 197,.tm 200,.tm 203,.tm 204,.tm 205],Zm 193 206,Ze 207 0 193,Ze 208 1 193,Zn 17,Zs 2 17 207,Zm 18 208] (.seq (.seq (.draw [] [Zu 209 15,w1 210 (.cmp .eql) [.tm 209,.cn (.int .i64 0)],Zu 211 210,⟨Zg 212 211 false 18,[]⟩,⟨u2 213 211 false (.cmp .neq) [.tm 212,.cn (.int .i64 0)],[]⟩,w1 214 .or [.tm 211,.tm 213],Zu 215 214,⟨u2 216 215 false (.load true 2) [.tm 17],[]⟩,⟨Zg 217 215 false 7,[]⟩,⟨Zg 218 215 false 12,[]⟩,⟨u2 219 215 false (.idxAddr 7) [.tm 217,.tm 218],[]⟩,⟨Zj 220 215 false 5 219,[]⟩,⟨u2 221 215 false (.load true 2) [.tm 220],[]⟩,⟨u2 222 215 false (.eqv true [true,true]) [.tm 216,.tm 221],[]⟩,w1 223 .or [.tm 215,.tm 222],Zu 224 223,⟨Zg 225 224 false 7,[]⟩,⟨Zg 226 224 false 12,[]⟩,⟨u2 227 224 false (.idxAddr 7) [.tm 225,.tm 226],[]⟩,⟨Zj 228 224 false 2 227,[]⟩,⟨Zh 229 224 false 1 228,[]⟩,⟨Zg 230 224 false 15,[]⟩,⟨u2 231 224 false (.cmp .neq) [.tm 229,.tm 230],[]⟩,w1 232 .or [.tm 224,.tm 231],Zu 233 232,⟨Zg 234 233 false 7,[]⟩,⟨Zg 235 233 false 12,[]⟩,⟨u2 236 233 false (.idxAddr 7) [.tm 234,.tm 235],[]⟩,⟨Zj 237 233 false 3 236,[]⟩,⟨Zh 238 233 false 1 237,[]⟩,⟨Zg 239 233 false 16,[]⟩,⟨u2 240 233 false (.cmp .neq) [.tm 238,.tm 239],[]⟩,w1 241 .or [.tm 233,.tm 240],Zu 242 241,⟨Zj 243 242 false 1 17,[]⟩,⟨Zh 244 242 false 1 243,[]⟩,⟨u2 245 242 false (.cmp .lss) [.tm 244,.cn (.int .i64 0)],[]⟩,w1 246 .or [.tm 242,.tm 245],Zu 247 246,⟨Zj 248 247 false 1 17,[]⟩,⟨Zh 249 247 false 1 248,[]⟩,⟨u2 250 247 false (.cmp .gtr) [.tm 249,.cn (.int .i64 1000000000000)],[]⟩,w1 251 .or [.tm 247,.tm 250]]) (ZC 251 (ZR [u1 6 .mov [.cn (.bool false)]] .ret) .skip)) (.draw [] [Zu 252 10,Zy 253 1 17,Zv 254 1 253,w1 255 (.ari .add) [.tm 252,.tm 254],Zu 256 11,Zy 257 1 17,Zv 258 1 257,w1 259 .max [.tm 256,.tm 258],Zu 10 255,Zu 11 259])))))))) (.region [Zm 123 12,Zp 124 123 1,Zm 12 124])))))) (.seq (ZR [Zm 260 2,Zl 261 260,Zm 262 7,Zl 263 262,Zr 264 .neq 261 263] (ZC 264 (ZR [u1 265 (.call 9) [],Zm 6 265] .ret) .skip)) (ZR [Za 266 31 3,Zf 267 1 266,Za 268 30 3,Zf 269 1 268,Zo 270 .sub 267 269,Zp 271 270 1,u1 272 (.make 1 8 [(.int .i64 0)]) [.tm 271,.tm 271],Zm 19 272] (.seq (ZR [Zi 20 0] (.block 2 (.loop (.seq (ZR [Zm 273 20,Zm 274 19,Zl 275 274,Zr 276 .lss 273 275] (ZC 276 .skip (.exit 2))) (.seq (.block 3 (.region [Zm 279 19,Zm 280 20,Zm 281 20,Zx 282 1 279 280,Zs 1 282 281])) (.region [Zm 277 20,Zp 278 277 1,Zm 20 278])))))) (ZR [Zi 21 0,Zi 22 0] (.seq (ZR [Zi 23 0] (.block 4 (.loop (.seq (ZR [Zm 283 23,Zm 284 2,Zl 285 284,Zr 286 .lss 283 285] (ZC 286 .skip (.exit 4))) (.seq (.block 5 (.seq (.draw [] [Zu 289 2,Zu 290 23,ZX 291 2 289 290,w1 292 (.idxArr 2 1) [.tm 291,.cn (.int .i64 0)],Zv 293 1 292,Zu 294 2,Zu 295 23,ZX 296 2 294 295,w1 297 (.idxArr 2 1) [.tm 296,.cn (.int .i64 1)],Zv 298 1 297,w1 299 .min [.tm 293,.tm 298],Zu 300 2,Zu 301 23,ZX 302 2 300 301,w1 303 (.idxArr 2 1) [.tm 302,.cn (.int .i64 0)],Zv 304 1 303,Zu 305 2,Zu 306 23,ZX 307 2 305 306,w1 308 (.idxArr 2 1) [.tm 307,.cn (.int .i64 1)],Zv 309 1 308,w1 310 .max [.tm 304,.tm 309],Zu 24 299,Zu 25 310]) (.seq (ZR [Zm 311 24,Za 312 30 3,Zf 313 1 312,Zr 314 .lss 311 313,Zm 315 314,Zg 316 315 false 25,Zj 317 315 false 31 3,Zh 318 315 false 1 317,u2 319 315 false (.cmp .gtr) [.tm 316,.tm 318],u1 320 .or [.tm 315,.tm 319],Zm 321 320,Zg 322 321 false 25,Zg 323 321 false 24,u2 324 321 false (.ari .sub) [.tm 322,.tm 323],u2 325 321 false (.cmp .gtr) [.tm 324,.cn (.int .i64 12)],u1 326 .or [.tm 321,.tm 325]] (ZC 326 (ZR [u1 327 (.call 9) [],Zm 6 327] .ret) .skip)) (ZR [Zm 329 25,Zm 330 24,Zo 331 .sub 329 330,Zc 332 13 331,Zm 328 332,Ze 333 0 328,Ze 334 1 328,Zm 26 333,Zm 27 334] (.seq (.seq (.draw [] [Zu 335 26,w1 336 (.cmp .eql) [.tm 335,.cn (.int .i64 0)],Zu 337 336,⟨Zg 338 337 false 19,[]⟩,⟨Zg 339 337 false 24,[]⟩,⟨Zj 340 337 false 30 3,[]⟩,⟨Zh 341 337 false 1 340,[]⟩,⟨u2 342 337 false (.ari .sub) [.tm 339,.tm 341],[]⟩,⟨u2 343 337 false (.idxAddr 1) [.tm 338,.tm 342],[]⟩,⟨Zh 344 337 false 1 343,[]⟩,⟨Zg 345 337 false 19,[]⟩,⟨Zg 346 337 false 25,[]⟩,⟨Zj 347 337 false 30 3,[]⟩,⟨Zh 348 337 false 1 347,[]⟩,⟨u2 349 337 false (.ari .sub) [.tm 346,.tm 348],[]⟩,⟨u2 350 337 false (.idxAddr 1) [.tm 345,.tm 349],[]⟩,⟨Zh 351 337 false 1 350,[]⟩,⟨u2 352 337 false (.cmp .eql) [.tm 344,.tm 351],[]⟩,w1 353 .or [.tm 337,.tm 352]]) (ZC 353 (ZR [u1 354 (.call 9) [],Zm 6 354] .ret) .skip)) (.seq (.draw [] [Zu 355 19,Zu 356 24,Zy 357 30 3,Zv 358 1 357,w1 359 (.ari .sub) [.tm 356,.tm 358],ZX 360 1 355 359,Zv 361 1 360,Zu 362 19,Zu 363 25,Zy 364 30 3,Zv 365 1 364,w1 366 (.ari .sub) [.tm 363,.tm 365],ZX 367 1 362 366,Zv 368 1 367,Zu 28 361,Zu 29 368]) (.seq (ZR [Zi 30 0] (.block 6 (.loop (.seq (ZR [Zm 369 30,Zm 370 19,Zl 371 370,Zr 372 .lss 369 371] (ZC 372 .skip (.exit 6))) (.seq (.block 7 (ZR [Zm 375 19,Zm 376 30,Zx 377 1 375 376,Zf 378 1 377,Zm 379 28,Zr 380 .eql 378 379] (ZC 380 (.region [Zm 381 19,Zm 382 30,Zm 383 29,Zx 384 1 381 382,Zs 1 384 383]) .skip))) (.region [Zm 373 30,Zp 374 373 1,Zm 30 374])))))) (ZR [Za 386 0 3,Zt 387 3 386,Za 388 3 3,Zt 389 27 388,Zm 390 24,Zm 391 25,Zm 392 26,Zm 393 27,u1 394 (.call 14) [.tm 387,.tm 389,.tm 390,.tm 391,.tm 392,.tm 393],Zm 385 394,Ze 395 0 385,Ze 396 1 385,Zn 31,Zs 2 31 395,Zm 32 396] (.seq (ZR [Zm 397 32,Zq 398 .neq 397 0,Zm 399 398,Zj 400 399 false 1 31,Zh 401 399 false 1 400,u2 402 399 false (.cmp .lss) [.tm 401,.cn (.int .i64 0)],u1 403 .or [.tm 399,.tm 402],Zm 404 403,Zj 405 404 false 1 31,Zh 406 404 false 1 405,u2 407 404 false (.cmp .gtr) [.tm 406,.cn (.int .i64 1000000000000)],u1 408 .or [.tm 404,.tm 407]] (ZC 408 (ZR [u1 6 .mov [.cn (.bool false)]] .ret) .skip)) (.draw [] [Zu 409 21,Zy 410 1 31,Zv 411 1 410,w1 412 (.ari .add) [.tm 409,.tm 411],Zu 413 22,Zy 414 1 31,Zv 415 1 414,w1 416 .max [.tm 413,.tm 415],Zu 21 412,Zu 22 416])))))))))) (.region [Zm 287 23,Zp 288 287 1,Zm 23 288])))))) (ZR [Zm 417 10,Zm 418 21,Zr 419 .leq 417 418,Zm 420 419,Zg 421 420 true 11,Zg 422 420 true 22,u2 423 420 true (.cmp .leq) [.tm 421,.tm 422],u1 424 .and [.tm 420,.tm 423],Zm 425 424,u2 426 425 true (.call 9) [],u1 427 .and [.tm 425,.tm 426],Zm 6 427] .ret))))))))))))))⟩
theorem v4_is:Yg YCX Tryz.f4=some v4:=by kernel_rfl
def lawL:List PSh:=[⟨true,[.int .i64,.int .i64,.int .i64,.str,.bool,.int .i64,.int .i64,.int .i64,.int .i64,.int .i64,.int .i64,.int .i64,.int .i64,.int .i64,.int .i64,.int .i64,.int .i64,.int .i64,.int .i64,.int .i64,.int .i64,.int .i64,.int .i64,.int .i64,.int .i64,.int .i64,.int .i64,.int .i64,.int .i64,.int .i64,.int .i64,.int .i64,.int .i64,.int .i64]⟩,⟨false,[.int .i64]⟩,⟨false,[.slice [.int .i64,.int .i64]]⟩]
def Yu4(a t0 t:Int)(T:Tm)(low high p q:Int):List SV:= .int .i64 a:: .int .i64 t0:: .int .i64 t::(encT T++[.int .i64 low,.int .i64 high,.int .i64 p,.int .i64 q])
theorem tk27(T:Tm)(r:List SV):Yt 27 (encT T++r)=encT T:=rfl
theorem dp27(T:Tm)(r:List SV):Yl 27 (encT T++r)=r:=rfl
theorem dp28(T:Tm)(x:SV)(r:List SV):Yl 28 (encT T++x::r)=r:=rfl
theorem ln27(T:Tm)(r:List SV):lenL (encT T++r)=lenL r+27:=rfl
def tmOf(nm:ByteArray)(syn:Bool)(w:Int)(l:List Int):Tm:=⟨nm,syn,w,fun i=>(l.getD (2*i) 0,l.getD (2*i+1) 0)⟩
theorem Yu5{cs:List SV}(h:okSL [.int .i64,.int .i64,.int .i64,.str,.bool,.int .i64,.int .i64,.int .i64,.int .i64,.int .i64,.int .i64,.int .i64,.int .i64,.int .i64,.int .i64,.int .i64,.int .i64,.int .i64,.int .i64,.int .i64,.int .i64,.int .i64,.int .i64,.int .i64,.int .i64,.int .i64,.int .i64,.int .i64,.int .i64,.int .i64,.int .i64,.int .i64,.int .i64,.int .i64] cs):
   ∃(a t0 t:Int) (T:Tm) (low high p q:Int),cs=Yu4 a t0 t T low high p q/\T.nm.size<=maxLen:=by
 obtain⟨a,r0,e0,h0⟩:=Yk h
 obtain⟨t0,r1,e1,h1⟩:=Yk h0
 obtain⟨t,r2,e2,h2⟩:=Yk h1
 obtain⟨v3,r3,e3,⟨nm,u3,hnm⟩,h3⟩:=Ycq h2
 obtain⟨v4,r4,e4,⟨syn,u4⟩,h4⟩:=Ycq h3
 obtain⟨w,r5,e5,h5⟩:=Yk h4
 obtain⟨x0,r6,e6,h6⟩:=Yk h5
 obtain⟨x1,r7,e7,h7⟩:=Yk h6
 obtain⟨x2,r8,e8,h8⟩:=Yk h7
 obtain⟨x3,r9,e9,h9⟩:=Yk h8
 obtain⟨x4,r10,e10,h10⟩:=Yk h9
 obtain⟨x5,r11,e11,h11⟩:=Yk h10
 obtain⟨x6,r12,e12,h12⟩:=Yk h11
 obtain⟨x7,r13,e13,h13⟩:=Yk h12
 obtain⟨x8,r14,e14,h14⟩:=Yk h13
 obtain⟨x9,r15,e15,h15⟩:=Yk h14
 obtain⟨x10,r16,e16,h16⟩:=Yk h15
 obtain⟨x11,r17,e17,h17⟩:=Yk h16
 obtain⟨x12,r18,e18,h18⟩:=Yk h17
 obtain⟨x13,r19,e19,h19⟩:=Yk h18
 obtain⟨x14,r20,e20,h20⟩:=Yk h19
 obtain⟨x15,r21,e21,h21⟩:=Yk h20
 obtain⟨x16,r22,e22,h22⟩:=Yk h21
 obtain⟨x17,r23,e23,h23⟩:=Yk h22
 obtain⟨x18,r24,e24,h24⟩:=Yk h23
 obtain⟨x19,r25,e25,h25⟩:=Yk h24
 obtain⟨x20,r26,e26,h26⟩:=Yk h25
 obtain⟨x21,r27,e27,h27⟩:=Yk h26
 obtain⟨x22,r28,e28,h28⟩:=Yk h27
 obtain⟨x23,r29,e29,h29⟩:=Yk h28
 obtain⟨low,r30,e30,h30⟩:=Yk h29
 obtain⟨high,r31,e31,h31⟩:=Yk h30
 obtain⟨p,r32,e32,h32⟩:=Yk h31
 obtain⟨q,r33,e33,h33⟩:=Yk h32
 have e34:=Yff h33
 exact⟨a,t0,t,tmOf nm syn w [x0,x1,x2,x3,x4,x5,x6,x7,x8,x9,x10,x11,x12,x13,x14,x15,x16,x17,x18,x19,x20,x21,x22,x23],low,high,p,q,by rw[e0,e1,e2,e3,u3,e4,u4,e5,e6,e7,e8,e9,e10,e11,e12,e13,e14,e15,e16,e17,e18,e19,e20,e21,e22,e23,e24,e25,e26,e27,e28,e29,e30,e31,e32,e33,e34];rfl,hnm⟩
theorem YAo{a t0 t:Int}{T:Tm}{fr low high:Int}(h:(YdU a t0 t T fr low high).2=0):
   rdyF a t0 t T=0/\Ylp fr low high=false/\∃s,plnL (YaS T) (miT a t0 t T low.toNat high.toNat) low.toNat high.toNat (lrn (YaS T) (miT a t0 t T low.toNat high.toNat) low.toNat high.toNat ⟨fun _=>false,fun _=>Yfx⟩ fr.toNat) (high.toNat-low.toNat)=some (s,(YdU a t0 t T fr low high).1):=by
 unfold YdU at h⊢
 by_cases h1:rdyF a t0 t T≠0
 . rw[if_pos h1]at h;exact absurd h h1
 rw[if_neg h1]at h⊢
 by_cases h2:Ylp fr low high=true
 . rw[if_pos h2]at h;exact absurd h (by decide)
 rw[if_neg h2]at h⊢
 refine⟨Classical.byContradiction h1,by simpa using h2,?_⟩
 unfold plnF at h⊢
 split at h
 . exact absurd h (by decide)
 . rename_i s out he
   exact⟨s,he⟩
def knB(F lo:Nat)(out:List Stp)(i k:Nat):Bool:=(YDk (i+1)).any fun a=>decide (rch F out a=lo+k)
theorem knB_t{F lo:Nat}{out:List Stp}{i k:Nat}:knB F lo out i k=true↔∃a,a<=i/\rch F out a=lo+k:=by
 unfold knB
 rw[List.any_eq_true]
 constructor
 . rintro⟨a,h1,h2⟩;exact⟨a,by have:=List.mem_range.1 h1;omega,of_decide_eq_true h2⟩
 . rintro⟨a,h1,h2⟩;exact⟨a,List.mem_range.2 (by omega),decide_eq_true h2⟩
theorem YsM{F lo:Nat}{out:List Stp}{i k:Nat}(h:lo<=rch F out (i+1)):knB F lo out (i+1) k=if k=rch F out (i+1)-lo then true else knB F lo out i k:=by
 unfold knB
 rw[List.range_succ,List.any_append]
 by_cases hc:k=rch F out (i+1)-lo
 . rw[if_pos hc,List.any_cons,decide_eq_true (by omega)];simp
 . rw[if_neg hc,List.any_cons,decide_eq_false (by omega)];simp
theorem knB_0{F lo:Nat}{out:List Stp}{hi:Nat}(h:∀i,i<=out.length->lo<=rch F out i/\rch F out i<=hi):knB F lo out 0=fun k=>if k=F-lo then true else false:=by
 funext k
 have h0:lo<=F:=(h 0 (YDy _)).1
 by_cases hc:k=F-lo
 . rw[if_pos hc];exact knB_t.2 ⟨0,YC2 _,by show F=_;omega⟩
 . rw[if_neg hc]
   cases hk:knB F lo out 0 k
   . rfl
   . obtain⟨a,a1,a2⟩:=knB_t.1 hk
     obtain rfl:a=0:=by omega
     have:F=lo+k:=a2
     omega
theorem tn0:Int.toNat 0=0:=rfl
theorem tn1:Int.toNat 1=1:=rfl
def eO(lo:Nat)(o:List (Int×Int))(j:Nat):Nat×Nat:=((min (o.getD j default).1 (o.getD j default).2-lo).toNat,(max (o.getD j default).1 (o.getD j default).2-lo).toNat)
def TU0:Env:={ ct:=fun n=>match n with|10=>some planC|11=>some chkSC|12=>some chk5C|13=>some byC|14=>some rteC|9=>some trueC|_=>none,fn:=fun _=>none,meth:=fun _ _=>none}
theorem Yd4:TU0.ct 10=some planC:=rfl
theorem Yd5:TU0.ct 11=some chkSC:=rfl
theorem Yd6:TU0.ct 12=some chk5C:=rfl
theorem Yd7:TU0.ct 13=some byC:=rfl
theorem Yd8:TU0.ct 14=some rteC:=rfl
theorem YfU:TU0.ct 9=some trueC:=rfl
theorem YyX:Yo YCX TU0:=by
 refine⟨fun f c h=>?_,fun f vf h=>?_,(fun _ _ _ h=>by cases h),by kernel_rfl,(fun _ h=>by cases h)⟩
 . simp only[TU0]at h
   split at h
   . cases h;exact⟨YAp,Tryz.f10,Tryz.func10,by kernel_rfl,by kernel_rfl⟩
   . cases h;exact⟨Yzl,Tryz.f11,Tryz.func11,by kernel_rfl,by kernel_rfl⟩
   . cases h;exact⟨Yzk,Tryz.f12,Tryz.func12,by kernel_rfl,by kernel_rfl⟩
   . cases h;exact⟨rby_c,Tryz.f13,Tryz.func13,by kernel_rfl,by kernel_rfl⟩
   . cases h;exact⟨YBk,Tryz.f14,Tryz.func14,by kernel_rfl,by kernel_rfl⟩
   . cases h;exact⟨Yo0,Tryz.f9,Tryz.func9,by kernel_rfl,by kernel_rfl⟩
   . cases h
 . cases h
theorem YsO:(lawC lawL).ok YCX 4:=by
 refine Yb Tryz.func4 v4_is YyX 900 (lawC lawL) fun args k h=>?_
 obtain⟨ha,hk⟩:=h
 obtain⟨_,_,rfl,h1,e1⟩:=Ycp ha
 obtain⟨cs,rfl,g1⟩:=YlM h1
 obtain⟨a,t0,t,T,low,high,p0,q0,rfl,hnm⟩:=Yu5 g1
 obtain⟨_,_,rfl,h2,e2⟩:=Ycp e1
 obtain⟨fr,rfl,_⟩:=Ygt (Ygs h2)
 obtain⟨_,_,rfl,h3,e3⟩:=Ycp e2
 obtain⟨z',n',get',rfl,hn',hg'⟩:=Yi1 (Ygs h3)
 cases YkF e3
 have hk':k (.bool true) []:=hk
 obtain⟨o,rfl,ho⟩:=YvV (P:=fun k (x:Int×Int)=>leXL (get' k) (enc2 x)) fun k hk=>by
   obtain⟨x,r1,q1,h1⟩:=Yk (hg' k hk)
   obtain⟨y,r2,q2,h2⟩:=Yk h1
   have q3:=Yff h2
   exact⟨(x,y),by rw[q1,q2,q3];exact Ye _⟩
 have hm:T.nm.size<=9223372036854775807:=YDp hnm (by unfold maxLen;decide)
 have hol:o.length<=9223372036854775807:=YDp hn' (by unfold maxLen;decide)
 refine⟨[.agg (Yu4 a t0 t T low high p0 q0),.int .i64 fr,.vs false z' o.length 2 (fun k=>enc2 (o.getD k default))],?_,?_⟩
 . refine⟨Yc _ ⟨trivial,trivial,trivial,?_⟩,⟨rfl,rfl⟩,⟨id,rfl,rfl,rfl,ho⟩,trivial⟩
   simp [encT,encP,bndL,bnd]
 dsimp only[v4,Yu4,Ybm,lenT,tk27,dp27,dp28,ln27,Yd4,Yd5,Yd6,Yd7,Yd8,YfU,planC,chkSC,chk5C,byC,rteC,trueC,go_sem,reduceIte,YCS]
 simp only[Yd,YCS,YCU,reduceCtorEq,YCT]
 refine⟨by simp [encT,encP,ones,one];rfl,T,⟨rfl,hm⟩,fun z=>⟨by decide,by decide,fun hc=>Yw hk',fun hc=>?_⟩⟩
 obtain⟨hr,hb,s,hpl⟩:=YAo hc
 obtain⟨b1,b2,b3,b4,b5,b6⟩:=Yo2 hb
 obtain⟨F,rfl⟩:∃m:Nat,fr=(m:Int):=⟨fr.toNat,by omega⟩
 obtain⟨lo,rfl⟩:∃m:Nat,low=(m:Int):=⟨low.toNat,by omega⟩
 obtain⟨hi,rfl⟩:∃m:Nat,high=(m:Int):=⟨high.toNat,by omega⟩
 simp only[YCY]at hpl
 obtain⟨out,hout⟩:∃l,l=(YdU a t0 t T F lo hi).1:=⟨_,rfl⟩
 rw[<-hout]at hpl⊢
 obtain⟨hS,hT⟩:=YwF hr
 obtain⟨L,hL⟩:∃L,L=YaS T:=⟨_,rfl⟩
 obtain⟨M,hM⟩:∃M,M=miT a t0 t T lo hi:=⟨_,rfl⟩
 rw[<-hL,<-hM]at hpl
 obtain⟨hP,hlen⟩:=Ym4 (by omega) (by omega) hpl
 have hMo:∀n,okI 1000000000001 (M n):=fun n=>by rw[hM];exact Yz5 _ _ _ _ _ _ _
 have hw1:IntKind.i64.wrap ((hi:Int)-lo)=((hi-lo:Nat):Int):=by rw[YCW ((hi:Int)-lo) (by omega)];omega
 rw[hw1,hlen,hS]
 obtain⟨n,hn⟩:∃n,n=hi-lo:=⟨_,rfl⟩
 rw[<-hn]at hpl hlen⊢
 have hw2:IntKind.i64.wrap ((n:Int)+1)=((n+1:Nat):Int):=by rw[YCW ((n:Int)+1) (by omega)];rfl
 have hw3:IntKind.i64.wrap ((F:Int)-lo)=((F-lo:Nat):Int):=by rw[YCW ((F:Int)-lo) (by omega)];omega
 rw[hw2,hw3]
 simp only[YCY]
 refine⟨T,fun _=>⟨rfl,hm,hT⟩,fun hbad=>?_,fun _=>⟨⟨by decide,by omega,Int.le_refl _,by unfold YW;omega⟩,⟨by omega,by omega⟩,by omega,?_⟩⟩
 . simp only[YDm,decide_eq_true_eq,YDe,decide_eq_false_iff_not,not_true_eq_false,false_or,or_false]at hbad
   omega
 have hwle:∀j,j<n->wOf out j<=1000000000000:=fun j hj=>by
   obtain⟨pa,pa1,pa2,pa3⟩:=hP.st j (by omega)
   obtain⟨⟨sh1,sh2⟩,_⟩:=Ynn hMo pa2
   unfold wOf
   rw[pa3];omega
 refine Loop.keep [1,0,0,3,1] Nat (fun i=>[(10,.int .i64 (sumN ((YDk i).map (wOf out)):Nat)),(11,.int .i64 (maxN ((YDk i).map (wOf out)):Nat)),(12,.int .i64 i)]) (fun i=>[(1,.own false 1 (n+1) (fun k=>[.bool (knB F lo out i k)]))]) [] (fun i=>i<=n) (fun i=>n-i) ?_ ?_
 . refine⟨0,YDy _,?_⟩
   dsimp only[go_sem,reduceIte,YCS]
   simp only[Ya]
   refine⟨⟨by decide,by decide,rfl,rfl,rfl⟩,Yc _ (by simp [encT,encP,bndL,bnd]),fun q hq=>?_⟩
   rw[knB_0 hP.rg]
   show leL _ _ _ [SV.bool (if q=F-lo then true else false)]
   by_cases hc:q=F-lo
   . rw[if_pos hc,if_pos hc];exact Yc _ ⟨trivial,trivial⟩
   . rw[if_neg hc,if_neg hc];exact Yc _ ⟨trivial,trivial⟩
 rintro i hi'
 replace hi':i<=n:=hi'
 dsimp only[encS,YCY,Ybm,lenT,tk27,dp27,dp28,ln27,Yd4,Yd5,Yd6,Yd7,Yd8,YfU,planC,chkSC,chk5C,byC,rteC,trueC,go_sem,reduceIte,YCS]
 simp only[Yd,YCS,YCU,reduceCtorEq,YCT]
 refine⟨fun hlt=>?_,fun hge=>?_⟩
 . have hi2:i<out.length:=by omega
   obtain⟨pa,pa1,pa2,pa3⟩:=hP.st i hi2
   obtain⟨ra1,ra2⟩:=hP.rg pa (by omega)
   obtain⟨rb1,rb2⟩:=hP.rg (i+1) (by omega)
   obtain⟨x,hx⟩:∃x,x=rch F out pa:=⟨_,rfl⟩
   obtain⟨y,hy⟩:∃y,y=rch F out (i+1):=⟨_,rfl⟩
   rw[<-hx,<-hy]at pa2 pa3
   rw[<-hx]at ra1 ra2
   rw[<-hy]at rb1 rb2
   obtain⟨⟨sh1,sh2⟩,sb,sp,sq,skn,snw⟩:=Ynn hMo pa2
   obtain⟨sd,hsd⟩:∃sd,sd=out.getD i default:=⟨_,rfl⟩
   have hst:sd=(stpF L M x y).1:=by rw[hsd,pa3]
   rw[<-hst]at sh1 sh2 sp sq skn snw
   have hrt:rteF a t0 t T (min (x:Int) y) (max (x:Int) y) sd.p sd.q=((sd.lo,sd.hi),0):=by
     rw[sp,sq,hst,hL,hM]
     rw[hL,hM]at pa2
     exact YqW hr (by omega) ⟨ra1,ra2⟩ ⟨rb1,rb2⟩ pa2
   have hka:knB F lo out i (x-lo)=true:=knB_t.2 ⟨pa,pa1,by omega⟩
   have hkb:knB F lo out i (y-lo)=false:=by
     cases hk:knB F lo out i (y-lo)
     . rfl
     . obtain⟨c,c1,c2⟩:=knB_t.1 hk
       exact absurd (by omega:rch F out c=rch F out (i+1)) (hP.inj c (i+1) (by omega) (by omega))
   rw[<-hsd,skn,snw]
   have hwa:IntKind.i64.wrap ((x:Int)-lo)=((x-lo:Nat):Int):=by rw[YCW ((x:Int)-lo) (by omega)];omega
   have hwb:IntKind.i64.wrap ((y:Int)-lo)=((y-lo:Nat):Int):=by rw[YCW ((y:Int)-lo) (by omega)];omega
   have hwm:IntKind.i64.wrap (max (x:Int) y-min (x:Int) y)=max (x:Int) y-min (x:Int) y:=YCW _ (by omega)
   rw[hwa,hwb,hwm,<-sp,<-sq]
   simp only[YCY]
   rw[hka,hkb]
   refine⟨by omega,by omega,fun _=>by omega,fun _=>by omega,fun _=>by omega,fun _=>by omega,fun hc=>?_,fun _=>⟨by omega,by omega,by decide,by decide,T,⟨rfl,hm⟩,by decide,by decide,?_⟩⟩
   . simp only[YDm,decide_eq_true_eq,Bool.not_true,YDa,or_false]at hc
     omega
   rw[hrt]
   have hp0:sd.p≠0:=by rw[sp];exact sb
   have hwi:(wOf out i:Int)=sd.hi:=by unfold wOf;rw[<-hsd];omega
   have hsb:=YqU (w:=wOf out) (i:=i) (fun j hj=>hwle j (by omega)) (by omega)
   refine⟨fun _=>by omega,fun _=>by omega,fun _=>by omega,fun hc=>?_,fun _=>⟨i+1,by omega,by omega,?_⟩⟩
   . simp [hp0]at hc
     omega
   . rw[YCW (((sumN ((YDk i).map (wOf out)):Nat):Int)+sd.hi) (by omega),YCW ((i:Int)+1) (by omega),Ynd,Ync]
     dsimp only[go_sem,reduceIte,YCS]
     simp only[Ya]
     refine⟨⟨by decide,by decide,by omega,by omega,rfl⟩,Yc _ (by simp [encT,encP,bndL,bnd]),fun q hq=>?_⟩
     rw[YsM (by rw[<-hy];exact rb1),<-hy]
     by_cases hc:q=y-lo
     . rw[if_pos hc,if_pos hc];exact Yc _ ⟨trivial,trivial⟩
     . rw[if_neg hc,if_neg hc];exact Yc _ ⟨trivial,trivial⟩
 obtain rfl:n=i:=by omega
 have hw4:IntKind.i64.wrap ((hi:Int)-lo)=(n:Int):=by rw[hw1,<-hn]
 rw[hw4,hw2]
 simp only[YCY]
 refine⟨fun _=>Yw hk',fun hol2=>⟨⟨by decide,by omega,Int.le_refl _,by unfold YW;omega⟩,?_⟩⟩
 replace hol2:o.length=n:=by omega
 obtain⟨S1,hS1⟩:∃S1,S1=sumN ((YDk n).map (wOf out)):=⟨_,rfl⟩
 obtain⟨X1,hX1⟩:∃X1,X1=maxN ((YDk n).map (wOf out)):=⟨_,rfl⟩
 rw[<-hS1,<-hX1]
 clear hge
 refine Loop.keep [2,0,3,2,0,7] Nat (fun i=>[(20,.int .i64 i)]) (fun i=>[(2,.own false 1 (n+1) (fun k=>[.int .i64 ((if k<i then k else 0:Nat):Int)]))]) [] (fun i=>i<=n+1) (fun i=>n+1-i) ?_ ?_
 . refine⟨0,YDy _,?_⟩
   dsimp only[go_sem,reduceIte,YCS]
   simp only[Ya]
   exact⟨⟨by decide,by decide,rfl⟩,Yc _ (by simp [encT,encP,bndL,bnd]),fun q hq=>by rw[if_neg (by omega)];rfl⟩
 rintro i hi'
 replace hi':i<=n+1:=hi'
 dsimp only[YCY,Ybm,lenT,tk27,dp27,dp28,ln27,Yd4,Yd5,Yd6,Yd7,Yd8,YfU,planC,chkSC,chk5C,byC,rteC,trueC,go_sem,reduceIte,YCS]
 simp only[Yd,YCS,YCU,reduceCtorEq,YCT]
 refine⟨fun hlt=>?_,fun hge=>?_⟩
 . refine⟨⟨by omega,by omega⟩,by omega,i+1,by omega,by omega,?_⟩
   rw[YCW ((i:Int)+1) (by omega)]
   simp only[Ya]
   refine⟨⟨by decide,by decide,rfl⟩,Yc _ (by simp [encT,encP,bndL,bnd]),fun q hq=>?_⟩
   by_cases hc:q=i
   . rw[if_pos hc,if_pos (by omega),hc];exact Yc _ ⟨trivial,trivial⟩
   . have e:(q<i+1)=(q<i):=propext (by omega)
     rw[if_neg hc]
     simp only[e]
     exact Yc _ ⟨trivial,trivial⟩
 obtain rfl:i=n+1:=by omega
 refine Loop.keep [2,0,3,2,0,7] (Nat×(Nat->Nat)) (fun x=>[(21,.int .i64 (sumN ((YDk x.1).map fun j=>wE L M lo (eO lo o j)):Nat)),(22,.int .i64 (maxN ((YDk x.1).map fun j=>wE L M lo (eO lo o j)):Nat)),(23,.int .i64 x.1)]) (fun x=>[(2,.own false 1 (n+1) (fun k=>[.int .i64 (x.2 k:Nat)]))]) []
   (fun x=>x.1<=n/\(∀k,k<n+1->x.2 k=labs (fun k=>k) ((YDk x.1).map (eO lo o)) k)/\YgT (fun k=>k) ((YDk x.1).map (eO lo o))/\∀j,j<x.1->(eO lo o j).1<n+1/\(eO lo o j).2<n+1/\(stpF L M ((lo+(eO lo o j).1:Nat):Int) ((lo+(eO lo o j).2:Nat):Int)).2=true) (fun x=>n-x.1) ?_ ?_
 . refine⟨(0,fun k=>if k<n+1 then k else 0),⟨YDy _,fun k hk=>if_pos hk,trivial,fun j hj=>absurd hj (Nat.not_lt_zero _)⟩,?_⟩
   dsimp only[go_sem,reduceIte,YCS]
   simp only[Ya]
   exact⟨⟨by decide,by decide,rfl,rfl,rfl⟩,Yc _ (by simp [encT,encP,bndL,bnd])⟩
 rintro⟨i,g⟩ ⟨hi',hg,hj,hE⟩
 replace hi':i<=n:=hi'
 replace hg:∀k,k<n+1->g k=labs (fun k=>k) ((YDk i).map (eO lo o)) k:=hg
 replace hj:YgT (fun k=>k) ((YDk i).map (eO lo o)):=hj
 replace hE:∀j,j<i->(eO lo o j).1<n+1/\(eO lo o j).2<n+1/\(stpF L M ((lo+(eO lo o j).1:Nat):Int) ((lo+(eO lo o j).2:Nat):Int)).2=true:=hE
 dsimp only[enc2,YCY,tn0,tn1,Nat.zero_mul,Nat.one_mul,Ybm,lenT,tk27,dp27,dp28,ln27,Yd4,Yd5,Yd6,Yd7,Yd8,YfU,planC,chkSC,chk5C,byC,rteC,trueC,go_sem,reduceIte,YCS]
 simp only[Yd,YCS,YCU,reduceCtorEq,YCT]
 refine⟨fun hlt=>?_,fun hge=>?_⟩
 . obtain⟨⟨ea,eb⟩,hab⟩:∃e,e=o.getD i default:=⟨_,rfl⟩
   rw[<-hab]
   simp only
   have hi3:0<=(i:Int)/\(i:Int)<(o.length:Int):=by omega
   refine⟨hi3,by decide,hi3,by decide,hi3,by decide,hi3,by decide,fun _=>Yw hk',fun hin=>?_⟩
   simp only[YDb,decide_eq_false_iff_not]at hin
   obtain⟨⟨in1,in2⟩,in3⟩:=hin
   obtain⟨x,hx⟩:∃m:Nat,min ea eb=(m:Int):=⟨(min ea eb).toNat,by omega⟩
   obtain⟨y,hy⟩:∃m:Nat,max ea eb=(m:Int):=⟨(max ea eb).toNat,by omega⟩
   have hxy:lo<=x/\x<=y/\y<=hi:=by omega
   rw[hx,hy]
   have hwa:IntKind.i64.wrap ((x:Int)-lo)=((x-lo:Nat):Int):=by rw[YCW ((x:Int)-lo) (by omega)];omega
   have hwb:IntKind.i64.wrap ((y:Int)-lo)=((y-lo:Nat):Int):=by rw[YCW ((y:Int)-lo) (by omega)];omega
   have hwm:IntKind.i64.wrap ((y:Int)-x)=(y:Int)-x:=YCW _ (by omega)
   rw[hwa,hwb,hwm]
   simp only[YCY]
   obtain⟨P,hPd⟩:∃P,P=(byF ((y:Int)-x)).1:=⟨_,rfl⟩
   obtain⟨Q,hQd⟩:∃Q,Q=(byF ((y:Int)-x)).2:=⟨_,rfl⟩
   rw[<-hPd,<-hQd]
   have hba:0<=((x-lo:Nat):Int)/\((x-lo:Nat):Int)<((n+1:Nat):Int):=by omega
   have hbb:0<=((y-lo:Nat):Int)/\((y-lo:Nat):Int)<((n+1:Nat):Int):=by omega
   have hca:x-lo<n+1:=by omega
   have hcb:y-lo<n+1:=by omega
   refine⟨by decide,by decide,fun _=>hba,fun _=>hca,fun _=>hbb,fun _=>hcb,fun _=>Yw hk',fun hne=>⟨hba,hca,hbb,hcb,?_⟩⟩
   simp only[YDb,decide_eq_false_iff_not]at hne
   obtain⟨ne1,ne2⟩:=hne
   have hmm:min (x:Int) y=x/\max (x:Int) y=y:=by omega
   have hs2:(stpF L M (x:Int) (y:Int)).2=true:=by
     rw[YwX,hmm.1,hmm.2,<-hPd];exact decide_eq_true ne1
   have hrt:rteF a t0 t T x y P Q=(((stpF L M (x:Int) (y:Int)).1.lo,(stpF L M (x:Int) (y:Int)).1.hi),0):=by
     have h9:=YqW (a:=a) (t0:=t0) (t:=t) (T:=T) (lo:=lo) (hi:=hi) hr (by omega) (x:=x) (y:=y) ⟨by omega,by omega⟩ ⟨by omega,by omega⟩ (by rw[<-hL,<-hM];exact hs2)
     rw[hmm.1,hmm.2,<-hL,<-hM,<-hPd,<-hQd]at h9
     exact h9
   obtain⟨⟨sh1,sh2⟩,_⟩:=Ynn hMo hs2
   refine Loop.keep [2,0,3,2,0,7,1,0,0,0,0,0,0,0,0] Nat (fun k=>[(30,.int .i64 k)]) (fun k=>[(2,.own false 1 (n+1) (fun j=>[.int .i64 ((if j<k then YaV g (x-lo) (y-lo) j else g j:Nat):Int)]))]) [] (fun k=>k<=n+1) (fun k=>n+1-k) ?_ ?_
   . refine⟨0,YDy _,?_⟩
     dsimp only[go_sem,reduceIte,YCS]
     simp only[Ya]
     exact⟨⟨by decide,by decide,rfl⟩,Yc _ (by simp [encT,encP,bndL,bnd]),fun q hq=>by rw[if_neg (Nat.not_lt_zero _)]⟩
   rintro m hm'
   replace hm':m<=n+1:=hm'
   dsimp only[YCY,Ybm,lenT,tk27,dp27,dp28,ln27,Yd4,Yd5,Yd6,Yd7,Yd8,YfU,planC,chkSC,chk5C,byC,rteC,trueC,go_sem,reduceIte,YCS]
   simp only[Yd,YCS,YCU,reduceCtorEq,YCT]
   rw[if_neg (Nat.lt_irrefl m)]
   refine⟨fun h1=>?_,fun h2=>?_⟩
   . have hmn:0<=(m:Int)/\(m:Int)<((n+1:Nat):Int):=by omega
     have hmn2:m<n+1:=by omega
     refine⟨hmn,hmn2,fun heq=>⟨hmn,hmn2,m+1,by omega,by omega,?_⟩,fun hneq=>⟨m+1,by omega,by omega,?_⟩⟩
     . rw[YCW ((m:Int)+1) (by omega)]
       simp only[Ya]
       refine⟨⟨by decide,by decide,rfl⟩,Yc _ (by simp [encT,encP,bndL,bnd]),fun q hq=>?_⟩
       by_cases hc:q=m
       . have e:YaV g (x-lo) (y-lo) m=g (y-lo):=if_pos (by omega)
         rw[if_pos hc,if_pos (by omega),hc,e];exact Yc _ ⟨trivial,trivial⟩
       . have e:(q<m+1)=(q<m):=propext (by omega)
         rw[if_neg hc]
         simp only[e]
         exact Yc _ ⟨trivial,trivial⟩
     . rw[YCW ((m:Int)+1) (by omega)]
       simp only[Ya]
       refine⟨⟨by decide,by decide,rfl⟩,Yc _ (by simp [encT,encP,bndL,bnd]),fun q hq=>?_⟩
       by_cases hc:q=m
       . have e:YaV g (x-lo) (y-lo) m=g m:=if_neg (by omega)
         rw[hc,if_neg (Nat.lt_irrefl _),if_pos (Nat.lt_succ_self _),e]
       . have e:(q<m+1)=(q<m):=propext (by omega)
         simp only[e]
   obtain rfl:m=n+1:=by omega
   refine⟨T,⟨rfl,hm⟩,by decide,by decide,?_⟩
   rw[hrt]
   have heO:eO lo o i=(x-lo,y-lo):=by
     unfold eO
     rw[<-hab]
     show((min ea eb-lo).toNat,(max ea eb-lo).toNat)=_
     rw[hx,hy]
     exact Prod.ext (by show((x:Int)-lo).toNat=x-lo;omega) (by show((y:Int)-lo).toNat=y-lo;omega)
   have ex:lo+(x-lo)=x:=by omega
   have ey:lo+(y-lo)=y:=by omega
   have hE':∀j,j<i+1->(eO lo o j).1<n+1/\(eO lo o j).2<n+1/\(stpF L M ((lo+(eO lo o j).1:Nat):Int) ((lo+(eO lo o j).2:Nat):Int)).2=true:=fun j hj1=>by
     rcases YC4 j i with h1|h1
     . exact hE j h1
     . obtain rfl:j=i:=by omega
       rw[heO]
       refine⟨hca,hcb,?_⟩
       show(stpF L M ((lo+(x-lo):Nat):Int) ((lo+(y-lo):Nat):Int)).2=true
       rw[ex,ey];exact hs2
   have hwi:(wE L M lo (eO lo o i):Int)=(stpF L M (x:Int) (y:Int)).1.hi:=by
     rw[heO]
     show((stpF L M ((lo+(x-lo):Nat):Int) ((lo+(y-lo):Nat):Int)).1.hi.toNat:Int)=_
     rw[ex,ey];omega
   have hsb:=YqU (w:=fun j=>wE L M lo (eO lo o j)) (i:=i) (fun j hj1=>by
     obtain⟨⟨q1,q2⟩,_⟩:=Ynn hMo (hE j hj1).2.2
     show(stpF L M _ _).1.hi.toNat<=_
     omega) (by omega)
   have hgl:∀k,k<n+1->(if k<n+1 then YaV g (x-lo) (y-lo) k else g k)=labs (fun k=>k) ((YDk (i+1)).map (eO lo o)) k:=fun k hk=>by
     rw[if_pos hk,List.range_succ,List.map_append,YC6,List.map_nil,YsN,heO]
     unfold YaV
     simp only
     rw[hg k hk,hg (x-lo) hca,hg (y-lo) hcb]
   refine⟨fun hc=>?_,fun _=>⟨(i+1,fun k=>if k<n+1 then YaV g (x-lo) (y-lo) k else g k),⟨?_,hgl,?_,hE'⟩,?_,?_⟩⟩
   . simp at hc
     omega
   . show i+1<=n;omega
   . show YgT _ ((YDk (i+1)).map (eO lo o))
     rw[List.range_succ,List.map_append,YC6,List.map_nil]
     refine Ykm hj ?_
     rw[heO]
     show labs _ _ (x-lo)≠labs _ _ (y-lo)
     rw[<-hg (x-lo) hca,<-hg (y-lo) hcb]
     intro hh
     exact ne2 (by rw[hh])
   . show n-(i+1)<n-i;omega
   . simp only
     rw[YCW (((sumN ((YDk i).map fun j=>wE L M lo (eO lo o j)):Nat):Int)+(stpF L M (x:Int) (y:Int)).1.hi) (by omega),YCW ((i:Int)+1) (by omega),Ynd,Ync]
     simp only[Ya]
     exact⟨⟨by decide,by decide,by omega,by omega,rfl⟩,Yc _ (by simp [encT,encP,bndL,bnd])⟩
 . obtain rfl:i=n:=by omega
   have hEE:∀e,e∈(YDk i).map (eO lo o)->e.1<i+1/\e.2<i+1/\(stpF L M ((lo+e.1:Nat):Int) ((lo+e.2:Nat):Int)).2=true:=fun e he=>by
     obtain⟨j,j1,rfl⟩:=YDv.1 he
     exact hE j (List.mem_range.1 j1)
   obtain⟨l1,l2⟩:=YnR hP hlen hn (by omega) hEE hj (by simp)
   rw[<-hS1,List.map_map]at l1
   rw[<-hX1,List.map_map]at l2
   have l1':(S1:Int)<=(sumN ((YDk i).map fun j=>wE L M lo (eO lo o j)):Nat):=by
     have:S1<=sumN ((YDk i).map fun j=>wE L M lo (eO lo o j)):=l1
     omega
   have l2':(X1:Int)<=(maxN ((YDk i).map fun j=>wE L M lo (eO lo o j)):Nat):=by
     have:X1<=maxN ((YDk i).map fun j=>wE L M lo (eO lo o j)):=l2
     omega
   rw[decide_eq_true l1',decide_eq_true l2']
   exact Yw hk'
end Go.Proofs.YtnfkhknfpaamoaaGreatDoor
namespace Go.Proofs.YtnfkhknfpaamoaaGreatDoor
open Go Go.Vx Go.RowKit
set_option maxRecDepth 100000
theorem YAh:ownKnob YCX.godebug=none:=by kernel_rfl
theorem YvM:laidOutB YCX=true:=by kernel_rfl
theorem gPr25:YCX.globalNamed "quintadena/ratios.primes" =some 0:=by kernel_rfl
theorem tPr25:(YCX.globals[0]?).map (·.type)=some 145:=by kernel_rfl
theorem uPr25:YCX.underlying 145=some (.array 6 2):=by kernel_rfl
theorem ePr25:YCX.underlying 2=some (.int .i64):=by kernel_rfl
theorem cPr25:YCX.cellsOf 2=1:=by kernel_rfl
theorem Yzt(os:Os)(args:Array Value):laidMetH YCX [("quintadena/ratios.primes",YcY)] ((World.doorLaid YCX 400 os).forCall (fun _ _=>0) ⟨#[],args,[]⟩).memory:=
 laidMetH_of_parts3 (fuel:=8) (laidMet_of_run' 8 (by kernel_rfl) (by kernel_rfl)) (by kernel_rfl) (by kernel_rfl)
theorem YeG(os:Os)(started:os.Started)(H:Type)(enc:TypeId×Value->H):
   ReturnsInHanded {} Tryz.checked os 4 .any (fun w args=>(Rows.beatsLeastSpec.pre enc YCX Tryz.f4 [] false w args/\laidMetH YCX [("quintadena/ratios.primes",YcY)] w)/\sizedMet enc YCX Tryz.f4 (OpenSpec.ofChange Rows.beatsLeastSpec) false w args)
     (Rows.beatsLeastSpec.post enc YCX Tryz.f4 false true false false):=
 Ykt (C:=Tryz.checked) (tb:=4) YAh started (by kernel_rfl) Tryz.func4 YvM
   (ChangeSpec.witness_shaped (enc:=enc) (C:=Tryz.checked) (os:=os) (X:=fun w _=>laidMetH YCX [("quintadena/ratios.primes",YcY)] w) false (World.doorLaid YCX 400 os) #[.agg #[.int .i64 0,.int .i64 0,.int .i64 0,.string ⟨#[]⟩,.bool false,.int .i64 0,.int .i64 0,.int .i64 0,.int .i64 0,.int .i64 0,.int .i64 0,.int .i64 0,.int .i64 0,.int .i64 0,.int .i64 0,.int .i64 0,.int .i64 0,.int .i64 0,.int .i64 0,.int .i64 0,.int .i64 0,.int .i64 0,.int .i64 0,.int .i64 0,.int .i64 0,.int .i64 0,.int .i64 0,.int .i64 0,.int .i64 0,.int .i64 0,.int .i64 0,.int .i64 0,.int .i64 0,.int .i64 0],.int .i64 0,.slice none 0 0] 8 rfl (World.shaped_of_RefB (by kernel_rfl) (by kernel_rfl)) (by kernel_rfl) (by kernel_rfl) (by kernel_rfl) (Yzt os _))
   (by kernel_rfl) (by kernel_rfl) (by kernel_rfl) (by kernel_rfl) rfl (fun ds h=>match ds,h with| [_,_,_],_=>⟨rfl,rfl,rfl⟩) YsO gPr25 tPr25 uPr25 ePr25 cPr25
theorem YfZ:Rows.BeatsLeastSaid:=
 OpenClaim.holds_of_wide 4 Tryz.f4 rfl rfl rfl rfl rfl rfl rfl ⟨rfl,rfl,rfl,rfl,rfl⟩ rfl rfl rfl rfl rfl (by kernel_rfl) Tryz.func4 (by kernel_rfl)
   (of_decide_eq_true (by kernel_rfl)) (by unfold Func.isWrapper;first| (rw[if_pos (by decide+kernel)];kernel_rfl) | (rw[if_neg (by decide+kernel)];exact⟨rfl,rfl⟩))
   (fun os started H enc _=>YeG os started H enc)
theorem beatsLeast_holds:Rows.BeatsLeastCardSaid:=
 Claim7.holds_tied_plain_at .later [] [.data] true (true, "94d42407d23ae3a8385a795969456b42d18dd5f0f78efb07ffd4aae6d8f5af51") false
   YfZ (fun _ h=>by cases h) (by kernel_rfl) (fun _ h=>by cases h) beatsLeast_row_tie rfl ⟨rfl,rfl⟩ (by kernel_rfl) rfl
   (fun f fn hf hfn=>by
     obtain rfl:f=4:=Option.some.inj ((show YCX.funcNamed Rows.beatsLeastRow.func=some 4 by kernel_rfl).symm.trans hf) |>.symm
     obtain rfl:fn=Tryz.f4:=(Option.some.inj (Tryz.func4.symm.trans hfn)).symm
     exact⟨by kernel_rfl,fun j t ht=>by
       have hall:(Tryz.f4.params.toList.all fun u=>!YCX.wantsStandIn u)=true:=by kernel_rfl
       have hm:t∈Tryz.f4.params.toList:=Array.mem_toList_iff.2 (Array.mem_of_getElem? ht)
       exact(show YCX.wantsStandIn t=false by simpa using List.all_eq_true.1 hall t hm)⟩)
   (by kernel_rfl)
end Go.Proofs.YtnfkhknfpaamoaaGreatDoor
