/- Beats, walked: Plan. -/
import Derived.Test.YtnfkhknfpaamoaaGreatDoorMgX21f
import Derived.Test.YtnfkhknfpaamoaaGreatDoorRows
import Derived.Test.YtnfkhknfpaamoaaGreatDoorCards
import Derived.Test.YtnfkhknfpaamoaaGreatDoorTie
import Derived.ProofKit
import Derived.LaidMore
import Derived.OpenShut
import Derived.Stop.Joined
import Derived.SevenTiedAt
open Bool renaming and_eq_true->YBq,or_eq_false_iff->YBK
open Int renaming toNat_natCast->YBo
open Go.IntWalk renaming i64_in->YBn
open List renaming length_append->YBI
open Nat renaming lt_or_ge->YBB,reduceAdd->YBi,reduceEqDiff->YBj,reduceLeDiff->YBk
open Go.Proofs.Tryz renaming prog->YBm
set_option linter.all false
namespace Go.Proofs.YtnfkhknfpaamoaaGreatDoor
open Go Go.Vx
set_option maxRecDepth 100000
set_option maxHeartbeats 8000000
def v10:VF:=⟨138,[.tmp 10,.tmp 11],(ZR [u1 5 .box [.tm 0],u1 6 .box [.tm 1],u1 8 .box [.tm 3],u1 9 .box [.tm 4],u1 10 .mov [.cn .nil],Zi 11 0] (.seq (ZR [Zt 21 3 5,Zt 22 27 6,Zd 23 28 21 22,Zm 12 23] (ZR [Zm 24 12,Zq 25 .neq 24 0] (ZC 25 (ZR [Zm 26 12,u1 10 .mov [.cn .nil],Zm 11 26] .ret) .skip))) (.seq (ZR [Zf 27 1 8,Zq 28 .lss 27 0,Zm 29 28,Zh 30 29 false 1 9,u2 31 29 false (.cmp .gtr) [.tm 30,.cn (.int .i64 139)],u1 32 .or [.tm 29,.tm 31],Zm 33 32,Zh 34 33 false 1 8,Zh 35 33 false 1 9,u2 36 33 false (.cmp .geq) [.tm 34,.tm 35],u1 37 .or [.tm 33,.tm 36],Zm 38 37,Zh 39 38 false 1 9,Zh 40 38 false 1 8,u2 41 38 false (.ari .sub) [.tm 39,.tm 40],u2 42 38 false (.cmp .geq) [.tm 41,.cn (.int .i64 25)],u1 43 .or [.tm 38,.tm 42],Zm 44 43,Zg 45 44 false 2,Zh 46 44 false 1 8,u2 47 44 false (.cmp .lss) [.tm 45,.tm 46],u1 48 .or [.tm 44,.tm 47],Zm 49 48,Zg 50 49 false 2,Zh 51 49 false 1 9,u2 52 49 false (.cmp .gtr) [.tm 50,.tm 51],u1 53 .or [.tm 49,.tm 52]] (ZC 53 (ZR [u1 10 .mov [.cn .nil],Zi 11 2] .ret) .skip)) (ZR [u1 54 (.build [.nil,(.int .i64 0),(.int .i64 0),(.int .i64 0),(.int .i64 0),(.int .i64 0),(.int .i64 0),(.int .i64 0),(.int .i64 0),(.int .i64 0),(.int .i64 0),(.int .i64 0),(.int .i64 0),(.int .i64 0),(.int .i64 0),(.int .i64 0),(.int .i64 0),(.int .i64 0),(.int .i64 0),(.int .i64 0),(.int .i64 0),(.int .i64 0),(.int .i64 0),(.int .i64 0),(.int .i64 0),(.int .i64 0),(.int .i64 0),(.int .i64 0),(.int .i64 0),(.int .i64 0),(.int .i64 0),(.int .i64 0),(.int .i64 0),(.int .i64 0),(.int .i64 0),(.int .i64 0),(.int .i64 0),(.int .i64 0),(.int .i64 0),(.int .i64 0),(.int .i64 0),(.int .i64 0),(.int .i64 0),(.int .i64 0),(.int .i64 0),(.int .i64 0),(.int .i64 0),(.int .i64 0),(.int .i64 0),(.int .i64 0),(.int .i64 0),(.int .i64 0),(.int .i64 0),(.int .i64 0),(.int .i64 0),(.int .i64 0),(.int .i64 0),(.int .i64 0),(.int .i64 0),(.int .i64 0),(.int .i64 0),(.int .i64 0),(.int .i64 0),(.int .i64 0),(.int .i64 0),(.int .i64 0),(.int .i64 0),(.int .i64 0),(.int .i64 0),(.int .i64 0),(.int .i64 0),(.int .i64 0),(.int .i64 0),(.int .i64 0),(.int .i64 0),(.int .i64 0),(.int .i64 0),(.int .i64 0),(.int .i64 0),(.int .i64 0),(.int .i64 0),(.int .i64 0),(.int .i64 0),(.int .i64 0),(.int .i64 0),(.int .i64 0),(.int .i64 0),(.int .i64 0),(.int .i64 0),(.int .i64 0),(.int .i64 0),(.int .i64 0),(.int .i64 0),(.int .i64 0),(.int .i64 0),(.int .i64 0),(.int .i64 0),(.int .i64 0),(.int .i64 0),(.int .i64 0),(.int .i64 0),(.int .i64 0),(.int .i64 0),(.int .i64 0),(.int .i64 0),(.int .i64 0),(.int .i64 0),(.int .i64 0),(.int .i64 0),(.int .i64 0),(.int .i64 0),(.int .i64 0),(.int .i64 0),(.int .i64 0),(.int .i64 0),(.int .i64 0),(.int .i64 0),(.int .i64 0),(.int .i64 0),(.int .i64 0),(.int .i64 0),(.int .i64 0),(.int .i64 0),(.int .i64 0),(.int .i64 0),(.int .i64 0),(.int .i64 0),(.int .i64 0),(.int .i64 0),(.int .i64 0),(.int .i64 0),(.int .i64 0),(.int .i64 0),(.int .i64 0),(.int .i64 0),(.int .i64 0),(.int .i64 0),(.int .i64 0),(.int .i64 0),(.int .i64 0),(.int .i64 0),(.int .i64 0),(.int .i64 0),(.int .i64 0),(.int .i64 0),(.int .i64 0),(.int .i64 0),(.int .i64 0),(.int .i64 0),(.int .i64 0),(.int .i64 0),(.int .i64 0),(.int .i64 0),(.int .i64 0),(.int .i64 0),(.int .i64 0),(.int .i64 0),(.int .i64 0),(.int .i64 0),(.int .i64 0),(.int .i64 0),(.int .i64 0),(.int .i64 0),(.int .i64 0),(.int .i64 0),(.int .i64 0),(.int .i64 0),(.int .i64 0),(.int .i64 0),(.int .i64 0),(.int .i64 0),(.int .i64 0),(.int .i64 0),(.int .i64 0),(.int .i64 0),(.int .i64 0),(.int .i64 0),(.int .i64 0),(.int .i64 0),(.int .i64 0),(.int .i64 0),(.int .i64 0),(.int .i64 0),(.int .i64 0),(.int .i64 0),(.int .i64 0),(.int .i64 0),(.int .i64 0),(.int .i64 0),(.int .i64 0),(.int .i64 0),(.int .i64 0),(.int .i64 0),(.int .i64 0),(.int .i64 0),(.int .i64 0),(.int .i64 0),(.int .i64 0),(.int .i64 0),(.int .i64 0),(.int .i64 0),(.int .i64 0),(.int .i64 0),(.int .i64 0),(.int .i64 0),(.int .i64 0),(.int .i64 0),(.int .i64 0),(.int .i64 0),(.int .i64 0),(.int .i64 0),(.int .i64 0),(.int .i64 0),(.int .i64 0),(.int .i64 0),(.int .i64 0),(.int .i64 0),(.int .i64 0),(.int .i64 0),(.int .i64 0),(.int .i64 0),(.int .i64 0),(.int .i64 0),(.int .i64 0),(.int .i64 0),(.int .i64 0),(.int .i64 0),(.int .i64 0),(.int .i64 0),(.int .i64 0),(.int .i64 0),(.int .i64 0),(.int .i64 0),(.int .i64 0),(.int .i64 0),(.int .i64 0),(.int .i64 0),(.int .i64 0),(.int .i64 0),(.int .i64 0),(.int .i64 0),(.int .i64 0),(.int .i64 0),(.int .i64 0),(.int .i64 0),(.int .i64 0),(.int .i64 0),(.int .i64 0),(.int .i64 0),(.int .i64 0),(.int .i64 0),(.int .i64 0),(.int .i64 0),(.int .i64 0),(.int .i64 0),(.int .i64 0),(.int .i64 0),(.int .i64 0),(.int .i64 0),(.int .i64 0),(.int .i64 0),(.int .i64 0),(.int .i64 0),(.int .i64 0),(.int .i64 0),(.int .i64 0),(.int .i64 0),(.int .i64 0),(.int .i64 0),(.int .i64 0),(.int .i64 0),(.int .i64 0),(.int .i64 0),(.int .i64 0),(.int .i64 0),(.int .i64 0),(.int .i64 0),(.int .i64 0),(.int .i64 0),(.int .i64 0),(.int .i64 0)] []) [],u1 55 .box [.tm 54],u1 13 (.alloc [(.val (.pointer none))]) [],Zs 1 13 55] (.seq (.draw [] [Zv 57 1 13,Zw 58 27 6,w1 59 (.call 29) [.tm 58],Zu 56 59,ZE 60 0 56,ZE 61 1 56,w1 62 .nilCheck [.tm 57],Zy 63 0 62,ZS 1 63 60]) (.seq (ZR [Zf 64 1 8,Zm 14 64] (.block 0 (.loop (.seq (ZR [Zm 65 14,Zf 66 1 9,Zr 67 .leq 65 66] (ZC 67 .skip (.exit 0))) (.seq (.block 1 (.draw [] [Zv 71 1 13,Zu 72 14,Zw 73 3 5,Zw 74 27 6,Zu 75 14,w1 79 .nilCheck [.tm 71],Zy 80 1 79,w1 76 (.call 22) [.tm 73,.tm 74,.tm 75],Zu 70 76,ZE 77 0 70,ZE 78 1 70,w1 81 (.idxArr 140 2) [.tm 80,.tm 72],ZS 2 81 77])) (.region [Zm 68 14,Zp 69 68 1,Zm 14 69])))))) (ZR [u1 15 (.allocArr 140 1 [(.bool false),(.bool false),(.bool false),(.bool false),(.bool false),(.bool false),(.bool false),(.bool false),(.bool false),(.bool false),(.bool false),(.bool false),(.bool false),(.bool false),(.bool false),(.bool false),(.bool false),(.bool false),(.bool false),(.bool false),(.bool false),(.bool false),(.bool false),(.bool false),(.bool false),(.bool false),(.bool false),(.bool false),(.bool false),(.bool false),(.bool false),(.bool false),(.bool false),(.bool false),(.bool false),(.bool false),(.bool false),(.bool false),(.bool false),(.bool false),(.bool false),(.bool false),(.bool false),(.bool false),(.bool false),(.bool false),(.bool false),(.bool false),(.bool false),(.bool false),(.bool false),(.bool false),(.bool false),(.bool false),(.bool false),(.bool false),(.bool false),(.bool false),(.bool false),(.bool false),(.bool false),(.bool false),(.bool false),(.bool false),(.bool false),(.bool false),(.bool false),(.bool false),(.bool false),(.bool false),(.bool false),(.bool false),(.bool false),(.bool false),(.bool false),(.bool false),(.bool false),(.bool false),(.bool false),(.bool false),(.bool false),(.bool false),(.bool false),(.bool false),(.bool false),(.bool false),(.bool false),(.bool false),(.bool false),(.bool false),(.bool false),(.bool false),(.bool false),(.bool false),(.bool false),(.bool false),(.bool false),(.bool false),(.bool false),(.bool false),(.bool false),(.bool false),(.bool false),(.bool false),(.bool false),(.bool false),(.bool false),(.bool false),(.bool false),(.bool false),(.bool false),(.bool false),(.bool false),(.bool false),(.bool false),(.bool false),(.bool false),(.bool false),(.bool false),(.bool false),(.bool false),(.bool false),(.bool false),(.bool false),(.bool false),(.bool false),(.bool false),(.bool false),(.bool false),(.bool false),(.bool false),(.bool false),(.bool false),(.bool false),(.bool false),(.bool false),(.bool false),(.bool false),(.bool false),(.bool false)]) []] (ZR [u1 16 (.allocArr 140 7 [(.int .i64 0),(.int .i64 0),(.int .i64 0),(.int .i64 0),(.int .i64 0),(.int .i64 0),(.int .i64 0),(.int .i64 0),(.int .i64 0),(.int .i64 0),(.int .i64 0),(.int .i64 0),(.int .i64 0),(.int .i64 0),(.int .i64 0),(.int .i64 0),(.int .i64 0),(.int .i64 0),(.int .i64 0),(.int .i64 0),(.int .i64 0),(.int .i64 0),(.int .i64 0),(.int .i64 0),(.int .i64 0),(.int .i64 0),(.int .i64 0),(.int .i64 0),(.int .i64 0),(.int .i64 0),(.int .i64 0),(.int .i64 0),(.int .i64 0),(.int .i64 0),(.int .i64 0),(.int .i64 0),(.int .i64 0),(.int .i64 0),(.int .i64 0),(.int .i64 0),(.int .i64 0),(.int .i64 0),(.int .i64 0),(.int .i64 0),(.int .i64 0),(.int .i64 0),(.int .i64 0),(.int .i64 0),(.int .i64 0),(.int .i64 0),(.int .i64 0),(.int .i64 0),(.int .i64 0),(.int .i64 0),(.int .i64 0),(.int .i64 0),(.int .i64 0),(.int .i64 0),(.int .i64 0),(.int .i64 0),(.int .i64 0),(.int .i64 0),(.int .i64 0),(.int .i64 0),(.int .i64 0),(.int .i64 0),(.int .i64 0),(.int .i64 0),(.int .i64 0),(.int .i64 0),(.int .i64 0),(.int .i64 0),(.int .i64 0),(.int .i64 0),(.int .i64 0),(.int .i64 0),(.int .i64 0),(.int .i64 0),(.int .i64 0),(.int .i64 0),(.int .i64 0),(.int .i64 0),(.int .i64 0),(.int .i64 0),(.int .i64 0),(.int .i64 0),(.int .i64 0),(.int .i64 0),(.int .i64 0),(.int .i64 0),(.int .i64 0),(.int .i64 0),(.int .i64 0),(.int .i64 0),(.int .i64 0),(.int .i64 0),(.int .i64 0),(.int .i64 0),(.int .i64 0),(.int .i64 0),(.int .i64 0),(.int .i64 0),(.int .i64 0),(.int .i64 0),(.int .i64 0),(.int .i64 0),(.int .i64 0),(.int .i64 0),(.int .i64 0),(.int .i64 0),(.int .i64 0),(.int .i64 0),(.int .i64 0),(.int .i64 0),(.int .i64 0),(.int .i64 0),(.int .i64 0),(.int .i64 0),(.int .i64 0),(.int .i64 0),(.int .i64 0),(.int .i64 0),(.int .i64 0),(.int .i64 0),(.int .i64 0),(.int .i64 0),(.int .i64 0),(.int .i64 0),(.int .i64 0),(.int .i64 0),(.int .i64 0),(.int .i64 0),(.int .i64 0),(.int .i64 0),(.int .i64 0),(.int .i64 0),(.int .i64 0),(.int .i64 0),(.int .i64 0),(.int .i64 0),(.int .i64 0),(.int .i64 0),(.int .i64 0),(.int .i64 0),(.int .i64 0),(.int .i64 0),(.int .i64 0),(.int .i64 0),(.int .i64 0),(.int .i64 0),(.int .i64 0),(.int .i64 0),(.int .i64 0),(.int .i64 0),(.int .i64 0),(.int .i64 0),(.int .i64 0),(.int .i64 0),(.int .i64 0),(.int .i64 0),(.int .i64 0),(.int .i64 0),(.int .i64 0),(.int .i64 0),(.int .i64 0),(.int .i64 0),(.int .i64 0),(.int .i64 0),(.int .i64 0),(.int .i64 0),(.int .i64 0),(.int .i64 0),(.int .i64 0),(.int .i64 0),(.int .i64 0),(.int .i64 0),(.int .i64 0),(.int .i64 0),(.int .i64 0),(.int .i64 0),(.int .i64 0),(.int .i64 0),(.int .i64 0),(.int .i64 0),(.int .i64 0),(.int .i64 0),(.int .i64 0),(.int .i64 0),(.int .i64 0),(.int .i64 0),(.int .i64 0),(.int .i64 0),(.int .i64 0),(.int .i64 0),(.int .i64 0),(.int .i64 0),(.int .i64 0),(.int .i64 0),(.int .i64 0),(.int .i64 0),(.int .i64 0),(.int .i64 0),(.int .i64 0),(.int .i64 0),(.int .i64 0),(.int .i64 0),(.int .i64 0),(.int .i64 0),(.int .i64 0),(.int .i64 0),(.int .i64 0),(.int .i64 0),(.int .i64 0),(.int .i64 0),(.int .i64 0),(.int .i64 0),(.int .i64 0),(.int .i64 0),(.int .i64 0),(.int .i64 0),(.int .i64 0),(.int .i64 0),(.int .i64 0),(.int .i64 0),(.int .i64 0),(.int .i64 0),(.int .i64 0),(.int .i64 0),(.int .i64 0),(.int .i64 0),(.int .i64 0),(.int .i64 0),(.int .i64 0),(.int .i64 0),(.int .i64 0),(.int .i64 0),(.int .i64 0),(.int .i64 0),(.int .i64 0),(.int .i64 0),(.int .i64 0),(.int .i64 0),(.int .i64 0),(.int .i64 0),(.int .i64 0),(.int .i64 0),(.int .i64 0),(.int .i64 0),(.int .i64 0),(.int .i64 0),(.int .i64 0),(.int .i64 0),(.int .i64 0),(.int .i64 0),(.int .i64 0),(.int .i64 0),(.int .i64 0),(.int .i64 0),(.int .i64 0),(.int .i64 0),(.int .i64 0),(.int .i64 0),(.int .i64 0),(.int .i64 0),(.int .i64 0),(.int .i64 0),(.int .i64 0),(.int .i64 0),(.int .i64 0),(.int .i64 0),(.int .i64 0),(.int .i64 0),(.int .i64 0),(.int .i64 0),(.int .i64 0),(.int .i64 0),(.int .i64 0),(.int .i64 0),(.int .i64 0),(.int .i64 0),(.int .i64 0),(.int .i64 0),(.int .i64 0),(.int .i64 0),(.int .i64 0),(.int .i64 0),(.int .i64 0),(.int .i64 0),(.int .i64 0),(.int .i64 0),(.int .i64 0),(.int .i64 0),(.int .i64 0),(.int .i64 0),(.int .i64 0),(.int .i64 0),(.int .i64 0),(.int .i64 0),(.int .i64 0),(.int .i64 0),(.int .i64 0),(.int .i64 0),(.int .i64 0),(.int .i64 0),(.int .i64 0),(.int .i64 0),(.int .i64 0),(.int .i64 0),(.int .i64 0),(.int .i64 0),(.int .i64 0),(.int .i64 0),(.int .i64 0),(.int .i64 0),(.int .i64 0),(.int .i64 0),(.int .i64 0),(.int .i64 0),(.int .i64 0),(.int .i64 0),(.int .i64 0),(.int .i64 0),(.int .i64 0),(.int .i64 0),(.int .i64 0),(.int .i64 0),(.int .i64 0),(.int .i64 0),(.int .i64 0),(.int .i64 0),(.int .i64 0),(.int .i64 0),(.int .i64 0),(.int .i64 0),(.int .i64 0),(.int .i64 0),(.int .i64 0),(.int .i64 0),(.int .i64 0),(.int .i64 0),(.int .i64 0),(.int .i64 0),(.int .i64 0),(.int .i64 0),(.int .i64 0),(.int .i64 0),(.int .i64 0),(.int .i64 0),(.int .i64 0),(.int .i64 0),(.int .i64 0),(.int .i64 0),(.int .i64 0),(.int .i64 0),(.int .i64 0),(.int .i64 0),(.int .i64 0),(.int .i64 0),(.int .i64 0),(.int .i64 0),(.int .i64 0),(.int .i64 0),(.int .i64 0),(.int .i64 0),(.int .i64 0),(.int .i64 0),(.int .i64 0),(.int .i64 0),(.int .i64 0),(.int .i64 0),(.int .i64 0),(.int .i64 0),(.int .i64 0),(.int .i64 0),(.int .i64 0),(.int .i64 0),(.int .i64 0),(.int .i64 0),(.int .i64 0),(.int .i64 0),(.int .i64 0),(.int .i64 0),(.int .i64 0),(.int .i64 0),(.int .i64 0),(.int .i64 0),(.int .i64 0),(.int .i64 0),(.int .i64 0),(.int .i64 0),(.int .i64 0),(.int .i64 0),(.int .i64 0),(.int .i64 0),(.int .i64 0),(.int .i64 0),(.int .i64 0),(.int .i64 0),(.int .i64 0),(.int .i64 0),(.int .i64 0),(.int .i64 0),(.int .i64 0),(.int .i64 0),(.int .i64 0),(.int .i64 0),(.int .i64 0),(.int .i64 0),(.int .i64 0),(.int .i64 0),(.int .i64 0),(.int .i64 0),(.int .i64 0),(.int .i64 0),(.int .i64 0),(.int .i64 0),(.int .i64 0),(.int .i64 0),(.int .i64 0),(.int .i64 0),(.int .i64 0),(.int .i64 0),(.int .i64 0),(.int .i64 0),(.int .i64 0),(.int .i64 0),(.int .i64 0),(.int .i64 0),(.int .i64 0),(.int .i64 0),(.int .i64 0),(.int .i64 0),(.int .i64 0),(.int .i64 0),(.int .i64 0),(.int .i64 0),(.int .i64 0),(.int .i64 0),(.int .i64 0),(.int .i64 0),(.int .i64 0),(.int .i64 0),(.int .i64 0),(.int .i64 0),(.int .i64 0),(.int .i64 0),(.int .i64 0),(.int .i64 0),(.int .i64 0),(.int .i64 0),(.int .i64 0),(.int .i64 0),(.int .i64 0),(.int .i64 0),(.int .i64 0),(.int .i64 0),(.int .i64 0),(.int .i64 0),(.int .i64 0),(.int .i64 0),(.int .i64 0),(.int .i64 0),(.int .i64 0),(.int .i64 0),(.int .i64 0),(.int .i64 0),(.int .i64 0),(.int .i64 0),(.int .i64 0),(.int .i64 0),(.int .i64 0),(.int .i64 0),(.int .i64 0),(.int .i64 0),(.int .i64 0),(.int .i64 0),(.int .i64 0),(.int .i64 0),(.int .i64 0),(.int .i64 0),(.int .i64 0),(.int .i64 0),(.int .i64 0),(.int .i64 0),(.int .i64 0),(.int .i64 0),(.int .i64 0),(.int .i64 0),(.int .i64 0),(.int .i64 0),(.int .i64 0),(.int .i64 0),(.int .i64 0),(.int .i64 0),(.int .i64 0),(.int .i64 0),(.int .i64 0),(.int .i64 0),(.int .i64 0),(.int .i64 0),(.int .i64 0),(.int .i64 0),(.int .i64 0),(.int .i64 0),(.int .i64 0),(.int .i64 0),(.int .i64 0),(.int .i64 0),(.int .i64 0),(.int .i64 0),(.int .i64 0),(.int .i64 0),(.int .i64 0),(.int .i64 0),(.int .i64 0),(.int .i64 0),(.int .i64 0),(.int .i64 0),(.int .i64 0),(.int .i64 0),(.int .i64 0),(.int .i64 0),(.int .i64 0),(.int .i64 0),(.int .i64 0),(.int .i64 0),(.int .i64 0),(.int .i64 0),(.int .i64 0),(.int .i64 0),(.int .i64 0),(.int .i64 0),(.int .i64 0),(.int .i64 0),(.int .i64 0),(.int .i64 0),(.int .i64 0),(.int .i64 0),(.int .i64 0),(.int .i64 0),(.int .i64 0),(.int .i64 0),(.int .i64 0),(.int .i64 0),(.int .i64 0),(.int .i64 0),(.int .i64 0),(.int .i64 0),(.int .i64 0),(.int .i64 0),(.int .i64 0),(.int .i64 0),(.int .i64 0),(.int .i64 0),(.int .i64 0),(.int .i64 0),(.int .i64 0),(.int .i64 0),(.int .i64 0),(.int .i64 0),(.int .i64 0),(.int .i64 0),(.int .i64 0),(.int .i64 0),(.int .i64 0),(.int .i64 0),(.int .i64 0),(.int .i64 0),(.int .i64 0),(.int .i64 0),(.int .i64 0),(.int .i64 0),(.int .i64 0),(.int .i64 0),(.int .i64 0),(.int .i64 0),(.int .i64 0),(.int .i64 0),(.int .i64 0),(.int .i64 0),(.int .i64 0),(.int .i64 0),(.int .i64 0),(.int .i64 0),(.int .i64 0),(.int .i64 0),(.int .i64 0),(.int .i64 0),(.int .i64 0),(.int .i64 0),(.int .i64 0),(.int .i64 0),(.int .i64 0),(.int .i64 0),(.int .i64 0),(.int .i64 0),(.int .i64 0),(.int .i64 0),(.int .i64 0),(.int .i64 0),(.int .i64 0),(.int .i64 0),(.int .i64 0),(.int .i64 0),(.int .i64 0),(.int .i64 0),(.int .i64 0),(.int .i64 0),(.int .i64 0),(.int .i64 0),(.int .i64 0),(.int .i64 0),(.int .i64 0),(.int .i64 0),(.int .i64 0),(.int .i64 0),(.int .i64 0),(.int .i64 0),(.int .i64 0),(.int .i64 0),(.int .i64 0),(.int .i64 0),(.int .i64 0),(.int .i64 0),(.int .i64 0),(.int .i64 0),(.int .i64 0),(.int .i64 0),(.int .i64 0),(.int .i64 0),(.int .i64 0),(.int .i64 0),(.int .i64 0),(.int .i64 0),(.int .i64 0),(.int .i64 0),(.int .i64 0),(.int .i64 0),(.int .i64 0),(.int .i64 0),(.int .i64 0),(.int .i64 0),(.int .i64 0),(.int .i64 0),(.int .i64 0),(.int .i64 0),(.int .i64 0),(.int .i64 0),(.int .i64 0),(.int .i64 0),(.int .i64 0),(.int .i64 0),(.int .i64 0),(.int .i64 0),(.int .i64 0),(.int .i64 0),(.int .i64 0),(.int .i64 0),(.int .i64 0),(.int .i64 0),(.int .i64 0),(.int .i64 0),(.int .i64 0),(.int .i64 0),(.int .i64 0),(.int .i64 0),(.int .i64 0),(.int .i64 0),(.int .i64 0),(.int .i64 0),(.int .i64 0),(.int .i64 0),(.int .i64 0),(.int .i64 0),(.int .i64 0),(.int .i64 0),(.int .i64 0),(.int .i64 0),(.int .i64 0),(.int .i64 0),(.int .i64 0),(.int .i64 0),(.int .i64 0),(.int .i64 0),(.int .i64 0),(.int .i64 0),(.int .i64 0),(.int .i64 0),(.int .i64 0),(.int .i64 0),(.int .i64 0),(.int .i64 0),(.int .i64 0),(.int .i64 0),(.int .i64 0),(.int .i64 0),(.int .i64 0),(.int .i64 0),(.int .i64 0),(.int .i64 0),(.int .i64 0),(.int .i64 0),(.int .i64 0),(.int .i64 0),(.int .i64 0),(.int .i64 0),(.int .i64 0),(.int .i64 0),(.int .i64 0),(.int .i64 0),(.int .i64 0),(.int .i64 0),(.int .i64 0),(.int .i64 0),(.int .i64 0),(.int .i64 0),(.int .i64 0),(.int .i64 0),(.int .i64 0),(.int .i64 0),(.int .i64 0),(.int .i64 0),(.int .i64 0),(.int .i64 0),(.int .i64 0),(.int .i64 0),(.int .i64 0),(.int .i64 0),(.int .i64 0),(.int .i64 0),(.int .i64 0),(.int .i64 0),(.int .i64 0),(.int .i64 0),(.int .i64 0),(.int .i64 0),(.int .i64 0),(.int .i64 0),(.int .i64 0),(.int .i64 0),(.int .i64 0),(.int .i64 0),(.int .i64 0),(.int .i64 0),(.int .i64 0),(.int .i64 0),(.int .i64 0),(.int .i64 0),(.int .i64 0),(.int .i64 0),(.int .i64 0),(.int .i64 0),(.int .i64 0),(.int .i64 0),(.int .i64 0),(.int .i64 0),(.int .i64 0),(.int .i64 0),(.int .i64 0),(.int .i64 0),(.int .i64 0),(.int .i64 0),(.int .i64 0),(.int .i64 0),(.int .i64 0),(.int .i64 0),(.int .i64 0),(.int .i64 0),(.int .i64 0),(.int .i64 0),(.int .i64 0),(.int .i64 0),(.int .i64 0),(.int .i64 0),(.int .i64 0),(.int .i64 0),(.int .i64 0),(.int .i64 0),(.int .i64 0),(.int .i64 0),(.int .i64 0),(.int .i64 0),(.int .i64 0),(.int .i64 0),(.int .i64 0),(.int .i64 0),(.int .i64 0),(.int .i64 0),(.int .i64 0),(.int .i64 0),(.int .i64 0),(.int .i64 0),(.int .i64 0),(.int .i64 0),(.int .i64 0),(.int .i64 0),(.int .i64 0),(.int .i64 0),(.int .i64 0),(.int .i64 0),(.int .i64 0),(.int .i64 0),(.int .i64 0),(.int .i64 0),(.int .i64 0),(.int .i64 0),(.int .i64 0),(.int .i64 0),(.int .i64 0),(.int .i64 0),(.int .i64 0),(.int .i64 0),(.int .i64 0),(.int .i64 0),(.int .i64 0),(.int .i64 0),(.int .i64 0),(.int .i64 0),(.int .i64 0),(.int .i64 0),(.int .i64 0),(.int .i64 0),(.int .i64 0),(.int .i64 0),(.int .i64 0),(.int .i64 0),(.int .i64 0),(.int .i64 0),(.int .i64 0),(.int .i64 0),(.int .i64 0),(.int .i64 0),(.int .i64 0),(.int .i64 0),(.int .i64 0),(.int .i64 0),(.int .i64 0),(.int .i64 0),(.int .i64 0),(.int .i64 0),(.int .i64 0),(.int .i64 0),(.int .i64 0),(.int .i64 0),(.int .i64 0),(.int .i64 0),(.int .i64 0),(.int .i64 0),(.int .i64 0),(.int .i64 0),(.int .i64 0),(.int .i64 0),(.int .i64 0),(.int .i64 0),(.int .i64 0),(.int .i64 0),(.int .i64 0),(.int .i64 0),(.int .i64 0),(.int .i64 0),(.int .i64 0),(.int .i64 0),(.int .i64 0),(.int .i64 0),(.int .i64 0),(.int .i64 0),(.int .i64 0),(.int .i64 0),(.int .i64 0),(.int .i64 0),(.int .i64 0),(.int .i64 0),(.int .i64 0),(.int .i64 0),(.int .i64 0),(.int .i64 0),(.int .i64 0),(.int .i64 0),(.int .i64 0),(.int .i64 0),(.int .i64 0),(.int .i64 0),(.int .i64 0),(.int .i64 0),(.int .i64 0),(.int .i64 0),(.int .i64 0),(.int .i64 0),(.int .i64 0),(.int .i64 0),(.int .i64 0),(.int .i64 0),(.int .i64 0),(.int .i64 0),(.int .i64 0),(.int .i64 0),(.int .i64 0),(.int .i64 0),(.int .i64 0),(.int .i64 0),(.int .i64 0),(.int .i64 0),(.int .i64 0),(.int .i64 0),(.int .i64 0),(.int .i64 0),(.int .i64 0),(.int .i64 0),(.int .i64 0),(.int .i64 0),(.int .i64 0),(.int .i64 0),(.int .i64 0),(.int .i64 0),(.int .i64 0),(.int .i64 0),(.int .i64 0),(.int .i64 0),(.int .i64 0),(.int .i64 0),(.int .i64 0),(.int .i64 0),(.int .i64 0),(.int .i64 0),(.int .i64 0),(.int .i64 0),(.int .i64 0),(.int .i64 0),(.int .i64 0),(.int .i64 0),(.int .i64 0),(.int .i64 0),(.int .i64 0),(.int .i64 0),(.int .i64 0),(.int .i64 0),(.int .i64 0),(.int .i64 0),(.int .i64 0),(.int .i64 0),(.int .i64 0),(.int .i64 0),(.int .i64 0),(.int .i64 0),(.int .i64 0),(.int .i64 0),(.int .i64 0),(.int .i64 0),(.int .i64 0),(.int .i64 0),(.int .i64 0),(.int .i64 0),(.int .i64 0),(.int .i64 0),(.int .i64 0),(.int .i64 0),(.int .i64 0),(.int .i64 0),(.int .i64 0),(.int .i64 0),(.int .i64 0),(.int .i64 0),(.int .i64 0),(.int .i64 0),(.int .i64 0),(.int .i64 0),(.int .i64 0),(.int .i64 0),(.int .i64 0),(.int .i64 0),(.int .i64 0),(.int .i64 0),(.int .i64 0),(.int .i64 0),(.int .i64 0),(.int .i64 0),(.int .i64 0),(.int .i64 0),(.int .i64 0),(.int .i64 0)]) []] (ZR [u1 17 .mov [.cn .nil]] (ZR [u1 82 (.mkfn (.func 30) 0) [.tm 15,.tm 8,.tm 9,.tm 13,.tm 16],Zm 18 82] (ZR [Zm 83 18,Zm 84 2,u1 85 .callv [.tm 83,.tm 84]] (.seq (ZR [Zf 86 1 9,Zf 87 1 8,Zo 88 .sub 86 87,Zi 89 0] (.block 2 (.loop (ZR [Zr 90 .lss 89 88] (.seq (ZC 90 .skip (.exit 2)) (.seq (.block 3 (ZR [u1 91 (.build [(.int .i64 0),(.int .i64 0),(.int .i64 0),(.int .i64 0),(.int .i64 0),(.int .i64 0),(.int .i64 0)] []) [],u1 19 (.alloc [(.int .i64 0),(.int .i64 0),(.int .i64 0),(.int .i64 0),(.int .i64 0),(.int .i64 0),(.int .i64 0)]) [],Zs 7 19 91] (.seq (ZR [Zf 92 1 8,Zm 20 92] (.block 4 (.loop (.seq (ZR [Zm 93 20,Zf 94 1 9,Zr 95 .leq 93 94] (ZC 95 .skip (.exit 4))) (.seq (.block 5 (.seq (.draw [] [Zu 98 20,w1 99 (.idxArr 140 1) [.tm 15,.tm 98],Zv 100 1 99,w1 101 .not [.tm 100],Zu 102 101,⟨Zg 103 102 true 20,[]⟩,⟨u2 104 102 true (.idxArr 140 7) [.tm 16,.tm 103],[]⟩,⟨Zj 105 102 true 2 104,[]⟩,⟨Zh 106 102 true 1 105,[]⟩,⟨u2 107 102 true (.cmp .gtr) [.tm 106,.cn (.int .i64 0)],[]⟩,w1 108 .and [.tm 102,.tm 107],Zu 109 108,⟨Zj 110 109 true 2 19,[]⟩,⟨Zh 111 109 true 1 110,[]⟩,⟨u2 112 109 true (.cmp .eql) [.tm 111,.cn (.int .i64 0)],[]⟩,⟨Zg 113 109 true 112,[]⟩,⟨Zg 114 113 false 20,[]⟩,⟨u2 115 113 false (.idxArr 140 7) [.tm 16,.tm 114],[]⟩,⟨u2 116 113 false (.load true 7) [.tm 115],[]⟩,⟨u2 117 113 false (.load true 7) [.tm 19],[]⟩,⟨u2 118 113 false (.call 32) [.tm 116,.tm 117],[]⟩,⟨u2 119 113 false (.cmp .lss) [.tm 118,.cn (.int .i64 0)],[]⟩,⟨u2 120 109 true .or [.tm 113,.tm 119],[]⟩,w1 121 .and [.tm 109,.tm 120]]) (ZC 121 (.region [Zm 122 20,u1 123 (.idxArr 140 7) [.tm 16,.tm 122],Zt 124 7 123,Zs 7 19 124]) .skip))) (.region [Zm 96 20,Zp 97 96 1,Zm 20 97])))))) (.seq (ZR [Za 125 2 19,Zf 126 1 125,Zq 127 .eql 126 0] (ZC 127 (ZR [u1 10 .mov [.cn .nil],Zi 11 4] .ret) .skip)) (ZR [Zm 128 17,Zt 129 7 19,u1 130 (.buildSlice 7 1 [(.int .i64 0),(.int .i64 0),(.int .i64 0),(.int .i64 0),(.int .i64 0),(.int .i64 0),(.int .i64 0)] [(0,7)]) [.tm 129],u1 131 (.append 7 56 [(.int .i64 0),(.int .i64 0),(.int .i64 0),(.int .i64 0),(.int .i64 0),(.int .i64 0),(.int .i64 0)]) [.tm 128,.tm 130],Zm 17 131] (.region [Zm 132 18,Za 133 1 19,Zf 134 1 133,u1 135 .callv [.tm 132,.tm 134]])))))) (.region [Zp 136 89 1,Zm 89 136]))))))) (ZR [Zm 137 17,Zm 10 137,Zi 11 0] .ret)))))))))))))⟩
theorem Yz7:Yg YBm Tryz.f10=some v10:=by kernel_rfl
def v30:VF:=⟨56,[],(ZR [Zm 10 0,u1 11 (.idxArr 140 1) [.tm 1,.tm 10],u0 (.store 1) [.tm 11,.cn (.bool true)]] (ZR [Zf 12 1 2,Zm 13 0,u1 14 (.ari .sub) [.tm 13,.cn (.int .i64 12)],u1 15 .max [.tm 12,.tm 14],Zm 7 15] (.block 0 (.loop (.seq (ZR [Zm 16 7,Zf 17 1 3,Zm 18 0,Zp 19 18 12,u1 20 .min [.tm 17,.tm 19],Zr 21 .leq 16 20] (ZC 21 .skip (.exit 0))) (.seq (.block 1 (ZR [Zf 25 1 4,Zm 26 0,Zm 27 7,u1 28 (.call 31) [.tm 25,.tm 26,.tm 27],Zm 24 28,Ze 29 0 24,Ze 30 1 24,u1 8 (.alloc [(.int .i64 0),(.int .i64 0),(.int .i64 0),(.int .i64 0),(.int .i64 0),(.int .i64 0),(.int .i64 0)]) [],Zs 7 8 29,Zm 9 30] (.seq (.draw [] [Zu 31 9,Zu 32 31,⟨Zg 33 32 true 7,[]⟩,⟨u2 34 32 true (.idxArr 140 1) [.tm 1,.tm 33],[]⟩,⟨Zh 35 32 true 1 34,[]⟩,⟨u2 36 32 true .not [.tm 35],[]⟩,w1 37 .and [.tm 32,.tm 36],Zu 38 37,⟨Zg 39 38 true 7,[]⟩,⟨u2 40 38 true (.idxArr 140 7) [.tm 5,.tm 39],[]⟩,⟨Zj 41 38 true 2 40,[]⟩,⟨Zh 42 38 true 1 41,[]⟩,⟨u2 43 38 true (.cmp .eql) [.tm 42,.cn (.int .i64 0)],[]⟩,⟨Zg 44 38 true 43,[]⟩,⟨u2 45 44 false (.load true 7) [.tm 8],[]⟩,⟨Zg 46 44 false 7,[]⟩,⟨u2 47 44 false (.idxArr 140 7) [.tm 5,.tm 46],[]⟩,⟨u2 48 44 false (.load true 7) [.tm 47],[]⟩,⟨u2 49 44 false (.call 32) [.tm 45,.tm 48],[]⟩,⟨u2 50 44 false (.cmp .lss) [.tm 49,.cn (.int .i64 0)],[]⟩,⟨u2 51 38 true .or [.tm 44,.tm 50],[]⟩,w1 52 .and [.tm 38,.tm 51]]) (ZC 52 (.region [Zm 53 7,Zt 54 7 8,u1 55 (.idxArr 140 7) [.tm 5,.tm 53],Zs 7 55 54]) .skip)))) (.region [Zm 22 7,Zp 23 22 1,Zm 7 23])))))))⟩
theorem YAh:Yg YBm Tryz.f30=some v30:=by kernel_rfl
def setB(K:Nat->Bool)(i:Nat)(b:Bool):Nat->Bool:=fun k=>if k=i then b else K k
def setM(M:Nat->Iv)(i:Nat)(x:Iv):Nat->Iv:=fun k=>if k=i then x else M k
structure Pln where
 K:Nat->Bool
 B:Nat->Stp
def YgI(L:Nat->Rt)(M:Nat->Iv)(K:Nat->Bool)(B:Nat->Stp)(note n:Nat):Bool:=
 (stpF L M note n).2&& !K n&&(decide ((B n).p=0) || decide (befF (stpF L M note n).1 (B n)<0))
def lrnB(L:Nat->Rt)(M:Nat->Iv)(low high:Nat)(K:Nat->Bool)(B:Nat->Stp)(note:Nat):Nat->Stp:=
 fun n=>if low<=n/\n<=high/\note<=n+12/\n<=note+12/\YgI L M K B note n=true then(stpF L M note n).1 else B n
def lrn(L:Nat->Rt)(M:Nat->Iv)(low high:Nat)(s:Pln)(note:Nat):Pln:=⟨setB s.K note true,lrnB L M low high (setB s.K note true) s.B note⟩
def pckS(s:Pln)(low:Nat):Nat->Stp
 |0=>YkH
 |i+1=>if(!s.K (low+i)&&decide (0<(s.B (low+i)).p)&&(decide ((pckS s low i).p=0) || decide (befF (s.B (low+i)) (pckS s low i)<0)))=true then s.B (low+i)else pckS s low i
def plnL(L:Nat->Rt)(M:Nat->Iv)(low high:Nat)(s:Pln):Nat->Option (Pln×List Stp)
 |0=>some (s,[])
 |j+1=>match plnL L M low high s j with
   |none=>none
   |some (t,out)=>if(pckS t low (high+1-low)).p=0 then none else some (lrn L M low high t (pckS t low (high+1-low)).nw.toNat,out++[pckS t low (high+1-low)])
def Yod(fr low high:Int):Bool:=decide (low<0) || decide (139<high) || decide (high<=low) || decide (25<=high-low) || decide (fr<low) || decide (high<fr)
def miT(a t0 t:Int)(T:Tm)(low high:Nat):Nat->Iv:=fun n=>if low<=n/\n<=high then micF a t0 t T n else(0,0)
def plnF(L:Nat->Rt)(M:Nat->Iv)(fr low high:Nat):List Stp×Int:=
 match plnL L M low high (lrn L M low high ⟨fun _=>false,fun _=>YkH⟩ fr) (high-low)with
 |none=>([],4)
 |some (_,out)=>(out,0)
def Yek(a t0 t:Int)(T:Tm)(fr low high:Int):List Stp×Int:=
 if rdyF a t0 t T≠0 then([],rdyF a t0 t T)else if Yod fr low high=true then([],2)
 else plnF (Ycz T) (miT a t0 t T low.toNat high.toNat) fr.toNat low.toNat high.toNat
def planC:Ctr:={ alias:=false,of:=fun l=>match l with
 | [.agg [.int .i64 a,.int .i64 t0,.int .i64 t],.agg cs,.int .i64 fr,.int .i64 low,.int .i64 high]=> .ex Tm fun T=> .pre (cs=encT T/\T.nm.size<=9223372036854775807)
     (.all Bool fun z=> .fin (.tup [.vs true z (Yek a t0 t T fr low high).1.length 7 (fun k=>encS ((Yek a t0 t T fr low high).1.getD k default)),.int .i64 (Yek a t0 t T fr low high).2]) [])
 |_=>noC}
theorem YkN{k:SV->List HO->Prop}{al:Bool}{hp:List HO}{e:Int}{g:Nat->List SV}(h:k (.tup [.vs true true 0 7 g,.int .i64 e]) [])(hf:Yk (.vs true true 0 7 g)):Yw al k (.tup [.nil,.int .i64 e]) hp:=
 YC h ⟨⟨rfl,rfl⟩,⟨rfl,rfl⟩,trivial⟩ (fun _=>⟨hf,trivial,trivial⟩)
theorem rdy_0{a t0 t:Int}{T:Tm}(h:rdyF a t0 t T=0):chkS a t0 t=0/\YbM T=0:=by
 have h1:chkS a t0 t=0:=by
   by_cases h0:chkS a t0 t=0
   . exact h0
   . rw[rdyF,orF,if_pos h0]at h;exact absurd h h0
 refine⟨h1,?_⟩
 rw[rdyF,orF,if_neg (fun hh=>hh h1),orF]at h
 by_cases h0:YbM T=0
 . exact h0
 . rw[if_pos h0]at h;exact absurd h h0
theorem YtG{fr low high:Int}(h:Yod fr low high=false):0<=low/\high<=139/\low<high/\high-low<25/\low<=fr/\fr<=high:=by
 simp only[Yod,YBK,decide_eq_false_iff_not]at h;omega
theorem YtH(fr low high:Int):(decide (low<0) || decide (139<high) || decide (high<=low) || decide (25<=IntKind.i64.wrap (high-low)) || decide (fr<low) || decide (high<fr))=Yod fr low high:=by
 unfold Yod
 by_cases h1:low<0
 . rw[decide_eq_true h1];simp
 . by_cases h2:139<high
   . rw[decide_eq_true h2];simp
   . by_cases h3:high<=low
     . rw[decide_eq_true h3];simp
     . rw[YBn (high-low) (by omega)]
theorem Ygn:∀(a b:List SV)(k:Nat)(v:List SV),k+lenL v<=lenL a->Yr (a++b) k v=Yr a k v++b
 | [],b,k,v,h=>by
   have h:k+lenL v<=0:=h
   obtain rfl:k=0:=by omega
   cases v with
   |nil=>cases b <;> rfl
   |cons x v=>simp [lenL]at h
 |x::a,b,0,[],_=>rfl
 |x::a,b,0,y::v,h=>by
   show y::Yr (a++b) 0 v=y::(Yr a 0 v++b)
   rw[Ygn a b 0 v (by simp [lenL]at h⊢;omega)]
 |x::a,b,k+1,v,h=>by
   have e1:Yr ((x::a)++b) (k+1) v=x::Yr (a++b) k v:=by cases v <;> rfl
   have e2:Yr (x::a) (k+1) v=x::Yr a k v:=by cases v <;> rfl
   rw[e1,e2,Ygn a b k v (by simp [lenL]at h;omega)]
   rfl
theorem Yky:∀(a b:List SV)(v:List SV),v≠ []->Yr (a++b) (lenL a) v=a++Yr b 0 v
 | [],b,v,_=>rfl
 |x::a,b,v,h=>by
   have e1:Yr ((x::a)++b) (lenL (x::a)) v=x::Yr (a++b) (lenL a) v:=by cases v <;> rfl
   rw[e1,Yky a b v h]
   rfl
theorem YfW{M M':Nat->Iv}:∀{n:Nat},(∀k,k<n->M k=M' k)->Yam M n=Yam M' n
 |0,_=>rfl
 |n+1,h=>by rw[Yam,Yam,YfW fun k hk=>h k (by omega),h n (by omega)]
theorem YjN(M:Nat->Iv){i:Nat}(x y:Int):∀{n:Nat},i<n->Yr (Yam M n) (i*2) [.int .i64 x,.int .i64 y]=Yam (setM M i (x,y)) n
 |n+1,h=>by
   rw[Yam,Yam]
   rcases YBB i n with h1|h1
   . rw[Ygn _ _ _ _ (by rw[Yap];simp [lenL];omega),YjN M x y h1,show setM M i (x,y) n=M n from if_neg (by omega)]
   . obtain rfl:i=n:=by omega
     rw[show i*2=lenL (Yam M i)by rw[Yap];omega,Yky _ _ _ (by simp),show setM M i (x,y) i=(x,y)from if_pos rfl,YfW (M':=setM M i (x,y)) fun k hk=>(if_neg (by omega)).symm]
     rfl
theorem YoP(v:SV)(M:Nat->Iv){i n:Nat}(h:i<n)(x y:Int):Yr (v::Yam M n) (1+idxN (i:Int) 2) [.int .i64 x,.int .i64 y]=v::Yam (setM M i (x,y)) n:=by
 rw[show 1+idxN (i:Int) 2=i*2+1 by simp [idxN];omega]
 show v::Yr (Yam M n) (i*2) _=_
 rw[YjN M x y h]
theorem YkB(t:Bool)(hp:List HO)(r:List SV->List SV):∀(a b:List SV),YaQ t hp r (a++b)=YaQ t hp r a++YaQ t hp r b
 | [],_=>rfl
 |x::a,b=>by
   show view t hp r x::YaQ t hp r (a++b)=view t hp r x::(YaQ t hp r a++YaQ t hp r b)
   rw[YkB t hp r a b]
theorem YeQ(t:Bool)(hp:List HO)(r:List SV->List SV)(M:Nat->Iv):∀n,YaQ t hp r (Yam M n)=Yam M n
 |0=>rfl
 |n+1=>by rw[Yam,YkB,YeQ t hp r M n];rfl
def miP(a t0 t:Int)(T:Tm)(lo i:Nat):Nat->Iv:=fun n=>if lo<=n/\n<lo+i then micF a t0 t T n else(0,0)
theorem YrZ(a t0 t:Int)(T:Tm)(lo i:Nat):setM (miP a t0 t T lo i) (lo+i) (micF a t0 t T ((lo+i:Nat):Int))=miP a t0 t T lo (i+1):=by
 funext k
 unfold setM miP
 by_cases h:k=lo+i
 . subst h;rw[if_pos rfl,if_pos (by omega)]
 . rw[if_neg h]
   by_cases h2:lo<=k/\k<lo+i
   . rw[if_pos h2,if_pos (by omega)]
   . rw[if_neg h2,if_neg (by omega)]
theorem YuL(a t0 t:Int)(T:Tm){lo hi:Nat}(h:lo<=hi):miP a t0 t T lo (hi+1-lo)=miT a t0 t T lo hi:=by
 funext k
 unfold miP miT
 by_cases h2:lo<=k/\k<=hi
 . rw[if_pos h2,if_pos (by omega)]
 . rw[if_neg h2,if_neg (by omega)]
theorem miP_0(a t0 t:Int)(T:Tm)(lo:Nat):miP a t0 t T lo 0=fun _=>(0,0):=by
 funext k;unfold miP;rw[if_neg (by omega)]
theorem Yyk{a b:Nat}{x y:List SV}(h:x=y)(hb:bndL b y):leL a b x y:=by rw[h];exact Yd _ hb
def repL(v:SV):Nat->List SV
 |0=>[]
 |n+1=>v::repL v n
theorem Yko(v:SV):∀(j n:Nat),Ym j (repL v n)=repL v (n-j)
 |0,n=>by cases n <;> rfl
 |j+1,0=>by rw[Nat.zero_sub];rfl
 |j+1,n+1=>by
   show Ym j (repL v n)=_
   rw[Yko v j n,show n+1-(j+1)=n-j by omega]
theorem Ykp(v:SV):∀(s n:Nat),s<=n->Ys s (repL v n)=repL v s
 |0,n,_=>by cases n <;> rfl
 |s+1,n+1,h=>by
   show v::Ys s (repL v n)=v::repL v s
   rw[Ykp v s n (by omega)]
theorem Yf0{cs:List SV}{v:SV}{s j n:Nat}(h:cs=repL v n)(hj:j+s<=n):Ys s (Ym j cs)=repL v s:=by
 rw[h,Yko,Ykp v s _ (by omega)]
def lrnP(L:Nat->Rt)(M:Nat->Iv)(low high:Nat)(K:Nat->Bool)(B:Nat->Stp)(note n:Nat):Nat->Stp:=
 fun k=>if k<n/\low<=k/\k<=high/\note<=k+12/\k<=note+12/\YgI L M K B note k=true then(stpF L M note k).1 else B k
theorem YsY{L:Nat->Rt}{M:Nat->Iv}{low high:Nat}{K:Nat->Bool}{B:Nat->Stp}{note n:Nat}(h:low<=n/\n<=high/\note<=n+12/\n<=note+12)(ht:YgI L M K B note n=true):
   (fun k=>if k=n then(stpF L M note n).1 else lrnP L M low high K B note n k)=lrnP L M low high K B note (n+1):=by
 funext k
 by_cases hk:k=n
 . subst hk
   show(if k=k then _ else _)=_
   rw[if_pos rfl]
   exact(if_pos ⟨by omega,h.1,h.2.1,h.2.2.1,h.2.2.2,ht⟩).symm
 . show(if k=n then _ else _)=_
   rw[if_neg hk]
   unfold lrnP
   have e:(k<n+1)=(k<n):=by apply propext;omega
   simp only[e]
theorem YsX{L:Nat->Rt}{M:Nat->Iv}{low high:Nat}{K:Nat->Bool}{B:Nat->Stp}{note n:Nat}(ht:YgI L M K B note n=false):
   lrnP L M low high K B note n=lrnP L M low high K B note (n+1):=by
 funext k
 unfold lrnP
 by_cases hk:k=n
 . subst hk
   rw[if_neg (fun hh=>Nat.lt_irrefl _ hh.1),if_neg (fun hh=>by rw[ht]at hh;exact absurd hh.2.2.2.2.2 (by decide))]
 . have e:(k<n+1)=(k<n):=by apply propext;omega
   simp only[e]
theorem YsW{L:Nat->Rt}{M:Nat->Iv}{low high:Nat}{K:Nat->Bool}{B:Nat->Stp}{note n:Nat}(h1:high<n\/note+12<n)(_:True:=trivial):
   lrnP L M low high K B note n=lrnB L M low high K B note:=by
 funext k
 unfold lrnP lrnB
 by_cases hk:k<n
 . simp only[hk,true_and]
 . rw[if_neg (fun hh=>hk hh.1),if_neg (fun hh=>by omega)]
theorem YzZ(L:Nat->Rt)(M:Nat->Iv){kn nw:Int}(h:(stpF L M kn nw).2=true):(stpF L M kn nw).1.nw=nw:=by
 unfold stpF at h⊢
 by_cases hc:(byF (max kn nw-min kn nw)).1=0
 . rw[if_pos hc]at h;exact absurd h (by decide)
 . rw[if_neg hc]
theorem Ypp{L:Nat->Rt}{M:Nat->Iv}{lo hi:Nat}{K:Nat->Bool}{B:Nat->Stp}{note:Nat}(hB:∀q,(B q).p≠0->(B q).nw=(q:Int)/\lo<=q/\q<=hi)(q:Nat)(hq:(lrnB L M lo hi K B note q).p≠0):
   (lrnB L M lo hi K B note q).nw=(q:Int)/\lo<=q/\q<=hi:=by
 unfold lrnB at hq⊢
 by_cases hc:lo<=q/\q<=hi/\note<=q+12/\q<=note+12/\YgI L M K B note q=true
 . rw[if_pos hc]
   refine⟨YzZ L M ?_,hc.1,hc.2.1⟩
   have ht:=hc.2.2.2.2
   unfold YgI at ht
   rw[YBq,YBq]at ht
   exact ht.1.1
 . rw[if_neg hc]at hq⊢
   exact hB q hq
theorem Ys5(s:Pln)(low:Nat):∀i,(pckS s low i).p≠0->∃q,pckS s low i=s.B q
 |0,h=>absurd rfl h
 |i+1,h=>by
   unfold pckS at h⊢
   split at h
   . rename_i c;rw[if_pos c];exact⟨low+i,rfl⟩
   . rename_i c;rw[if_neg c];exact Ys5 s low i h
theorem Ykh{L:Nat->Rt}{M:Nat->Iv}{lo hi:Nat}{s:Pln}{j:Nat}(h:plnL L M lo hi s j=none):∀d,plnL L M lo hi s (j+d)=none
 |0=>h
 |d+1=>by
   show plnL L M lo hi s (j+d+1)=none
   rw[plnL,Ykh h d]
theorem YpJ{L:Nat->Rt}{M:Nat->Iv}{lo hi:Nat}{s t:Pln}{out:List Stp}{j:Nat}(h:plnL L M lo hi s j=some (t,out))(hp:(pckS t lo (hi+1-lo)).p≠0):
   plnL L M lo hi s (j+1)=some (lrn L M lo hi t (pckS t lo (hi+1-lo)).nw.toNat,out++[pckS t lo (hi+1-lo)]):=by
 rw[plnL,h]
 exact if_neg hp
theorem YpI{L:Nat->Rt}{M:Nat->Iv}{lo hi:Nat}{s t:Pln}{out:List Stp}{j:Nat}(h:plnL L M lo hi s j=some (t,out))(hp:(pckS t lo (hi+1-lo)).p=0):
   plnL L M lo hi s (j+1)=none:=by
 rw[plnL,h]
 exact if_pos hp
theorem Yu5(i:Nat)(T:Tm):Yi i (encT T)=encT T:=rfl
theorem Ykj(i:Nat):∀(a b:List SV),Yi i (a++b)=Yi i a++Yi i b
 | [],_=>rfl
 |x::a,b=>by
   show YeL i x::Yi i (a++b)=YeL i x::(Yi i a++Yi i b)
   rw[Ykj i a b]
theorem YpN(i:Nat)(M:Nat->Iv):∀n,Yi i (Yam M n)=Yam M n
 |0=>rfl
 |n+1=>by rw[Yam,Ykj,YpN i M n];rfl
theorem lb7{a b k n:Nat}(y:Stp)(W:Nat->Stp):leL a b (if k=n then encS y else encS (W k)) (encS (if k=n then y else W k)):=by
 by_cases hc:k=n
 . rw[if_pos hc,if_pos hc];exact Yd _ ⟨trivial,trivial,trivial,trivial,trivial,trivial,trivial,trivial⟩
 . rw[if_neg hc,if_neg hc];exact Yd _ ⟨trivial,trivial,trivial,trivial,trivial,trivial,trivial,trivial⟩
theorem lb8{a b k m:Nat}(out:List Stp)(x:Stp)(hk:k<m+1):leL a b (if k<m then encS (out.getD k default)else Yi 8 (Ys 7 (Ym ((k-m)*7) (encS x)))) (if k<m then encS (out.getD k default)else Yi 8 (Ys 7 (Ym ((k-m)*7) (encS x)))):=by
 by_cases hc:k<m
 . rw[if_pos hc];exact Yd _ ⟨trivial,trivial,trivial,trivial,trivial,trivial,trivial,trivial⟩
 . rw[if_neg hc,show k-m=0 by omega];exact Yd _ ⟨trivial,trivial,trivial,trivial,trivial,trivial,trivial,trivial⟩
theorem lb1{a b k:Nat}(x:Stp)(hk:k<1):leL a b (Yi 8 (Ys 7 (Ym (k*7) (encS x)))) (Yi 8 (Ys 7 (Ym (k*7) (encS x)))):=by
 obtain rfl:k=0:=by omega
 exact Yd _ ⟨trivial,trivial,trivial,trivial,trivial,trivial,trivial,trivial⟩
def TQ0:Env:={ ct:=fun n=>match n with|28=>some rdyC|29=>some NotC|22=>some micC|31=>some stpC|32=>some befC|_=>none,fn:=fun n=>match n with|30=>some v30|_=>none,meth:=fun _ _=>none}
theorem Ya0:TQ0.ct 28=some rdyC:=rfl
theorem Ya1:TQ0.ct 29=some NotC:=rfl
theorem YaZ:TQ0.ct 22=some micC:=rfl
theorem Ya3:TQ0.ct 31=some stpC:=rfl
theorem Ya4:TQ0.ct 32=some befC:=rfl
theorem Ya2:TQ0.ct 30=none:=rfl
theorem Ya5:TQ0.fn 30=some v30:=rfl
theorem Yxv:Yn YBm TQ0:=by
 refine⟨fun f c h=>?_,fun f vf h=>?_,(fun _ _ _ h=>by cases h),by kernel_rfl,(fun _ h=>by cases h)⟩
 . simp only[TQ0]at h
   split at h
   . cases h;exact⟨YzO,Tryz.f28,Tryz.func28,by kernel_rfl,by kernel_rfl⟩
   . cases h;exact⟨Ytl,Tryz.f29,Tryz.func29,by kernel_rfl,by kernel_rfl⟩
   . cases h;exact⟨YyE,Tryz.f22,Tryz.func22,by kernel_rfl,by kernel_rfl⟩
   . cases h;exact⟨stp_c,Tryz.f31,Tryz.func31,by kernel_rfl,by kernel_rfl⟩
   . cases h;exact⟨bef_c,Tryz.f32,Tryz.func32,by kernel_rfl,by kernel_rfl⟩
   . cases h
 . simp only[TQ0]at h
   split at h
   . cases h;exact⟨Tryz.f30,Tryz.func30,YAh,Tryz.f30,Tryz.func30,by kernel_rfl,by kernel_rfl⟩
   . cases h
theorem YyX:planC.ok YBm 10:=by
 refine Yb Tryz.func10 Yz7 Yxv 1500 planC fun args k h=>?_
 simp only[planC]at h
 split at h
 . rename_i a t0 t cs fr low high
   obtain⟨T,⟨rfl,hnm⟩,h⟩:=h
   have h:∀z,k (.tup [.vs true z (Yek a t0 t T fr low high).1.length 7 (fun k=>encS ((Yek a t0 t T fr low high).1.getD k default)),.int .i64 (Yek a t0 t T fr low high).2]) []:=h
   refine⟨[.agg [.int .i64 a,.int .i64 t0,.int .i64 t],.agg (encT T),.int .i64 fr,.int .i64 low,.int .i64 high],⟨⟨⟨rfl,rfl⟩,⟨rfl,rfl⟩,⟨rfl,rfl⟩,trivial⟩,Yd _ (Yt T _),⟨rfl,rfl⟩,⟨rfl,rfl⟩,⟨rfl,rfl⟩,trivial⟩,?_⟩
   dsimp only[v10,YaD,lenT,Ya0,Ya1,YaZ,Ya3,Ya4,Ya2,Ya5,v30,rdyC,NotC,micC,stpC,befC,go_sem,reduceIte,YBi]
   simp only[Yc,YBi,YBk,reduceCtorEq,YBj]
   refine⟨Ybr T,T,⟨rfl,hnm⟩,fun hr=>?_,fun hr=>?_⟩
   . have e:Yek a t0 t T fr low high=([],rdyF a t0 t T):=if_pos hr
     have h:=h true
     rw[e]at h
     exact YkN h ⟨rfl,fun q hq=>absurd hq (Nat.not_lt_zero _)⟩
   rw[YtH]
   refine⟨fun hb=>?_,fun hb=>?_⟩
   . have e:Yek a t0 t T fr low high=([],2):=by rw[Yek,if_neg (fun hh=>hh hr),if_pos hb]
     have h:=h true
     rw[e]at h
     exact YkN h ⟨rfl,fun q hq=>absurd hq (Nat.not_lt_zero _)⟩
   obtain⟨b1,b2,b3,b4,b5,b6⟩:=YtG hb
   obtain⟨hS,hT⟩:=rdy_0 hr
   obtain⟨F,rfl⟩:∃m:Nat,fr=(m:Int):=⟨fr.toNat,by omega⟩
   obtain⟨lo,rfl⟩:∃m:Nat,low=(m:Int):=⟨low.toNat,by omega⟩
   obtain⟨hi,rfl⟩:∃m:Nat,high=(m:Int):=⟨high.toNat,by omega⟩
   have e:Yek a t0 t T F lo hi=plnF (Ycz T) (miT a t0 t T lo hi) F lo hi:=by rw[Yek,if_neg (fun hh=>hh hr),if_neg (by rw[hb];decide)];rfl
   rw[e]at h
   refine⟨T,⟨rfl,hnm⟩,?_⟩
   rw[if_neg (fun hh=>hh hT)]
   dsimp only[YaD,lenT,Ya0,Ya1,YaZ,Ya3,Ya4,Ya2,Ya5,v30,rdyC,NotC,micC,stpC,befC,go_sem,reduceIte,YBi]
   simp only[Yc,YBi,YBk,reduceCtorEq,YBj]
   refine⟨by decide,by decide,?_⟩
   obtain⟨N,hN⟩:∃N:Nat,N=140:=⟨_,rfl⟩
   obtain⟨L,hL⟩:∃L,L=Ycz T:=⟨_,rfl⟩
   rw[<-hL]at h⊢
   refine Loop.keep [2,2,0,1,0,0,0,1] Nat (fun i=>[(14,.int .i64 ((lo+i:Nat):Int))]) (fun i=>[(4,.box (.vs true false 12 7 (fun k=>encR (L k))::Yam (miP a t0 t T lo i) N))]) [] (fun i=>i<=hi+1-lo) (fun i=>hi+1-lo-i) ?_ ?_
   . refine⟨0,Nat.zero_le _,?_⟩
     rw[miP_0]
     dsimp only[go_sem,reduceIte,YBi]
     simp only[Ya]
     refine⟨⟨by decide,by decide,by decide,by decide,by decide,rfl⟩,Yd _ (Yt T _),Yyk (by subst hN;kernel_rfl) (Y4 _ _ _),by decide⟩
   . rintro i hi'
     have e1:1000*a=IntKind.i64.wrap (1000*a)\/True:= .inr trivial
     dsimp only[YaD,lenT,Ya0,Ya1,YaZ,Ya3,Ya4,Ya2,Ya5,v30,rdyC,NotC,micC,stpC,befC,YBo,go_sem,reduceIte,YBi]
     simp only[Yc,YBi,YBk,reduceCtorEq,YBj]
     refine⟨fun hlt=>?_,fun hge=>?_⟩
     . refine⟨T,⟨rfl,hnm⟩,by decide,by decide,⟨by omega,by omega⟩,by rw[Yap];simp only[idxN];omega,i+1,by omega,by omega,?_⟩
       rw[YoP _ _ (by omega)]
       rw[show((Yke (1000*a) a t0 t T ((lo+i:Nat):Int)).1.1,(Yke (1000*a) a t0 t T ((lo+i:Nat):Int)).1.2)=micF a t0 t T ((lo+i:Nat):Int)from rfl,YrZ]
       simp only[Ya]
       refine⟨⟨by decide,by decide,by decide,by decide,by decide,?_⟩,Yd _ (Yt T _),Yd _ (Y4 _ _ _),by decide⟩
       rw[YBn (((lo+i:Nat):Int)+1) (by omega)]
       push_cast;omega
     . obtain rfl:i=hi+1-lo:=by omega
       rw[YuL a t0 t T (by omega)]
       refine⟨⟨by omega,by omega⟩,by omega,?_⟩
       obtain⟨nt,hnt⟩:∃m:Nat,m=F:=⟨_,rfl⟩
       obtain⟨K,hK⟩:∃K:Nat->Bool,K=fun _=>false:=⟨_,rfl⟩
       obtain⟨B,hB⟩:∃B:Nat->Stp,B=fun _=>YkH:=⟨_,rfl⟩
       have hntb:lo<=nt/\nt<=hi:=by omega
       obtain⟨M,hM⟩:∃M,M=miT a t0 t T lo hi:=⟨_,rfl⟩
       rw[<-hM]at h⊢
       rw[<-hnt]
       obtain⟨s0,hs0⟩:∃m:Nat,m=max lo (nt-12):=⟨_,rfl⟩
       obtain⟨e0,he0⟩:∃m:Nat,m=min hi (nt+12):=⟨_,rfl⟩
       obtain⟨K',hK'⟩:∃K',K'=setB K nt true:=⟨_,rfl⟩
       refine Loop.keep [0,0,0,0,0,0] (Nat×(Nat->Stp)) (fun x=>[(7,.int .i64 x.1)]) (fun x=>[(6,.own false 1 140 (fun k=>[.bool (K' k)])),(7,.own false 7 140 (fun k=>encS (x.2 k)))]) [] (fun x=>s0<=x.1/\x.1<=e0+1/\x.2=lrnP L M lo hi K' B nt x.1) (fun x=>e0+1-x.1) ?_ ?_
       . refine⟨(s0,B),⟨by omega,by omega,?_⟩,?_⟩
         . funext k
           exact(if_neg (by omega)).symm
         dsimp only[go_sem,reduceIte,YBi]
         simp only[Ya]
         refine⟨⟨by decide,by decide,by decide,by decide,by decide,?_⟩,by decide,Yd _ (Yt T _),Yd _ (Y4 _ _ _),by decide,fun q hq=>?_,fun q hq=>?_⟩
         . rw[YBn ((nt:Int)-12) (by omega)];omega
         . rw[hK',hK]
           unfold setB
           by_cases hc:q=nt
           . rw[if_pos hc,if_pos hc,Yf0 (v:= .bool false) (n:=140) ?_ ?_]
             . exact Yd _ ⟨trivial,trivial⟩
             . kernel_rfl
             . omega
           . rw[if_neg hc,if_neg hc,Yf0 (v:= .bool false) (n:=140) ?_ ?_]
             . exact Yd _ ⟨trivial,trivial⟩
             . kernel_rfl
             . omega
         . show leL _ _ (Ys 7 (Ym (q*7) _)) (encS (B q))
           rw[hB,Yf0 (v:= .int .i64 0) (n:=980) ?_ ?_]
           . exact Yd _ ⟨trivial,trivial,trivial,trivial,trivial,trivial,trivial,trivial⟩
           . kernel_rfl
           . omega
       rintro⟨n,W⟩ ⟨hn1,hn2,hW⟩
       replace hn1:s0<=n:=hn1
       replace hn2:n<=e0+1:=hn2
       replace hW:W=lrnP L M lo hi K' B nt n:=hW
       have hWn:W n=B n:=by rw[hW];exact if_neg (by omega)
       dsimp only[YaD,lenT,Ya0,Ya1,YaZ,Ya3,Ya4,Ya2,Ya5,v30,rdyC,NotC,micC,stpC,befC,YBo,go_sem,reduceIte,YBi]
       simp only[Yc,YBi,YBk,reduceCtorEq,YBj]
       rw[YeQ,YBn ((nt:Int)+12) (by omega)]
       refine⟨fun hlt=>?_,fun hge=>?_⟩
       . refine⟨L,M,N,⟨fun q _=>Ye _,⟨rfl,hN⟩,by omega,by omega⟩,by decide,by decide,?_⟩
         obtain⟨⟨⟨y1,y2,y3,y4,y5,y6,y7⟩,is⟩,hy⟩:∃y,y=stpF L M nt n:=⟨_,rfl⟩
         rw[<-hy]
         have hTk:YgI L M K' B nt n=(is&& !K' n&&(decide ((W n).p=0) || decide (befF ⟨y1,y2,y3,y4,y5,y6,y7⟩ (W n)<0))):=by rw[YgI,<-hy,hWn]
         dsimp only[encS,YaD,lenT,Ya0,Ya1,YaZ,Ya3,Ya4,Ya2,Ya5,v30,rdyC,NotC,micC,stpC,befC,YBo,go_sem,reduceIte,YBi]
         simp only[Yc,YBi,YBk,reduceCtorEq,YBj]
         rw[show(⟨(W n).kn,(W n).nw,(W n).p,(W n).q,(W n).se,(W n).lo,(W n).hi⟩:Stp)=W n from rfl,<-hTk]
         have hbb:0<=(n:Int)/\(n:Int)<((140:Nat):Int):=by omega
         have hb2:n<140:=by omega
         refine⟨fun _=>hbb,fun _=>hb2,fun _=>hbb,fun _=>hb2,fun _=>hbb,fun _=>hb2,fun c1 c2=>?_,fun ht=>⟨hbb,hb2,(n+1,fun k=>if k=n then⟨y1,y2,y3,y4,y5,y6,y7⟩else W k),⟨by omega,by omega,?_⟩,?_,?_⟩,fun ht=>⟨(n+1,W),⟨by omega,by omega,?_⟩,?_,?_⟩⟩
         . rw[c1,decide_eq_false c2];rfl
         . show(fun k=>if k=n then(⟨y1,y2,y3,y4,y5,y6,y7⟩:Stp)else W k)=_
           rw[hW,show(⟨y1,y2,y3,y4,y5,y6,y7⟩:Stp)=(stpF L M nt n).1 by rw[<-hy]]
           exact YsY (by omega) ht
         . show e0+1-(n+1)<e0+1-n;omega
         . dsimp only[go_sem,reduceIte,YBi]
           simp only[Ya]
           refine⟨⟨by decide,by decide,by decide,by decide,by decide,?_⟩,by decide,Yd _ (Yt T _),Yd _ (Y4 _ _ _),?_⟩
           . rw[YBn ((n:Int)+1) (by omega)];rfl
           . first
             |exact⟨by decide,fun q hq=>lb7 ⟨y1,y2,y3,y4,y5,y6,y7⟩ W⟩
             |exact⟨by decide,fun q hq=>lb7 ⟨y1,y2,y3,y4,y5,y6,y7⟩ W,fun q hq=>lb8 out ⟨nx.kn,nt,nx.p,nx.q,nx.se,nx.lo,nx.hi⟩ hq,fun q hq=>lb1 ⟨nx.kn,nt,nx.p,nx.q,nx.se,nx.lo,nx.hi⟩ hq⟩
         . show W=_
           rw[hW]
           exact YsX (by simpa using ht)
         . show e0+1-(n+1)<e0+1-n;omega
         . dsimp only[go_sem,reduceIte,YBi]
           simp only[Ya]
           refine⟨⟨by decide,by decide,by decide,by decide,by decide,?_⟩,by decide,Yd _ (Yt T _),Yd _ (Y4 _ _ _),?_⟩
           . rw[YBn ((n:Int)+1) (by omega)];rfl
           . first
             |exact(by decide)
             |exact⟨by decide,fun q hq=>lb8 out ⟨nx.kn,nt,nx.p,nx.q,nx.se,nx.lo,nx.hi⟩ hq,fun q hq=>lb1 ⟨nx.kn,nt,nx.p,nx.q,nx.se,nx.lo,nx.hi⟩ hq⟩
       have hWe:W=lrnB L M lo hi K' B nt:=by
         rw[hW]
         exact YsW (by omega)
       have hP0:lrn L M lo hi ⟨fun _=>false,fun _=>YkH⟩ F=⟨K',W⟩:=by rw[hWe,hK',hK,hB,hnt];rfl
       have hw0:∀q,(W q).p≠0->(W q).nw=(q:Int)/\lo<=q/\q<=hi:=by
         rw[hWe]
         exact Ypp (by rw[hB];exact fun q hq=>absurd rfl hq)
       obtain⟨P0,hPe⟩:∃P0:Pln,P0=⟨K',W⟩:=⟨_,rfl⟩
       rw[<-hPe]at hP0
       have hpl:plnF L M F lo hi=(match plnL L M lo hi P0 (hi-lo)with|none=>([],4) |some (_,out)=>(out,0)):=by rw[plnF,hP0]
       rw[hpl]at h
       rw[YBn ((hi:Int)-lo) (by omega)]
       refine Loop.keep [8,0,3,1,0,1,69] (Nat×Pln×List Stp×Bool) (fun x=>[(17,.own 8 0 x.2.2.1.length 7),(89,.int .i64 x.1)]) (fun x=>[(6,.own false 1 140 (fun k=>[.bool (x.2.1.K k)])),(7,.own false 7 140 (fun k=>encS (x.2.1.B k))),(8,.own x.2.2.2 7 x.2.2.1.length (fun k=>encS (x.2.2.1.getD k default)))]) [.gone] (fun x=>x.1<=hi-lo/\x.2.2.1.length=x.1/\(x.2.2.2=true->x.1=0)/\plnL L M lo hi P0 x.1=some (x.2.1,x.2.2.1)/\∀q,(x.2.1.B q).p≠0->(x.2.1.B q).nw=(q:Int)/\lo<=q/\q<=hi) (fun x=>hi-lo-x.1) ?_ ?_
       . refine⟨(0,P0,[],true),⟨Nat.zero_le _,rfl,fun _=>rfl,rfl,by rw[hPe];exact hw0⟩,?_⟩
         rw[hPe]
         dsimp only[List.length_nil,go_sem,reduceIte,YBi]
         simp only[Ya]
         exact⟨⟨by decide,by decide,by decide,by decide,by decide,by decide,by decide,rfl⟩,Yd _ (Yt T _),Yd _ (Y4 _ _ _),by decide,fun q _=>Yd _ ⟨trivial,trivial,trivial,trivial,trivial,trivial,trivial,trivial⟩⟩
       clear hw0 hWe hge hW hWn hn1 hn2 n hP0 hPe
       rintro⟨j,⟨K,B⟩,out,z⟩ ⟨hj,hlen,hz,hpj,hnw⟩
       replace hj:j<=hi-lo:=hj
       replace hlen:out.length=j:=hlen
       replace hz:z=true->j=0:=hz
       replace hpj:plnL L M lo hi P0 j=some (⟨K,B⟩,out):=hpj
       replace hnw:∀q,(B q).p≠0->(B q).nw=(q:Int)/\lo<=q/\q<=hi:=hnw
       dsimp only[YaD,lenT,Ya0,Ya1,YaZ,Ya3,Ya4,Ya2,Ya5,v30,rdyC,NotC,micC,stpC,befC,YBo,go_sem,reduceIte,YBi]
       simp only[Yc,YBi,YBk,reduceCtorEq,YBj]
       refine⟨fun hlt=>?_,fun hge=>?_⟩
       . refine Loop.keep [8,0,3,1,0,0,0,0,68,0] Nat (fun i=>[(20,.int .i64 ((lo+i:Nat):Int))]) (fun i=>[(9,.box (encS (pckS ⟨K,B⟩ lo i)))]) [] (fun i=>i<=hi+1-lo) (fun i=>hi+1-lo-i) ?_ ?_
         . refine⟨0,Nat.zero_le _,?_⟩
           dsimp only[pckS,YkH,encS,go_sem,reduceIte,YBi]
           simp only[Ya]
           exact⟨⟨by decide,by decide,by decide,by decide,by decide,by decide,by decide,by decide,rfl⟩,Yd _ (Yt T _),Yd _ (Y4 _ _ _),by decide⟩
         rintro i hi'
         dsimp only[YaD,lenT,Ya0,Ya1,YaZ,Ya3,Ya4,Ya2,Ya5,v30,rdyC,NotC,micC,stpC,befC,encS,YBo,go_sem,reduceIte,YBi]
         simp only[Yc,YBi,YBk,reduceCtorEq,YBj]
         rw[show(⟨(B (lo+i)).kn,(B (lo+i)).nw,(B (lo+i)).p,(B (lo+i)).q,(B (lo+i)).se,(B (lo+i)).lo,(B (lo+i)).hi⟩:Stp)=B (lo+i)from rfl]
         rw[show(⟨(pckS ⟨K,B⟩ lo i).kn,(pckS ⟨K,B⟩ lo i).nw,(pckS ⟨K,B⟩ lo i).p,(pckS ⟨K,B⟩ lo i).q,(pckS ⟨K,B⟩ lo i).se,(pckS ⟨K,B⟩ lo i).lo,(pckS ⟨K,B⟩ lo i).hi⟩:Stp)=pckS ⟨K,B⟩ lo i from rfl]
         refine⟨fun hlt2=>?_,fun hge2=>?_⟩
         . have hbb:0<=((lo+i:Nat):Int)/\((lo+i:Nat):Int)<((140:Nat):Int):=by omega
           have hb2:lo+i<140:=by omega
           refine⟨hbb,hb2,fun _=>hbb,fun _=>hb2,fun _=>hbb,fun _=>hb2,fun c1 c2=>?_,fun ht=>⟨hbb,hb2,i+1,by omega,by omega,?_⟩,fun ht=>⟨i+1,by omega,by omega,?_⟩⟩
           . rw[c1,decide_eq_false c2];rfl
           . have hp:pckS ⟨K,B⟩ lo (i+1)=B (lo+i):=if_pos ht
             rw[hp]
             simp only[Ya]
             refine⟨⟨by decide,by decide,by decide,by decide,by decide,by decide,by decide,by decide,?_⟩,Yd _ (Yt T _),Yd _ (Y4 _ _ _),by decide⟩
             rw[YBn (((lo+i:Nat):Int)+1) (by omega)]
             push_cast;omega
           . have hp:pckS ⟨K,B⟩ lo (i+1)=pckS ⟨K,B⟩ lo i:=if_neg (by rw[ht];decide)
             rw[hp]
             simp only[Ya]
             refine⟨⟨by decide,by decide,by decide,by decide,by decide,by decide,by decide,by decide,?_⟩,Yd _ (Yt T _),Yd _ (Y4 _ _ _),by decide⟩
             rw[YBn (((lo+i:Nat):Int)+1) (by omega)]
             push_cast;omega
         obtain rfl:i=hi+1-lo:=by omega
         obtain⟨nx,hnx⟩:∃nx,nx=pckS ⟨K,B⟩ lo (hi+1-lo):=⟨_,rfl⟩
         rw[<-hnx]
         refine⟨fun hp0=>?_,fun hp0=>?_⟩
         . have hn1:plnL L M lo hi P0 (hi-lo)=none:=by
             have h1:=Ykh (YpI hpj (by rw[<-hnx];exact hp0)) (hi-lo-(j+1))
             rwa [show j+1+(hi-lo-(j+1))=hi-lo by omega]at h1
           have h:=h true
           rw[hn1]at h
           exact YkN h ⟨rfl,fun q hq=>absurd hq (Nat.not_lt_zero _)⟩
         have hsu:=YpJ hpj (by rw[<-hnx];exact hp0)
         rw[<-hnx]at hsu
         obtain⟨nt,hq⟩:=Ys5 ⟨K,B⟩ lo _ (by rw[<-hnx];exact hp0)
         rw[<-hnx]at hq
         replace hq:nx=B nt:=hq
         obtain⟨hnn,hntb⟩:=hnw nt (by rw[<-hq];exact hp0)
         rw[<-hq]at hnn
         rw[hnn,YBo]at hsu
         rw[hnn]
         refine⟨by decide,⟨by unfold YV;omega,fun q hq=>?_⟩,by omega,by omega,?_⟩
         . obtain rfl:q=0:=by omega
           exact⟨rfl,trivial,trivial,trivial,trivial,trivial,trivial,trivial,trivial⟩
         rw[Yu5,YpN]
         obtain⟨s0,hs0⟩:∃m:Nat,m=max lo (nt-12):=⟨_,rfl⟩
         obtain⟨e0,he0⟩:∃m:Nat,m=min hi (nt+12):=⟨_,rfl⟩
         obtain⟨K',hK'⟩:∃K',K'=setB K nt true:=⟨_,rfl⟩
         refine Loop.keep [0,0,0,0,0,0] (Nat×(Nat->Stp)) (fun x=>[(7,.int .i64 x.1)]) (fun x=>[(6,.own false 1 140 (fun k=>[.bool (K' k)])),(7,.own false 7 140 (fun k=>encS (x.2 k)))]) [] (fun x=>s0<=x.1/\x.1<=e0+1/\x.2=lrnP L M lo hi K' B nt x.1) (fun x=>e0+1-x.1) ?_ ?_
         . refine⟨(s0,B),⟨by omega,by omega,?_⟩,?_⟩
           . funext k
             exact(if_neg (by omega)).symm
           dsimp only[YBo,go_sem,reduceIte,YBi]
           simp only[Ya]
           refine⟨⟨by decide,by decide,by decide,by decide,by decide,?_⟩,by decide,Yd _ (Yt T _),Yd _ (Y4 _ _ _),by decide,fun q hq=>?_,fun q hq=>Yd _ ⟨trivial,trivial,trivial,trivial,trivial,trivial,trivial,trivial⟩,fun q hq=>?_,fun q hq=>?_⟩
           . rw[YBn ((nt:Int)-12) (by omega)];omega
           . rw[hK']
             unfold setB
             by_cases hc:q=nt
             . rw[if_pos hc,if_pos hc];exact Yd _ ⟨trivial,trivial⟩
             . rw[if_neg hc,if_neg hc];exact Yd _ ⟨trivial,trivial⟩
           . by_cases hc:q<out.length
             . rw[if_pos hc];exact Yd _ ⟨trivial,trivial,trivial,trivial,trivial,trivial,trivial,trivial⟩
             . rw[if_neg hc,show q-out.length=0 by omega];exact Yd _ ⟨trivial,trivial,trivial,trivial,trivial,trivial,trivial,trivial⟩
           . obtain rfl:q=0:=by omega
             exact Yd _ ⟨trivial,trivial,trivial,trivial,trivial,trivial,trivial,trivial⟩
         rintro⟨n,W⟩ ⟨hn1,hn2,hW⟩
         replace hn1:s0<=n:=hn1
         replace hn2:n<=e0+1:=hn2
         replace hW:W=lrnP L M lo hi K' B nt n:=hW
         have hWn:W n=B n:=by rw[hW];exact if_neg (by omega)
         dsimp only[YaD,lenT,Ya0,Ya1,YaZ,Ya3,Ya4,Ya2,Ya5,v30,rdyC,NotC,micC,stpC,befC,YBo,go_sem,reduceIte,YBi]
         simp only[Yc,YBi,YBk,reduceCtorEq,YBj]
         rw[YeQ,YBn ((nt:Int)+12) (by omega)]
         refine⟨fun hlt=>?_,fun hge=>?_⟩
         . refine⟨L,M,N,⟨fun q _=>Ye _,⟨rfl,hN⟩,by omega,by omega⟩,by decide,by decide,?_⟩
           obtain⟨⟨⟨y1,y2,y3,y4,y5,y6,y7⟩,is⟩,hy⟩:∃y,y=stpF L M nt n:=⟨_,rfl⟩
           rw[<-hy]
           have hTk:YgI L M K' B nt n=(is&& !K' n&&(decide ((W n).p=0) || decide (befF ⟨y1,y2,y3,y4,y5,y6,y7⟩ (W n)<0))):=by rw[YgI,<-hy,hWn]
           dsimp only[encS,YaD,lenT,Ya0,Ya1,YaZ,Ya3,Ya4,Ya2,Ya5,v30,rdyC,NotC,micC,stpC,befC,YBo,go_sem,reduceIte,YBi]
           simp only[Yc,YBi,YBk,reduceCtorEq,YBj]
           rw[show(⟨(W n).kn,(W n).nw,(W n).p,(W n).q,(W n).se,(W n).lo,(W n).hi⟩:Stp)=W n from rfl,<-hTk]
           have hbb:0<=(n:Int)/\(n:Int)<((140:Nat):Int):=by omega
           have hb2:n<140:=by omega
           refine⟨fun _=>hbb,fun _=>hb2,fun _=>hbb,fun _=>hb2,fun _=>hbb,fun _=>hb2,fun c1 c2=>?_,fun ht=>⟨hbb,hb2,(n+1,fun k=>if k=n then⟨y1,y2,y3,y4,y5,y6,y7⟩else W k),⟨by omega,by omega,?_⟩,?_,?_⟩,fun ht=>⟨(n+1,W),⟨by omega,by omega,?_⟩,?_,?_⟩⟩
           . rw[c1,decide_eq_false c2];rfl
           . show(fun k=>if k=n then(⟨y1,y2,y3,y4,y5,y6,y7⟩:Stp)else W k)=_
             rw[hW,show(⟨y1,y2,y3,y4,y5,y6,y7⟩:Stp)=(stpF L M nt n).1 by rw[<-hy]]
             exact YsY (by omega) ht
           . show e0+1-(n+1)<e0+1-n;omega
           . dsimp only[go_sem,reduceIte,YBi]
             simp only[Ya]
             refine⟨⟨by decide,by decide,by decide,by decide,by decide,?_⟩,by decide,Yd _ (Yt T _),Yd _ (Y4 _ _ _),?_⟩
             . rw[YBn ((n:Int)+1) (by omega)];rfl
             . first
               |exact⟨by decide,fun q hq=>lb7 ⟨y1,y2,y3,y4,y5,y6,y7⟩ W⟩
               |exact⟨by decide,fun q hq=>lb7 ⟨y1,y2,y3,y4,y5,y6,y7⟩ W,fun q hq=>lb8 out ⟨nx.kn,nt,nx.p,nx.q,nx.se,nx.lo,nx.hi⟩ hq,fun q hq=>lb1 ⟨nx.kn,nt,nx.p,nx.q,nx.se,nx.lo,nx.hi⟩ hq⟩
           . show W=_
             rw[hW]
             exact YsX (by simpa using ht)
           . show e0+1-(n+1)<e0+1-n;omega
           . dsimp only[go_sem,reduceIte,YBi]
             simp only[Ya]
             refine⟨⟨by decide,by decide,by decide,by decide,by decide,?_⟩,by decide,Yd _ (Yt T _),Yd _ (Y4 _ _ _),?_⟩
             . rw[YBn ((n:Int)+1) (by omega)];rfl
             . first
               |exact(by decide)
               |exact⟨by decide,fun q hq=>lb8 out ⟨nx.kn,nt,nx.p,nx.q,nx.se,nx.lo,nx.hi⟩ hq,fun q hq=>lb1 ⟨nx.kn,nt,nx.p,nx.q,nx.se,nx.lo,nx.hi⟩ hq⟩
         have hWe:W=lrnB L M lo hi K' B nt:=by
           rw[hW]
           exact YsW (by omega)
         refine⟨(j+1,⟨K',W⟩,out++[nx],false),⟨?_,?_,fun hh=>?_,?_,?_⟩,?_,?_⟩
         . show j+1<=hi-lo;omega
         . show(out++[nx]).length=j+1;rw[YBI,hlen];rfl
         . exact absurd (show false=true from hh) (by decide)
         . show plnL L M lo hi P0 (j+1)=some (⟨K',W⟩,out++[nx])
           rw[hsu,hWe,hK'];rfl
         . show∀q,(W q).p≠0->(W q).nw=(q:Int)/\lo<=q/\q<=hi
           rw[hWe]
           exact Ypp hnw
         . show hi-lo-(j+1)<hi-lo-j;omega
         . dsimp only[YBI,List.length_cons,List.length_nil,go_sem,reduceIte,YBi]
           simp only[Ya]
           refine⟨⟨by decide,by decide,by decide,by decide,by decide,⟨by simp,by decide⟩,by decide,?_⟩,Yd _ (Yt T _),Yd _ (Y4 _ _ _),by decide,fun q hq=>Yd _ ⟨trivial,trivial,trivial,trivial,trivial,trivial,trivial,trivial⟩,by simp,by simp,fun q hq=>?_⟩
           . rw[YBn ((j:Int)+1) (by omega)];rfl
           . show leL _ _ _ (encS ((out++[nx]).getD q default))
             by_cases hc:q<out.length
             . rw[if_pos hc,Ybi hc];exact Yd _ ⟨trivial,trivial,trivial,trivial,trivial,trivial,trivial,trivial⟩
             . rw[if_neg hc,Ybj (by omega),show q-out.length=0 by omega,<-hnn];exact Yd _ ⟨trivial,trivial,trivial,trivial,trivial,trivial,trivial,trivial⟩
       . obtain rfl:j=hi-lo:=by omega
         have h:=h z
         rw[hpj]at h
         have h:k (.tup [.vs true z out.length 7 (fun k=>encS (out.getD k default)),.int .i64 0]) []:=h
         refine YC h ?_ (fun _=>by simp [Yk,Yo,encS])
         dsimp only[expo,go_sem,reduceIte,YBi]
         simp only[Ya]
         exact fun q hq=>Ye _
 . exact h.1.elim
theorem mi60:micF 440000 15000 15000 MT 60=(263181385,263181386):=by decide+kernel
theorem mi61:micF 440000 15000 15000 MT 61=(275000000,275000000):=by decide+kernel
theorem mi62:micF 440000 15000 15000 MT 62=(294245734,294245735):=by decide+kernel
theorem mi63:micF 440000 15000 15000 MT 63=(314838371,314838372):=by decide+kernel
theorem mi64:micF 440000 15000 15000 MT 64=(328976731,328976732):=by decide+kernel
theorem mi65:micF 440000 15000 15000 MT 65=(352000000,352000000):=by decide+kernel
theorem mi66:micF 440000 15000 15000 MT 66=(367807167,367807168):=by decide+kernel
theorem mi67:micF 440000 15000 15000 MT 67=(393547964,393547965):=by decide+kernel
set_option maxHeartbeats 4000000
def v18:VF:=⟨42,[.cell 12 true 2,.tmp 13],(ZR [u1 6 .box [.tm 0],u1 7 .box [.tm 1],Zn 12,Zi 13 0] (ZR [Zt 20 3 6,Zt 21 27 7,Zm 22 2,Zm 23 3,Zm 24 4,Zm 25 5,u1 26 (.call 36) [.tm 20,.tm 21,.tm 22,.tm 23,.tm 24,.tm 25],Zm 19 26,Ze 27 0 19,Ze 28 1 19,Ze 29 2 19,Zn 14,Zn 15,Zs 2 14 27,Zs 2 15 28,Zm 16 29] (.seq (ZR [Zm 30 16,Zq 31 .neq 30 0] (ZC 31 (ZR [u1 32 (.build [(.int .i64 0),(.int .i64 0)] []) [],Zm 33 16,Zs 2 12 32,Zm 13 33] .ret) .skip)) (ZR [Zt 35 2 14,Zt 36 2 15,Zd 37 41 35 36,Zm 34 37,Ze 38 0 34,Ze 39 1 34,Zn 17,Zs 2 17 38,Zm 18 39] (ZR [Zt 40 2 17,Zc 41 42 40,Zs 2 12 41,Zi 13 0] .ret)))))⟩
theorem YAc:Yg YBm Tryz.f18=some v18:=by kernel_rfl
def coiF(a t0 t:Int)(T:Tm)(lo hi p q:Int):Iv×Int:=
 if(prtF a t0 t T lo hi p q).e≠0 then((0,0),(prtF a t0 t T lo hi p q).e)else(milF (YmU (prtF a t0 t T lo hi p q).a (prtF a t0 t T lo hi p q).b).1,0)
def coiC:Ctr:={ alias:=false,of:=fun l=>match l with
 | [.agg [.int .i64 a,.int .i64 t0,.int .i64 t],.agg cs,.int .i64 lo,.int .i64 hi,.int .i64 p,.int .i64 q]=> .ex Tm fun T=> .pre (cs=encT T/\T.nm.size<=9223372036854775807)
     (.fin (.tup [.agg [.int .i64 (coiF a t0 t T lo hi p q).1.1,.int .i64 (coiF a t0 t T lo hi p q).1.2],.int .i64 (coiF a t0 t T lo hi p q).2]) [])
 |_=>noC}
def TR0:Env:={ ct:=fun n=>match n with|36=>some prtC|41=>some hullC|42=>some milC|_=>none,fn:=fun _=>none,meth:=fun _ _=>none}
theorem Yre:TR0.ct 36=some prtC:=rfl
theorem Yrf:TR0.ct 41=some hullC:=rfl
theorem Yrg:TR0.ct 42=some milC:=rfl
theorem Yxw:Yn YBm TR0:=by
 refine⟨fun f c h=>?_,fun f vf h=>?_,(fun _ _ _ h=>by cases h),by kernel_rfl,(fun _ h=>by cases h)⟩
 . simp only[TR0]at h
   split at h
   . cases h;exact⟨YyZ,Tryz.f36,Tryz.func36,by kernel_rfl,by kernel_rfl⟩
   . cases h;exact⟨Yun,Tryz.f41,Tryz.func41,by kernel_rfl,by kernel_rfl⟩
   . cases h;exact⟨YyF,Tryz.f42,Tryz.func42,by kernel_rfl,by kernel_rfl⟩
   . cases h
 . cases h
theorem coi_c:coiC.ok YBm 18:=by
 refine Yb Tryz.func18 YAc Yxw 600 coiC fun args k h=>?_
 simp only[coiC]at h
 split at h
 . rename_i a t0 t cs lo hi p q
   obtain⟨T,⟨rfl,hnm⟩,h⟩:=h
   refine⟨[.agg [.int .i64 a,.int .i64 t0,.int .i64 t],.agg (encT T),.int .i64 lo,.int .i64 hi,.int .i64 p,.int .i64 q],⟨⟨⟨rfl,rfl⟩,⟨rfl,rfl⟩,⟨rfl,rfl⟩,trivial⟩,Yd _ (Yt T _),⟨rfl,rfl⟩,⟨rfl,rfl⟩,⟨rfl,rfl⟩,⟨rfl,rfl⟩,trivial⟩,?_⟩
   dsimp only[v18,YaD,lenT,Yre,Yrf,Yrg,prtC,hullC,iv2C,enc2,milC,go_sem,reduceIte,YBi]
   simp only[Yc,YBi,YBk,reduceCtorEq,YBj]
   have h:k (.tup [.agg [.int .i64 (coiF a t0 t T lo hi p q).1.1,.int .i64 (coiF a t0 t T lo hi p q).1.2],.int .i64 (coiF a t0 t T lo hi p q).2]) []:=h
   refine⟨Ybr T,T,⟨rfl,hnm⟩,by decide,by decide,by decide,fun hc=>?_,fun hc=>?_⟩
   . rw[coiF,if_pos hc]at h;exact Ycg h
   . rw[coiF,if_neg (fun hh=>hh hc)]at h
     exact⟨by decide,by decide,Ycg h⟩
 . exact h.1.elim
def MM:Nat->Iv:=fun n=>if 60<=n/\n<=67 then [((263181385:Int),(263181386:Int)),(275000000,275000000),(294245734,294245735),(314838371,314838372),(328976731,328976732),(352000000,352000000),(367807167,367807168),(393547964,393547965)].getD (n-60) default else(0,0)
theorem YyD:miT 440000 15000 15000 MT 60 67=MM:=by
 funext n
 unfold miT MM
 by_cases h:60<=n/\n<=67
 . rw[if_pos h,if_pos h]
   rcases(show n=60\/n=61\/n=62\/n=63\/n=64\/n=65\/n=66\/n=67 by omega)with rfl|rfl|rfl|rfl|rfl|rfl|rfl|rfl
   . rw[show((60:Nat):Int)=60 from rfl,mi60];rfl
   . rw[show((61:Nat):Int)=61 from rfl,mi61];rfl
   . rw[show((62:Nat):Int)=62 from rfl,mi62];rfl
   . rw[show((63:Nat):Int)=63 from rfl,mi63];rfl
   . rw[show((64:Nat):Int)=64 from rfl,mi64];rfl
   . rw[show((65:Nat):Int)=65 from rfl,mi65];rfl
   . rw[show((66:Nat):Int)=66 from rfl,mi66];rfl
   . rw[show((67:Nat):Int)=67 from rfl,mi67];rfl
 . rw[if_neg h,if_neg h]
def lstP:List Stp:=[⟨60,64,5,4,0,0,0⟩,⟨60,67,3,2, -1,2448,2449⟩,⟨67,63,5,4,0,0,0⟩,⟨60,65,4,3,1,3274,3275⟩,⟨67,62,4,3,1,3660,3661⟩,⟨62,66,5,4,0,0,0⟩,⟨66,61,4,3,1,3421,3422⟩]
theorem exP:plnF (Ycz MT) MM 60 60 67=(lstP,0):=by decide+kernel
theorem exR:rdyF 440000 15000 15000 MT=0:=by decide+kernel
theorem exp_1:Yek 440000 15000 15000 MT 60 60 67=(lstP,0):=by
 rw[Yek,if_neg (fun hh=>hh exR),if_neg (by decide)]
 show plnF (Ycz MT) (miT 440000 15000 15000 MT 60 67) 60 60 67=_
 rw[YyD,exP]
theorem exp_2:Yek 440000 15000 15000 EQ 60 60 61=([],4):=by decide+kernel
theorem exk_1:SenF EQ 60 67 3 2=(-1,0):=by decide+kernel
theorem exk_2:SenF MT 60 64 5 4=(0,0):=by decide+kernel
theorem exk_3:rteF 440000 15000 15000 EQ 60 64 5 4=((10382,10383),0):=by decide+kernel
theorem exk_4:coiF 440000 15000 15000 EQ 60 67 3 2=((783990,784877),0):=by decide+kernel
theorem exk_5:offF [⟨0,0,0,0,0,100,101⟩,⟨0,0,0,0,0,0,0⟩] [110,3] 5=([0],0):=by decide+kernel
def v5:VF:=⟨160,[.tmp 0],(ZR [u1 0 .mov [.cn (.bool false)]] (ZR [u1 16 (.call 15) [],u1 1 (.alloc [(.int .i64 0),(.int .i64 0),(.int .i64 0)]) [],Zs 3 1 16] (ZR [u1 18 (.call 17) [.cn (.val (.string ⟨#[101,113,117,97,108]⟩))],u1 19 (.call 16) [.tm 18,.cn (.int .i64 60),.cn (.int .i64 67),.cn (.int .i64 3),.cn (.int .i64 2)],Zm 17 19,Ze 20 0 17,Ze 21 1 17,Zm 2 20,Zm 3 21] (ZR [u1 23 (.call 17) [.cn (.val (.string ⟨#[109,101,97,110,116,111,110,101]⟩))],u1 24 (.call 16) [.tm 23,.cn (.int .i64 60),.cn (.int .i64 64),.cn (.int .i64 5),.cn (.int .i64 4)],Zm 22 24,Ze 25 0 22,Ze 26 1 22,Zm 4 25,Zm 5 26] (.seq (.draw [(6,.box [(.int .i64 0),(.int .i64 0)])] [Zw 28 3 1,w1 29 (.call 17) [.cn (.val (.string ⟨#[101,113,117,97,108]⟩))],w1 30 (.call 14) [.tm 28,.tm 29,.cn (.int .i64 60),.cn (.int .i64 64),.cn (.int .i64 5),.cn (.int .i64 4)],Zu 27 30,ZE 31 0 27,ZE 32 1 27,ZS 2 6 31,Zu 7 32]) (.seq (.draw [(8,.box [(.int .i64 0),(.int .i64 0)])] [Zw 34 3 1,w1 35 (.call 17) [.cn (.val (.string ⟨#[101,113,117,97,108]⟩))],w1 36 (.call 18) [.tm 34,.tm 35,.cn (.int .i64 60),.cn (.int .i64 67),.cn (.int .i64 3),.cn (.int .i64 2)],Zu 33 36,ZE 37 0 33,ZE 38 1 33,ZS 2 8 37,Zu 9 38]) (.seq (ZR [Zm 39 3,Zq 40 .neq 39 0,Zm 41 40,Zg 42 41 false 5,u2 43 41 false (.cmp .neq) [.tm 42,.cn (.int .i64 0)],u1 44 .or [.tm 41,.tm 43],Zm 45 44,Zg 46 45 false 7,u2 47 45 false (.cmp .neq) [.tm 46,.cn (.int .i64 0)],u1 48 .or [.tm 45,.tm 47],Zm 49 48,Zg 50 49 false 9,u2 51 49 false (.cmp .neq) [.tm 50,.cn (.int .i64 0)],u1 52 .or [.tm 49,.tm 51],Zm 53 52,Zg 54 53 false 2,u2 55 53 false (.cmp .neq) [.tm 54,.cn (.int .i64 (-1))],u1 56 .or [.tm 53,.tm 55],Zm 57 56,Zg 58 57 false 4,u2 59 57 false (.cmp .neq) [.tm 58,.cn (.int .i64 0)],u1 60 .or [.tm 57,.tm 59],Zm 61 60,u2 62 61 false (.load true 2) [.tm 6],u2 63 61 false (.build [(.int .i64 0),(.int .i64 0)] [(0,1),(1,1)]) [.cn (.int .i64 10382),.cn (.int .i64 10383)],u2 64 61 false (.eqv true [true,true]) [.tm 62,.tm 63],u1 65 .or [.tm 61,.tm 64],Zm 66 65,u2 67 66 false (.load true 2) [.tm 8],u2 68 66 false (.build [(.int .i64 0),(.int .i64 0)] [(0,1),(1,1)]) [.cn (.int .i64 783990),.cn (.int .i64 784877)],u2 69 66 false (.eqv true [true,true]) [.tm 67,.tm 68],u1 70 .or [.tm 66,.tm 69]] (ZC 70 (ZR [u1 0 .mov [.cn (.bool false)]] .ret) .skip)) (.seq (.draw [] [Zw 72 3 1,w1 73 (.call 17) [.cn (.val (.string ⟨#[109,101,97,110,116,111,110,101]⟩))],w1 74 (.call 10) [.tm 72,.tm 73,.cn (.int .i64 60),.cn (.int .i64 60),.cn (.int .i64 67)],Zu 71 74,ZE 75 0 71,ZE 76 1 71,Zu 10 75,Zu 3 76]) (.seq (.draw [] [Zw 78 3 1,w1 79 (.call 17) [.cn (.val (.string ⟨#[101,113,117,97,108]⟩))],w1 80 (.call 10) [.tm 78,.tm 79,.cn (.int .i64 60),.cn (.int .i64 60),.cn (.int .i64 61)],Zu 77 80,ZE 81 0 77,ZE 82 1 77,Zu 5 82]) (.seq (ZR [Zm 83 3,Zq 84 .neq 83 0,Zm 85 84,Zg 86 85 false 5,u2 87 85 false (.cmp .neq) [.tm 86,.cn (.int .i64 4)],u1 88 .or [.tm 85,.tm 87],Zm 89 88,Zg 90 89 false 10,u2 91 89 false .len [.tm 90],u2 92 89 false (.cmp .neq) [.tm 91,.cn (.int .i64 7)],u1 93 .or [.tm 89,.tm 92]] (ZC 93 (ZR [u1 0 .mov [.cn (.bool false)]] .ret) .skip)) (ZR [u1 94 (.buildSlice 1 3 [(.int .i64 0)] [(0,1),(1,1),(2,1)]) [.cn (.int .i64 60),.cn (.int .i64 60),.cn (.int .i64 67)],u1 95 (.buildSlice 1 3 [(.int .i64 0)] [(0,1),(1,1),(2,1)]) [.cn (.int .i64 64),.cn (.int .i64 67),.cn (.int .i64 63)],u1 96 (.buildSlice 1 3 [(.int .i64 0)] [(0,1),(1,1),(2,1)]) [.cn (.int .i64 5),.cn (.int .i64 3),.cn (.int .i64 5)],Zm 11 94,Zm 12 95,Zm 13 96] (.seq (ZR [Zi 14 0] (.block 0 (.loop (.seq (ZR [Zm 97 14,Zq 98 .lss 97 3] (ZC 98 .skip (.exit 0))) (.seq (.block 1 (.seq (.draw [] [Zu 101 10,Zu 102 14,ZX 103 7 101 102,Zy 104 0 103,Zv 105 1 104,Zu 106 11,Zu 107 14,ZX 108 1 106 107,Zv 109 1 108,w1 110 (.cmp .neq) [.tm 105,.tm 109],Zu 111 110,⟨Zg 112 111 false 10,[]⟩,⟨Zg 113 111 false 14,[]⟩,⟨u2 114 111 false (.idxAddr 7) [.tm 112,.tm 113],[]⟩,⟨Zj 115 111 false 1 114,[]⟩,⟨Zh 116 111 false 1 115,[]⟩,⟨Zg 117 111 false 12,[]⟩,⟨Zg 118 111 false 14,[]⟩,⟨u2 119 111 false (.idxAddr 1) [.tm 117,.tm 118],[]⟩,⟨Zh 120 111 false 1 119,[]⟩,⟨u2 121 111 false (.cmp .neq) [.tm 116,.tm 120],[]⟩,w1 122 .or [.tm 111,.tm 121],Zu 123 122,⟨Zg 124 123 false 10,[]⟩,⟨Zg 125 123 false 14,[]⟩,⟨u2 126 123 false (.idxAddr 7) [.tm 124,.tm 125],[]⟩,⟨Zj 127 123 false 2 126,[]⟩,⟨Zh 128 123 false 1 127,[]⟩,⟨Zg 129 123 false 13,[]⟩,⟨Zg 130 123 false 14,[]⟩,⟨u2 131 123 false (.idxAddr 1) [.tm 129,.tm 130],[]⟩,⟨Zh 132 123 false 1 131,[]⟩,⟨u2 133 123 false (.cmp .neq) [.tm 128,.tm 132],[]⟩,w1 134 .or [.tm 123,.tm 133]]) (ZC 134 (ZR [u1 0 .mov [.cn (.bool false)]] .ret) .skip))) (.region [Zm 99 14,Zp 100 99 1,Zm 14 100])))))) (ZR [u1 136 (.build [(.int .i64 0),(.int .i64 0)] [(0,1),(1,1)]) [.cn (.int .i64 100),.cn (.int .i64 101)],u1 137 (.build [(.int .i64 0),(.int .i64 0),(.int .i64 0),(.int .i64 0),(.int .i64 0),(.int .i64 0),(.int .i64 0)] [(5,2)]) [.tm 136],u1 138 (.build [(.int .i64 0),(.int .i64 0),(.int .i64 0),(.int .i64 0),(.int .i64 0),(.int .i64 0),(.int .i64 0)] []) [],u1 139 (.buildSlice 7 2 [(.int .i64 0),(.int .i64 0),(.int .i64 0),(.int .i64 0),(.int .i64 0),(.int .i64 0),(.int .i64 0)] [(0,7),(7,7)]) [.tm 137,.tm 138],u1 140 (.buildSlice 1 2 [(.int .i64 0)] [(0,1),(1,1)]) [.cn (.int .i64 110),.cn (.int .i64 3)],u1 141 (.call 7) [.tm 139,.tm 140,.cn (.int .i64 5)],Zm 135 141,Ze 142 0 135,Ze 143 1 135,Zm 15 142,Zm 3 143] (ZR [Zm 144 3,Zq 145 .eql 144 0,Zm 146 145,Zg 147 146 true 15,u2 148 146 true .len [.tm 147],u2 149 146 true (.cmp .eql) [.tm 148,.cn (.int .i64 1)],u1 150 .and [.tm 146,.tm 149],Zm 151 150,Zg 152 151 true 15,u2 153 151 true (.idxAddr 1) [.tm 152,.cn (.int .i64 0)],Zh 154 151 true 1 153,u2 155 151 true (.cmp .eql) [.tm 154,.cn (.int .i64 0)],u1 156 .and [.tm 151,.tm 155],Zm 157 156,u2 158 157 true (.call 9) [],u1 159 .and [.tm 157,.tm 158],Zm 0 159] .ret))))))))))))))⟩
theorem v5_is:Yg YBm Tryz.f5=some v5:=by kernel_rfl
def TS0:Env:={ ct:=fun n=>match n with|15=>some usuC|17=>some nmdC|14=>some rteC|16=>some SenC|18=>some coiC|10=>some planC|7=>some offC|9=>some trueC|_=>none,fn:=fun _=>none,meth:=fun _ _=>none}
theorem Ycc:TS0.ct 15=some usuC:=rfl
theorem Yce:TS0.ct 17=some nmdC:=rfl
theorem Ycb:TS0.ct 14=some rteC:=rfl
theorem Ycd:TS0.ct 16=some SenC:=rfl
theorem Ycf:TS0.ct 18=some coiC:=rfl
theorem Yca:TS0.ct 10=some planC:=rfl
theorem Ydz:TS0.ct 7=some offC:=rfl
theorem YdA:TS0.ct 9=some trueC:=rfl
theorem Yxx:Yn YBm TS0:=by
 refine⟨fun f c h=>?_,fun f vf h=>?_,(fun _ _ _ h=>by cases h),by kernel_rfl,(fun _ h=>by cases h)⟩
 . simp only[TS0]at h
   split at h
   . cases h;exact⟨Yqf,Tryz.f15,Tryz.func15,by kernel_rfl,by kernel_rfl⟩
   . cases h;exact⟨YpB,Tryz.f17,Tryz.func17,by kernel_rfl,by kernel_rfl⟩
   . cases h;exact⟨YzP,Tryz.f14,Tryz.func14,by kernel_rfl,by kernel_rfl⟩
   . cases h;exact⟨Ytv,Tryz.f16,Tryz.func16,by kernel_rfl,by kernel_rfl⟩
   . cases h;exact⟨coi_c,Tryz.f18,Tryz.func18,by kernel_rfl,by kernel_rfl⟩
   . cases h;exact⟨YyX,Tryz.f10,Tryz.func10,by kernel_rfl,by kernel_rfl⟩
   . cases h;exact⟨off_c,Tryz.f7,Tryz.func7,by kernel_rfl,by kernel_rfl⟩
   . cases h;exact⟨Yoc,Tryz.f9,Tryz.func9,by kernel_rfl,by kernel_rfl⟩
   . cases h
 . cases h
theorem YrP:(lawC []).ok YBm 5:=by
 refine Yb Tryz.func5 v5_is Yxx 600 (lawC []) fun args k h=>?_
 obtain⟨ha,hk⟩:=h
 cases Yka ha
 have hk':k (.bool true) []:=hk
 refine⟨[],trivial,?_⟩
 dsimp only[v5,YaD,lenT,Ycc,Yce,Ycb,Ycd,Ycf,Yca,Ydz,YdA,usuC,nmdC,rteC,SenC,coiC,planC,offC,trueC,go_sem,reduceIte,YBi]
 simp only[Yc,YBi,YBk,reduceCtorEq,YBj]
 refine⟨false,rfl,EQ,⟨rfl,nmE false⟩,by decide,by decide,true,rfl,MT,⟨rfl,nmE true⟩,by decide,by decide,false,rfl,EQ,⟨rfl,nmE false⟩,?_⟩
 rw[exk_1,exk_2,exk_3]
 dsimp only[YaD,lenT,Ycc,Yce,Ycb,Ycd,Ycf,Yca,Ydz,YdA,usuC,nmdC,rteC,SenC,coiC,planC,offC,trueC,go_sem,reduceIte,YBi]
 simp only[Yc,YBi,YBk,reduceCtorEq,YBj]
 refine⟨by decide,by decide,false,rfl,EQ,⟨rfl,nmE false⟩,by decide,by decide,?_⟩
 rw[exk_4]
 refine⟨fun hc=>absurd hc (by decide),fun _=>⟨true,rfl,MT,⟨rfl,nmE true⟩,fun z1=>⟨by decide,by decide,false,rfl,EQ,⟨rfl,nmE false⟩,fun z2=>⟨by decide,by decide,?_⟩⟩⟩⟩
 rw[exp_1,exp_2]
 refine⟨fun hc=>absurd hc (by decide),fun _=>?_⟩
 refine⟨by decide,by decide,by decide,?_⟩
 refine Loop.keep [10,0,0,0] Nat (fun i=>[(14,.int .i64 i)]) (fun _=>[]) [] (fun i=>i<=3) (fun i=>3-i) ?_ ?_
 . refine⟨0,by omega,?_⟩
   dsimp only[go_sem,reduceIte,YBi]
   simp only[Ya]
   exact⟨by decide,by decide,by decide,rfl⟩
 . rintro i hi
   replace hi:i<=3:=hi
   rcases(show i=0\/i=1\/i=2\/i=3 by omega)with rfl|rfl|rfl|rfl
   . dsimp only[encS,YBo,YaD,lenT,Ycc,Yce,Ycb,Ycd,Ycf,Yca,Ydz,YdA,usuC,nmdC,rteC,SenC,coiC,planC,offC,trueC,go_sem,reduceIte,YBi]
     simp only[Yc,YBi,YBk,reduceCtorEq,YBj]
     refine⟨fun _=>⟨by decide,by decide,by decide,fun _=>by decide,fun _=>by decide,fun _=>by decide,fun _=>by decide,fun _=>by decide,fun _=>by decide,fun hc=>absurd hc (by decide),fun _=>⟨1,by decide,by decide,?_⟩⟩,fun hc=>absurd (by decide) hc⟩
     simp only[Ya]
     exact⟨by decide,by decide,by decide,by decide⟩
   . dsimp only[encS,YBo,YaD,lenT,Ycc,Yce,Ycb,Ycd,Ycf,Yca,Ydz,YdA,usuC,nmdC,rteC,SenC,coiC,planC,offC,trueC,go_sem,reduceIte,YBi]
     simp only[Yc,YBi,YBk,reduceCtorEq,YBj]
     refine⟨fun _=>⟨by decide,by decide,by decide,fun _=>by decide,fun _=>by decide,fun _=>by decide,fun _=>by decide,fun _=>by decide,fun _=>by decide,fun hc=>absurd hc (by decide),fun _=>⟨2,by decide,by decide,?_⟩⟩,fun hc=>absurd (by decide) hc⟩
     simp only[Ya]
     exact⟨by decide,by decide,by decide,by decide⟩
   . dsimp only[encS,YBo,YaD,lenT,Ycc,Yce,Ycb,Ycd,Ycf,Yca,Ydz,YdA,usuC,nmdC,rteC,SenC,coiC,planC,offC,trueC,go_sem,reduceIte,YBi]
     simp only[Yc,YBi,YBk,reduceCtorEq,YBj]
     refine⟨fun _=>⟨by decide,by decide,by decide,fun _=>by decide,fun _=>by decide,fun _=>by decide,fun _=>by decide,fun _=>by decide,fun _=>by decide,fun hc=>absurd hc (by decide),fun _=>⟨3,by decide,by decide,?_⟩⟩,fun hc=>absurd (by decide) hc⟩
     simp only[Ya]
     exact⟨by decide,by decide,by decide,by decide⟩
   . dsimp only[encS,YBo,YaD,lenT,Ycc,Yce,Ycb,Ycd,Ycf,Yca,Ydz,YdA,usuC,nmdC,rteC,SenC,coiC,planC,offC,trueC,go_sem,reduceIte,YBi]
     simp only[Yc,YBi,YBk,reduceCtorEq,YBj]
     refine⟨fun hc=>absurd hc (by decide),fun _=>⟨by decide,by decide,[⟨0,0,0,0,0,100,101⟩,⟨0,0,0,0,0,0,0⟩],[110,3],⟨⟨rfl,rfl,fun q hq=>?_⟩,rfl,rfl,fun q hq=>?_⟩,fun z3=>?_⟩⟩
     . rcases(show q=0\/q=1 by omega)with rfl|rfl <;> exact Ye _
     . rcases(show q=0\/q=1 by omega)with rfl|rfl <;> exact Ye _
     rw[exk_5]
     refine⟨by decide,by decide,fun _=>by decide,fun _=>by decide,?_⟩
     dsimp only[enc1,YBo,YaD,lenT,Ycc,Yce,Ycb,Ycd,Ycf,Yca,Ydz,YdA,usuC,nmdC,rteC,SenC,coiC,planC,offC,trueC,go_sem,reduceIte,YBi]
     simp only[Yc,YBi,YBk,reduceCtorEq,YBj]
     exact YN hk'
end Go.Proofs.YtnfkhknfpaamoaaGreatDoor
namespace Go.Proofs.YtnfkhknfpaamoaaGreatDoor
open Go Go.Vx Go.RowKit
set_option maxRecDepth 100000
theorem YyQ:ownKnob YBm.godebug=none:=by kernel_rfl
theorem Yuy:laidOutB YBm=true:=by kernel_rfl
theorem gPr21:YBm.globalNamed "quintadena/ratios.primes" =some 0:=by kernel_rfl
theorem tPr21:(YBm.globals[0]?).map (·.type)=some 145:=by kernel_rfl
theorem uPr21:YBm.underlying 145=some (.array 6 2):=by kernel_rfl
theorem ePr21:YBm.underlying 2=some (.int .i64):=by kernel_rfl
theorem cPr21:YBm.cellsOf 2=1:=by kernel_rfl
theorem Yx3(os:Os)(args:Array Value):laidMetH YBm [("quintadena/ratios.primes",YcZ)] ((World.doorLaid YBm 400 os).forCall (fun _ _=>0) ⟨#[],args,[]⟩).memory:=
 laidMetH_of_parts3 (fuel:=8) (laidMet_of_run' 8 (by kernel_rfl) (by kernel_rfl)) (by kernel_rfl) (by kernel_rfl)
theorem Yex(os:Os)(started:os.Started)(H:Type)(enc:TypeId×Value->H):
   ReturnsInHanded {} Tryz.checked os 5 .any (fun w args=>(Rows.beatsKnownSpec.pre enc YBm Tryz.f5 [] false w args/\laidMetH YBm [("quintadena/ratios.primes",YcZ)] w)/\sizedMet enc YBm Tryz.f5 (OpenSpec.ofChange Rows.beatsKnownSpec) false w args)
     (Rows.beatsKnownSpec.post enc YBm Tryz.f5 false true false false):=
 YjZ (C:=Tryz.checked) (tb:=4) YyQ started (by kernel_rfl) Tryz.func5 Yuy
   (ChangeSpec.witness_shaped (enc:=enc) (C:=Tryz.checked) (os:=os) (X:=fun w _=>laidMetH YBm [("quintadena/ratios.primes",YcZ)] w) false (World.doorLaid YBm 400 os) #[] 8 rfl (World.shaped_of_RefB (by kernel_rfl) (by kernel_rfl)) (by kernel_rfl) (by kernel_rfl) (by kernel_rfl) (Yx3 os _))
   (by kernel_rfl) (by kernel_rfl) (by kernel_rfl) (by kernel_rfl) rfl (fun ds h=>match ds,h with| [],_=>⟨rfl,rfl,rfl⟩) YrP gPr21 tPr21 uPr21 ePr21 cPr21
theorem YfI:Rows.BeatsKnownSaid:=
 OpenClaim.holds_of_wide 5 Tryz.f5 rfl rfl rfl rfl rfl rfl rfl ⟨rfl,rfl,rfl,rfl,rfl⟩ rfl rfl rfl rfl rfl (by kernel_rfl) Tryz.func5 (by kernel_rfl)
   (of_decide_eq_true (by kernel_rfl)) (by unfold Func.isWrapper;first| (rw[if_pos (by decide+kernel)];kernel_rfl) | (rw[if_neg (by decide+kernel)];exact⟨rfl,rfl⟩))
   (fun os started H enc _=>Yex os started H enc)
theorem beatsKnown_holds:Rows.BeatsKnownCardSaid:=
 Claim7.holds_tied_plain_at .later [] [.data] true (true, "94d42407d23ae3a8385a795969456b42d18dd5f0f78efb07ffd4aae6d8f5af51") false
   YfI (fun _ h=>by cases h) (by kernel_rfl) (fun _ h=>by cases h) beatsKnown_row_tie rfl ⟨rfl,rfl⟩ (by kernel_rfl) rfl
   (fun f fn hf hfn=>by
     obtain rfl:f=5:=Option.some.inj ((show YBm.funcNamed Rows.beatsKnownRow.func=some 5 by kernel_rfl).symm.trans hf) |>.symm
     obtain rfl:fn=Tryz.f5:=(Option.some.inj (Tryz.func5.symm.trans hfn)).symm
     exact⟨by kernel_rfl,fun j t ht=>by
       have hall:(Tryz.f5.params.toList.all fun u=>!YBm.wantsStandIn u)=true:=by kernel_rfl
       have hm:t∈Tryz.f5.params.toList:=Array.mem_toList_iff.2 (Array.mem_of_getElem? ht)
       exact(show YBm.wantsStandIn t=false by simpa using List.all_eq_true.1 hall t hm)⟩)
   (by kernel_rfl)
end Go.Proofs.YtnfkhknfpaamoaaGreatDoor
