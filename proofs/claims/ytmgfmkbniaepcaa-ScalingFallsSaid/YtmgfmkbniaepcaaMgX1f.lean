/- Scales, walked: the small helpers, Check (both). -/
import Derived.Test.YtmgfmkbniaepcaaMgX1e
import Derived.Test.YtmgfmkbniaepcaaMgX1d
import Derived.Test.YtmgfmkbniaepcaaRows
set_option linter.all false
namespace Go.Proofs.Ytmgfmkbniaepcaa
open Go Go.Vx
set_option maxRecDepth 100000
set_option maxHeartbeats 4000000
def v41 : VF := { ntmps := 15, res := [.tmp 6], body :=
 (.seq (.region [u1 6 .mov [.cn (.bool false)]])
 (.seq (.region [u1 7 .mov [.tm 0],
 u1 8 .mov [.tm 1],
 u1 9 (.cmp .geq) [.tm 7, .tm 8],
 u1 10 .mov [.tm 9],
 u2 11 10 true .mov [.tm 0],
 u2 12 10 true .mov [.tm 2],
 u2 13 10 true (.cmp .leq) [.tm 11, .tm 12],
 u1 14 .and [.tm 10, .tm 13],
 u1 6 .mov [.tm 14]])
 .ret)) }
theorem v41_is : vfunc Try.prog Try.f41 = some v41 := by kernel_rfl
def v16 : VF := { ntmps := 9, res := [.tmp 2], body :=
 (.seq (.region [u1 2 .mov [.cn (.bool false)]])
 (.seq (.region [u1 3 .mov [.tm 0],
 u1 4 (.cmp .geq) [.tm 3, .cn (.int .i64 1)],
 u1 5 .mov [.tm 4],
 u2 6 5 true .mov [.tm 0],
 u2 7 5 true (.cmp .leq) [.tm 6, .cn (.int .i64 20)],
 u1 8 .and [.tm 5, .tm 7],
 u1 2 .mov [.tm 8]])
 .ret)) }
theorem v16_is : vfunc Try.prog Try.f16 = some v16 := by kernel_rfl
def v31 : VF := { ntmps := 16, res := [.tmp 4], body :=
 (.seq (.region [u1 2 .box [.tm 0],
 u1 4 .mov [.cn (.bool false)]])
 (.seq (.region [u1 5 .mov [.tm 1],
 u1 6 (.fieldAddr 2) [.tm 2],
 u1 7 (.load false 1) [.tm 6],
 u1 8 (.idxAddr 2) [.tm 7, .cn (.int .i64 0)],
 u1 9 (.fieldAddr 0) [.tm 8],
 u1 10 (.load false 1) [.tm 9],
 u1 11 (.cmp .geq) [.tm 5, .tm 10],
 u1 12 .mov [.tm 11],
 u2 13 12 true .mov [.tm 1],
 u2 14 12 true (.cmp .leq) [.tm 13, .cn (.int .i64 139)],
 u1 15 .and [.tm 12, .tm 14],
 u1 4 .mov [.tm 15]])
 .ret)) }
theorem v31_is : vfunc Try.prog Try.f31 = some v31 := by kernel_rfl
def v6 : VF := { ntmps := 16, res := [.tmp 4], body :=
 (.seq (.region [u1 2 .box [.tm 0],
 u1 4 .mov [.cn (.bool false)]])
 (.seq (.region [u1 5 .mov [.tm 1],
 u1 6 (.fieldAddr 2) [.tm 2],
 u1 7 (.load false 1) [.tm 6],
 u1 8 (.idxAddr 2) [.tm 7, .cn (.int .i64 0)],
 u1 9 (.fieldAddr 0) [.tm 8],
 u1 10 (.load false 1) [.tm 9],
 u1 11 (.cmp .geq) [.tm 5, .tm 10],
 u1 12 .mov [.tm 11],
 u2 13 12 true .mov [.tm 1],
 u2 14 12 true (.cmp .leq) [.tm 13, .cn (.int .i64 139)],
 u1 15 .and [.tm 12, .tm 14],
 u1 4 .mov [.tm 15]])
 .ret)) }
theorem v6_is : vfunc Try.prog Try.f6 = some v6 := by kernel_rfl
def v30 : VF := { ntmps := 87, res := [.tmp 2], body :=
 (.seq (.region [u1 1 .box [.tm 0],
 u1 2 .mov [.cn (.int .i64 0)]])
 (.seq (.seq (.region [u1 9 (.fieldAddr 2) [.tm 1],
 u1 10 (.load false 1) [.tm 9],
 u1 11 .len [.tm 10],
 u1 12 (.cmp .gtr) [.tm 11, .cn (.int .i64 3)]])
 (.cond (.tm 12) (.seq (.region [u1 2 .mov [.cn (.int .i64 3)]])
 .ret)
  .skip))
 (.seq (.region [u1 13 (.fieldAddr 2) [.tm 1],
 u1 14 (.load false 1) [.tm 13],
 u1 15 .len [.tm 14],
 u1 16 (.cmp .gtr) [.tm 15, .cn (.int .i64 0)],
 u1 17 .mov [.tm 16],
 u2 18 17 true (.fieldAddr 0) [.tm 1],
 u2 19 17 true (.load false 1) [.tm 18],
 u2 20 17 true (.call 41) [.tm 19, .cn (.int .i64 1000), .cn (.int .i64 500000)],
 u1 21 .and [.tm 17, .tm 20],
 u1 22 .mov [.tm 21],
 u2 23 22 true (.fieldAddr 1) [.tm 1],
 u2 24 22 true (.load false 1) [.tm 23],
 u2 25 22 true (.fieldAddr 0) [.tm 1],
 u2 26 22 true (.load false 1) [.tm 25],
 u2 27 22 true (.ari .sub) [.tm 26, .cn (.int .i64 1)],
 u2 28 22 true .min [.cn (.int .i64 50000), .tm 27],
 u2 29 22 true (.call 41) [.tm 24, .cn (.int .i64 0), .tm 28],
 u1 30 .and [.tm 22, .tm 29],
 u1 3 .mov [.tm 30]])
 (.seq (.seq (.region [u1 31 (.fieldAddr 3) [.tm 1],
 u1 32 (.load false 1) [.tm 31],
 u1 33 (.fieldAddr 4) [.tm 1],
 u1 34 (.load false 1) [.tm 33],
 u1 35 (.fieldAddr 5) [.tm 1],
 u1 36 (.load false 1) [.tm 35],
 u1 37 (.fieldAddr 6) [.tm 1],
 u1 38 (.load false 1) [.tm 37],
 u1 39 (.build [(.int .i64 0), (.int .i64 0), (.int .i64 0), (.int .i64 0)] [(0, 1), (1, 1), (2, 1), (3, 1)]) [.tm 32, .tm 34, .tm 36, .tm 38],
 u1 40 .mov [.cn (.int .i64 0)]])
 (.block 0 (.loop (.seq (.region [u1 41 (.cmp .lss) [.tm 40, .cn (.int .i64 4)]])
 (.seq (.cond (.tm 41) .skip
  (.exit 0))
 (.seq (.block 1 (.seq (.region [u1 42 (.index false 4 1) [.tm 39, .tm 40],
 u1 5 .mov [.tm 42]])
 (.region [u1 43 .mov [.tm 3],
 u1 44 .mov [.tm 43],
 u2 45 44 true .mov [.tm 5],
 u2 46 44 true (.call 41) [.tm 45, .cn (.int .i64 1), .cn (.int .i64 20)],
 u1 47 .and [.tm 44, .tm 46],
 u1 3 .mov [.tm 47]])))
 (.region [u1 48 (.ari .add) [.tm 40, .cn (.int .i64 1)],
 u1 40 .mov [.tm 48]])))))))
 (.seq (.region [u1 6 .mov [.cn (.int .i64 (-1))]])
 (.seq (.seq (.region [u1 49 (.fieldAddr 2) [.tm 1],
 u1 50 (.load false 1) [.tm 49],
 u1 51 .len [.tm 50],
 u1 52 .mov [.cn (.int .i64 0)]])
 (.block 2 (.loop (.seq (.region [u1 53 (.cmp .lss) [.tm 52, .tm 51]])
 (.seq (.cond (.tm 53) .skip
  (.exit 2))
 (.seq (.block 3 (.seq (.region [u1 54 (.idxAddr 2) [.tm 50, .tm 52],
 u1 55 (.load true 2) [.tm 54],
 u1 8 (.alloc [(.int .i64 0), (.int .i64 0)]) [],
 u0 (.store 2) [.tm 8, .tm 55]])
 (.seq (.region [u1 56 .mov [.tm 3],
 u1 57 .mov [.tm 56],
 u2 58 57 true (.fieldAddr 0) [.tm 8],
 u2 59 57 true (.load false 1) [.tm 58],
 u2 60 57 true .mov [.tm 6],
 u2 61 57 true (.cmp .gtr) [.tm 59, .tm 60],
 u1 62 .and [.tm 57, .tm 61],
 u1 63 .mov [.tm 62],
 u2 64 63 true (.fieldAddr 0) [.tm 8],
 u2 65 63 true (.load false 1) [.tm 64],
 u2 66 63 true (.cmp .leq) [.tm 65, .cn (.int .i64 139)],
 u1 67 .and [.tm 63, .tm 66],
 u1 68 .mov [.tm 67],
 u2 69 68 true (.fieldAddr 1) [.tm 8],
 u2 70 68 true (.load false 1) [.tm 69],
 u2 71 68 true (.call 41) [.tm 70, .cn (.int .i64 8), .cn (.int .i64 64)],
 u1 72 .and [.tm 68, .tm 71],
 u1 3 .mov [.tm 72]])
 (.region [u1 73 .mov [.tm 6],
 u1 74 (.fieldAddr 0) [.tm 8],
 u1 75 (.load false 1) [.tm 74],
 u1 76 .max [.tm 73, .tm 75],
 u1 6 .mov [.tm 76]]))))
 (.region [u1 77 (.ari .add) [.tm 52, .cn (.int .i64 1)],
 u1 52 .mov [.tm 77]])))))))
 (.seq (.seq (.region [u1 78 .mov [.tm 3],
 u1 79 .not [.tm 78],
 u1 80 .mov [.tm 79],
 u2 81 80 false (.fieldAddr 3) [.tm 1],
 u2 82 80 false (.load false 1) [.tm 81],
 u2 83 80 false (.fieldAddr 4) [.tm 1],
 u2 84 80 false (.load false 1) [.tm 83],
 u2 85 80 false (.cmp .geq) [.tm 82, .tm 84],
 u1 86 .or [.tm 80, .tm 85]])
 (.cond (.tm 86) (.seq (.region [u1 2 .mov [.cn (.int .i64 2)]])
 .ret)
  .skip))
 (.seq (.region [u1 2 .mov [.cn (.int .i64 0)]])
 .ret)))))))) }
theorem v30_is : vfunc Try.prog Try.f30 = some v30 := by kernel_rfl
def v5 : VF := { ntmps := 115, res := [.tmp 2], body :=
 (.seq (.region [u1 1 .box [.tm 0],
 u1 2 .mov [.cn (.int .i64 0)]])
 (.seq (.seq (.region [u1 5 (.fieldAddr 2) [.tm 1],
 u1 6 (.load false 1) [.tm 5],
 u1 7 .len [.tm 6],
 u1 8 (.cmp .gtr) [.tm 7, .cn (.int .i64 3)]])
 (.cond (.tm 8) (.seq (.region [u1 2 .mov [.cn (.int .i64 3)]])
 .ret)
  .skip))
 (.seq (.seq (.region [u1 3 .mov [.cn (.int .i64 0)]])
 (.block 0 (.loop (.seq (.seq (.region [u1 9 .mov [.tm 3],
 u1 10 (.fieldAddr 2) [.tm 1],
 u1 11 (.load false 1) [.tm 10],
 u1 12 .len [.tm 11],
 u1 13 (.cmp .lss) [.tm 9, .tm 12]])
 (.cond (.tm 13) .skip
  (.exit 0)))
 (.seq (.block 1 (.seq (.region [u1 16 (.fieldAddr 2) [.tm 1],
 u1 17 (.load false 1) [.tm 16],
 u1 18 .mov [.tm 3],
 u1 19 (.idxAddr 2) [.tm 17, .tm 18],
 u1 20 (.load true 2) [.tm 19],
 u1 4 (.alloc [(.int .i64 0), (.int .i64 0)]) [],
 u0 (.store 2) [.tm 4, .tm 20]])
 (.seq (.draw [] [w1 21 (.fieldAddr 0) [.tm 4],
 w1 22 (.load false 1) [.tm 21],
 w1 23 (.cmp .lss) [.tm 22, .cn (.int .i64 0)],
 w1 24 .mov [.tm 23],
 ⟨u2 25 24 false (.fieldAddr 0) [.tm 4], []⟩,
 ⟨u2 26 24 false (.load false 1) [.tm 25], []⟩,
 ⟨u2 27 24 false (.cmp .gtr) [.tm 26, .cn (.int .i64 139)], []⟩,
 w1 28 .or [.tm 24, .tm 27],
 w1 29 .mov [.tm 28],
 ⟨u2 30 29 false (.fieldAddr 1) [.tm 4], []⟩,
 ⟨u2 31 29 false (.load false 1) [.tm 30], []⟩,
 ⟨u2 32 29 false (.cmp .lss) [.tm 31, .cn (.int .i64 8)], []⟩,
 w1 33 .or [.tm 29, .tm 32],
 w1 34 .mov [.tm 33],
 ⟨u2 35 34 false (.fieldAddr 1) [.tm 4], []⟩,
 ⟨u2 36 34 false (.load false 1) [.tm 35], []⟩,
 ⟨u2 37 34 false (.cmp .gtr) [.tm 36, .cn (.int .i64 64)], []⟩,
 w1 38 .or [.tm 34, .tm 37],
 w1 39 .mov [.tm 38],
 ⟨u2 40 39 false .mov [.tm 3], []⟩,
 ⟨u2 41 39 false (.cmp .gtr) [.tm 40, .cn (.int .i64 0)], []⟩,
 ⟨u2 42 39 false .mov [.tm 41], []⟩,
 ⟨u2 43 42 true (.fieldAddr 2) [.tm 1], []⟩,
 ⟨u2 44 42 true (.load false 1) [.tm 43], []⟩,
 ⟨u2 45 42 true .mov [.tm 3], []⟩,
 ⟨u2 46 42 true (.ari .sub) [.tm 45, .cn (.int .i64 1)], []⟩,
 ⟨u2 47 42 true (.idxAddr 2) [.tm 44, .tm 46], []⟩,
 ⟨u2 48 42 true (.fieldAddr 0) [.tm 47], []⟩,
 ⟨u2 49 42 true (.load false 1) [.tm 48], []⟩,
 ⟨u2 50 42 true (.fieldAddr 0) [.tm 4], []⟩,
 ⟨u2 51 42 true (.load false 1) [.tm 50], []⟩,
 ⟨u2 52 42 true (.cmp .geq) [.tm 49, .tm 51], []⟩,
 ⟨u2 53 39 false .and [.tm 42, .tm 52], []⟩,
 w1 54 .or [.tm 39, .tm 53]])
 (.cond (.tm 54) (.seq (.region [u1 2 .mov [.cn (.int .i64 2)]])
 .ret)
  .skip))))
 (.region [u1 14 .mov [.tm 3],
 u1 15 (.ari .add) [.tm 14, .cn (.int .i64 1)],
 u1 3 .mov [.tm 15]]))))))
 (.seq (.seq (.region [u1 55 (.fieldAddr 2) [.tm 1],
 u1 56 (.load false 1) [.tm 55],
 u1 57 .len [.tm 56],
 u1 58 (.cmp .eql) [.tm 57, .cn (.int .i64 0)],
 u1 59 .mov [.tm 58],
 u2 60 59 false (.fieldAddr 0) [.tm 1],
 u2 61 59 false (.load false 1) [.tm 60],
 u2 62 59 false (.cmp .lss) [.tm 61, .cn (.int .i64 1000)],
 u1 63 .or [.tm 59, .tm 62],
 u1 64 .mov [.tm 63],
 u2 65 64 false (.fieldAddr 0) [.tm 1],
 u2 66 64 false (.load false 1) [.tm 65],
 u2 67 64 false (.cmp .gtr) [.tm 66, .cn (.int .i64 500000)],
 u1 68 .or [.tm 64, .tm 67],
 u1 69 .mov [.tm 68],
 u2 70 69 false (.fieldAddr 1) [.tm 1],
 u2 71 69 false (.load false 1) [.tm 70],
 u2 72 69 false (.cmp .lss) [.tm 71, .cn (.int .i64 0)],
 u1 73 .or [.tm 69, .tm 72],
 u1 74 .mov [.tm 73],
 u2 75 74 false (.fieldAddr 1) [.tm 1],
 u2 76 74 false (.load false 1) [.tm 75],
 u2 77 74 false (.cmp .gtr) [.tm 76, .cn (.int .i64 50000)],
 u1 78 .or [.tm 74, .tm 77],
 u1 79 .mov [.tm 78],
 u2 80 79 false (.fieldAddr 1) [.tm 1],
 u2 81 79 false (.load false 1) [.tm 80],
 u2 82 79 false (.fieldAddr 0) [.tm 1],
 u2 83 79 false (.load false 1) [.tm 82],
 u2 84 79 false (.cmp .geq) [.tm 81, .tm 83],
 u1 85 .or [.tm 79, .tm 84]])
 (.cond (.tm 85) (.seq (.region [u1 2 .mov [.cn (.int .i64 2)]])
 .ret)
  .skip))
 (.seq (.seq (.region [u1 86 (.fieldAddr 3) [.tm 1],
 u1 87 (.load false 1) [.tm 86],
 u1 88 (.call 16) [.tm 87],
 u1 89 .not [.tm 88],
 u1 90 .mov [.tm 89],
 u2 91 90 false (.fieldAddr 4) [.tm 1],
 u2 92 90 false (.load false 1) [.tm 91],
 u2 93 90 false (.call 16) [.tm 92],
 u2 94 90 false .not [.tm 93],
 u1 95 .or [.tm 90, .tm 94],
 u1 96 .mov [.tm 95],
 u2 97 96 false (.fieldAddr 5) [.tm 1],
 u2 98 96 false (.load false 1) [.tm 97],
 u2 99 96 false (.call 16) [.tm 98],
 u2 100 96 false .not [.tm 99],
 u1 101 .or [.tm 96, .tm 100],
 u1 102 .mov [.tm 101],
 u2 103 102 false (.fieldAddr 6) [.tm 1],
 u2 104 102 false (.load false 1) [.tm 103],
 u2 105 102 false (.call 16) [.tm 104],
 u2 106 102 false .not [.tm 105],
 u1 107 .or [.tm 102, .tm 106],
 u1 108 .mov [.tm 107],
 u2 109 108 false (.fieldAddr 3) [.tm 1],
 u2 110 108 false (.load false 1) [.tm 109],
 u2 111 108 false (.fieldAddr 4) [.tm 1],
 u2 112 108 false (.load false 1) [.tm 111],
 u2 113 108 false (.cmp .geq) [.tm 110, .tm 112],
 u1 114 .or [.tm 108, .tm 113]])
 (.cond (.tm 114) (.seq (.region [u1 2 .mov [.cn (.int .i64 2)]])
 .ret)
  .skip))
 (.seq (.region [u1 2 .mov [.cn (.int .i64 0)]])
 .ret)))))) }
theorem v5_is : vfunc Try.prog Try.f5 = some v5 := by kernel_rfl
def v20 : VF := { ntmps := 28, res := [.tmp 6], body :=
 (.seq (.region [u1 3 .box [.tm 0],
 u1 6 .mov [.cn (.int .i64 0)]])
 (.seq (.seq (.region [u1 8 (.load true 7) [.tm 3],
 u1 9 (.call 30) [.tm 8],
 u1 7 .mov [.tm 9]])
 (.seq (.region [u1 10 .mov [.tm 7],
 u1 11 (.cmp .neq) [.tm 10, .cn (.int .i64 0)]])
 (.cond (.tm 11) (.seq (.region [u1 12 .mov [.tm 7],
 u1 6 .mov [.tm 12]])
 .ret)
  .skip)))
 (.seq (.seq (.region [u1 13 (.load true 7) [.tm 3],
 u1 14 .mov [.tm 1],
 u1 15 (.call 31) [.tm 13, .tm 14],
 u1 16 .not [.tm 15],
 u1 17 .mov [.tm 16],
 u2 18 17 false (.load true 7) [.tm 3],
 u2 19 17 false .mov [.tm 2],
 u2 20 17 false (.call 31) [.tm 18, .tm 19],
 u2 21 17 false .not [.tm 20],
 u1 22 .or [.tm 17, .tm 21],
 u1 23 .mov [.tm 22],
 u2 24 23 false .mov [.tm 1],
 u2 25 23 false .mov [.tm 2],
 u2 26 23 false (.cmp .gtr) [.tm 24, .tm 25],
 u1 27 .or [.tm 23, .tm 26]])
 (.cond (.tm 27) (.seq (.region [u1 6 .mov [.cn (.int .i64 2)]])
 .ret)
  .skip))
 (.seq (.region [u1 6 .mov [.cn (.int .i64 0)]])
 .ret)))) }
theorem v20_is : vfunc Try.prog Try.f20 = some v20 := by kernel_rfl
def inSC : Ctr := { alias := false, of := fun l => match l with
  | [.int .i64 n, .int .i64 a, .int .i64 b] => .fin (.bool (inS n a b)) []
  | _ => .pre False (.fin (.bool false) []) }
def partSC : Ctr := { alias := false, of := fun l => match l with
  | [.int .i64 n] => .fin (.bool (partS n)) []
  | _ => .pre False (.fin (.bool false) []) }
def K00 : Env := { ct := fun _ => none, fn := fun _ => none, meth := fun _ _ => none }
theorem K00_ok : EnvOk Try.prog K00 := by
  refine ⟨fun f c h => ?_, fun f vf h => ?_, (fun _ _ _ h => by cases h), by kernel_rfl, (fun _ h => by cases h)⟩
  · cases h
  · cases h
theorem inS_c : inSC.ok Try.prog 41 := by
  refine contract Try.func41 v41_is K00_ok 100 inSC fun args k h => ?_
  simp only [inSC] at h
  split at h
  · rename_i n a b
    refine ⟨[.int .i64 n, .int .i64 a, .int .i64 b], by simp [leL, le], ?_⟩
    dsimp only [v41, go_sem, reduceIte]
    simp only [t_all, forall_const, ne_eq, implies_true, Nat.reduceAdd, Nat.reduceLeDiff, reduceCtorEq, Nat.reduceEqDiff]
    exact ans_bool h
  · exact h.1.elim
theorem partS_c : partSC.ok Try.prog 16 := by
  refine contract Try.func16 v16_is K00_ok 100 partSC fun args k h => ?_
  simp only [partSC] at h
  split at h
  · rename_i n
    refine ⟨[.int .i64 n], by simp [leL, le], ?_⟩
    dsimp only [v16, go_sem, reduceIte]
    simp only [t_all, forall_const, ne_eq, implies_true, Nat.reduceAdd, Nat.reduceLeDiff, reduceCtorEq, Nat.reduceEqDiff]
    exact ans_bool h
  · exact h.1.elim
def hasC : Ctr := { alias := false, of := fun l => match l with
  | [.agg [.int .i64 d, .int .i64 c, .vs _ _ n sz get, .int .i64 mn, .int .i64 md, .int .i64 cn, .int .i64 cd], .int .i64 note] =>
    .ex (List (Int × Int)) fun bs => .pre (lsP 2 enc2 n sz get bs ∧ 0 < n ∧ n ≤ 9223372036854775807) (.fin (.bool (hasS ⟨d, c, bs, mn, md, cn, cd⟩ note)) [])
  | _ => .pre False (.fin (.bool false) []) }
theorem hasS_c : hasC.ok Try.prog 31 := by
  refine contract Try.func31 v31_is K00_ok 100 hasC fun args k h => ?_
  simp only [hasC] at h
  split at h
  · rename_i d c tt z n sz get mn md cn cd note
    obtain ⟨bs, ⟨⟨rfl, rfl, hg⟩, hn0, hn⟩, h⟩ := h
    refine ⟨[.agg [.int .i64 d, .int .i64 c, .vs tt z bs.length 2 (fun k => enc2 (bs.getD k default)), .int .i64 mn, .int .i64 md, .int .i64 cn, .int .i64 cd], .int .i64 note], ⟨⟨⟨rfl, rfl⟩, ⟨rfl, rfl⟩, ⟨id, rfl, rfl, rfl, hg⟩, ⟨rfl, rfl⟩, ⟨rfl, rfl⟩, ⟨rfl, rfl⟩, ⟨rfl, rfl⟩, trivial⟩, ⟨rfl, rfl⟩, trivial⟩, ?_⟩
    dsimp only [v31, enc2, Int.toNat_zero, go_sem, reduceIte]
    simp only [t_all, forall_const, ne_eq, implies_true, Nat.reduceAdd, Nat.reduceLeDiff, reduceCtorEq, Nat.reduceEqDiff]
    refine ⟨⟨by omega, by omega⟩, ans_bool h⟩
  · exact h.1.elim
theorem rhasS_c : hasC.ok Try.prog 6 := by
  refine contract Try.func6 v6_is K00_ok 100 hasC fun args k h => ?_
  simp only [hasC] at h
  split at h
  · rename_i d c tt z n sz get mn md cn cd note
    obtain ⟨bs, ⟨⟨rfl, rfl, hg⟩, hn0, hn⟩, h⟩ := h
    refine ⟨[.agg [.int .i64 d, .int .i64 c, .vs tt z bs.length 2 (fun k => enc2 (bs.getD k default)), .int .i64 mn, .int .i64 md, .int .i64 cn, .int .i64 cd], .int .i64 note], ⟨⟨⟨rfl, rfl⟩, ⟨rfl, rfl⟩, ⟨id, rfl, rfl, rfl, hg⟩, ⟨rfl, rfl⟩, ⟨rfl, rfl⟩, ⟨rfl, rfl⟩, ⟨rfl, rfl⟩, trivial⟩, ⟨rfl, rfl⟩, trivial⟩, ?_⟩
    dsimp only [v6, enc2, Int.toNat_zero, go_sem, reduceIte]
    simp only [t_all, forall_const, ne_eq, implies_true, Nat.reduceAdd, Nat.reduceLeDiff, reduceCtorEq, Nat.reduceEqDiff]
    refine ⟨⟨by omega, by omega⟩, ans_bool h⟩
  · exact h.1.elim
def ptB (g : Bool) (mn md cn cd : Int) : Nat → Bool
  | 0 => g
  | 1 => g && partS mn
  | 2 => g && partS mn && partS md
  | 3 => g && partS mn && partS md && partS cn
  | _ => g && partS mn && partS md && partS cn && partS cd
def stepG (g : Bool × Int) (b : Int × Int) : Bool × Int := (g.1 && decide (g.2 < b.1) && decide (b.1 ≤ 139) && inS b.2 8 64, max g.2 b.1)
theorem stepG_is : ∀ (r : List (Int × Int)) (g : Bool) (last : Int), (r.foldl stepG (g, last)).1 = (g && benL r last)
  | [], g, last => by rw [benL, Bool.and_true]; rfl
  | b :: r, g, last => by
    rw [List.foldl_cons, stepG, stepG_is r, benL]
    simp only
    by_cases c : last < b.1
    · rw [decide_eq_true c, show max last b.1 = b.1 by omega]
      simp only [Bool.and_true, Bool.true_and, Bool.and_assoc]
    · rw [decide_eq_false c]
      simp only [Bool.and_false, Bool.false_and]
def chkSC : Ctr := { alias := false, of := fun l => match l with
  | [.agg [.int .i64 d, .int .i64 c, .vs _ _ n sz get, .int .i64 mn, .int .i64 md, .int .i64 cn, .int .i64 cd]] =>
    .ex (List (Int × Int)) fun bs => .pre (lsP 2 enc2 n sz get bs ∧ n ≤ 9223372036854775807) (.fin (.int .i64 (chkS ⟨d, c, bs, mn, md, cn, cd⟩)) [])
  | _ => noC }
def K01 : Env := { ct := fun n => match n with | 41 => some inSC | _ => none, fn := fun _ => none, meth := fun _ _ => none }
theorem K01_ct41 : K01.ct 41 = some inSC := rfl
theorem K01_ok : EnvOk Try.prog K01 := by
  refine ⟨fun f c h => ?_, fun f vf h => ?_, (fun _ _ _ h => by cases h), by kernel_rfl, (fun _ h => by cases h)⟩
  · simp only [K01] at h
    split at h
    · cases h; exact ⟨inS_c, Try.f41, Try.func41, by kernel_rfl, by kernel_rfl⟩
    · cases h
  · cases h
theorem chkS_c : chkSC.ok Try.prog 30 := by
  refine contract Try.func30 v30_is K01_ok 400 chkSC fun args k h => ?_
  simp only [chkSC] at h
  split at h
  · rename_i d c tt z n sz get mn md cn cd
    obtain ⟨bs, ⟨⟨rfl, rfl, hg⟩, hn⟩, h⟩ := h
    refine ⟨[.agg [.int .i64 d, .int .i64 c, .vs tt z bs.length 2 (fun k => enc2 (bs.getD k default)), .int .i64 mn, .int .i64 md, .int .i64 cn, .int .i64 cd]], ⟨⟨⟨rfl, rfl⟩, ⟨rfl, rfl⟩, ⟨id, rfl, rfl, rfl, hg⟩, ⟨rfl, rfl⟩, ⟨rfl, rfl⟩, ⟨rfl, rfl⟩, ⟨rfl, rfl⟩, trivial⟩, trivial⟩, ?_⟩
    dsimp only [v30, K01_ct41, inSC, enc2, go_sem, reduceIte]
    simp only [t_all, forall_const, ne_eq, implies_true, Nat.reduceAdd, Nat.reduceLeDiff, reduceCtorEq, Nat.reduceEqDiff]
    refine ⟨fun hc => ?_, fun hc => ?_⟩
    · rw [chkS, if_pos (by simp only; omega)] at h; exact ans_int h
    · rw [chkS, if_neg (by simp only; omega)] at h
      obtain ⟨G, hG⟩ : ∃ G, G = (decide (0 < (bs.length : Int)) && inS d 1000 500000 && inS c 0 (min 50000 (IntKind.i64.wrap (d - 1)))) := ⟨_, rfl⟩
      rw [← hG]
      refine Loop.keep [1, 37] Nat (fun i => [(3, .bool (ptB G mn md cn cd i)), (40, .int .i64 i)]) (fun _ => []) [] (fun i => i ≤ 4) (fun i => 4 - i) ?_ ?_
      · refine ⟨0, by omega, ?_⟩
        dsimp only [go_sem, reduceIte]
        simp only [fin_all, imp_self, implies_true, true_and, and_true]
        exact ⟨by decide, rfl, rfl⟩
      · intro i hi
        rcases (by omega : i = 0 ∨ i = 1 ∨ i = 2 ∨ i = 3 ∨ i = 4) with rfl | rfl | rfl | rfl | rfl
        · dsimp only [K01_ct41, inSC, Int.toNat_natCast, go_sem, reduceIte]
          simp only [t_all, forall_const, ne_eq, implies_true, Nat.reduceAdd, Nat.reduceLeDiff, reduceCtorEq, Nat.reduceEqDiff]
          refine ⟨fun _ => ⟨by decide, 1, by decide, by decide, ?_⟩, fun hh => absurd (by decide) hh⟩
          simp only [fin_all, imp_self, implies_true, true_and, and_true]
          exact ⟨by decide, rfl, rfl⟩
        · dsimp only [K01_ct41, inSC, Int.toNat_natCast, go_sem, reduceIte]
          simp only [t_all, forall_const, ne_eq, implies_true, Nat.reduceAdd, Nat.reduceLeDiff, reduceCtorEq, Nat.reduceEqDiff]
          refine ⟨fun _ => ⟨by decide, 2, by decide, by decide, ?_⟩, fun hh => absurd (by decide) hh⟩
          simp only [fin_all, imp_self, implies_true, true_and, and_true]
          exact ⟨by decide, rfl, rfl⟩
        · dsimp only [K01_ct41, inSC, Int.toNat_natCast, go_sem, reduceIte]
          simp only [t_all, forall_const, ne_eq, implies_true, Nat.reduceAdd, Nat.reduceLeDiff, reduceCtorEq, Nat.reduceEqDiff]
          refine ⟨fun _ => ⟨by decide, 3, by decide, by decide, ?_⟩, fun hh => absurd (by decide) hh⟩
          simp only [fin_all, imp_self, implies_true, true_and, and_true]
          exact ⟨by decide, rfl, rfl⟩
        · dsimp only [K01_ct41, inSC, Int.toNat_natCast, go_sem, reduceIte]
          simp only [t_all, forall_const, ne_eq, implies_true, Nat.reduceAdd, Nat.reduceLeDiff, reduceCtorEq, Nat.reduceEqDiff]
          refine ⟨fun _ => ⟨by decide, 4, by decide, by decide, ?_⟩, fun hh => absurd (by decide) hh⟩
          simp only [fin_all, imp_self, implies_true, true_and, and_true]
          exact ⟨by decide, rfl, rfl⟩
        · dsimp only [K01_ct41, inSC, Int.toNat_natCast, go_sem, reduceIte]
          simp only [t_all, forall_const, ne_eq, implies_true, Nat.reduceAdd, Nat.reduceLeDiff, reduceCtorEq, Nat.reduceEqDiff]
          refine ⟨fun hh => absurd hh (by decide), fun _ => ?_⟩
          obtain ⟨G2, hG2⟩ : ∃ G2, G2 = ptB G mn md cn cd 4 := ⟨_, rfl⟩
          rw [← hG2]
          refine Loop.keep [1, 48, 0] Nat (fun i => [(3, .bool ((bs.take i).foldl stepG (G2, -1)).1), (6, .int .i64 ((bs.take i).foldl stepG (G2, -1)).2), (52, .int .i64 i)]) (fun _ => []) [] (fun i => i ≤ bs.length) (fun i => bs.length - i) ?_ ?_
          · refine ⟨0, by omega, ?_⟩
            dsimp only [go_sem, reduceIte]
            simp only [fin_all, imp_self, implies_true, true_and, and_true]
            exact ⟨by decide, rfl, rfl, rfl⟩
          · intro i hi
            dsimp only [K01_ct41, inSC, enc2, Int.toNat_natCast, go_sem, reduceIte]
            simp only [t_all, forall_const, ne_eq, implies_true, Nat.reduceAdd, Nat.reduceLeDiff, reduceCtorEq, Nat.reduceEqDiff]
            refine ⟨fun hlt => ⟨⟨by omega, by omega⟩, i + 1, by omega, by omega, ?_⟩, fun hge => ?_⟩
            · rw [foldl_take_succ (by omega), IntWalk.i64_in ((i : Int) + 1) (by omega)]
              simp only [fin_all, imp_self, implies_true, true_and, and_true]
              exact ⟨by decide, rfl, rfl, rfl⟩
            · obtain rfl : i = bs.length := by omega
              rw [List.take_length, stepG_is]
              have e : okS ⟨d, c, bs, mn, md, cn, cd⟩ = (G2 && benL bs (-1) && decide (mn < md)) := by
                have hp : ptB G mn md cn cd 4 = (G && partS mn && partS md && partS cn && partS cd) := rfl
                rw [hG2, hp, hG, okS]
                have e1 : decide (bs ≠ []) = decide (0 < (bs.length : Int)) := by
                  cases bs with
                  | nil => rfl
                  | cons b r => rw [decide_eq_true (by simp), decide_eq_true (by rw [List.length_cons]; omega)]
                simp only
                rw [e1]
                by_cases hd : inS d 1000 500000 = true
                · have hd' := hd
                  simp only [inS, Bool.and_eq_true, decide_eq_true_eq] at hd'
                  rw [IntWalk.i64_in (d - 1) (by omega)]
                · rw [Bool.not_eq_true] at hd
                  rw [hd]
                  simp only [Bool.and_false, Bool.false_and]
              rw [e] at h
              have e2 : decide (md ≤ mn) = !decide (mn < md) := by
                by_cases hh : mn < md
                · rw [decide_eq_true hh, decide_eq_false (by omega)]; rfl
                · rw [decide_eq_false hh, decide_eq_true (by omega)]; rfl
              rw [e2, ← Bool.not_and]
              refine ⟨fun hh => ?_, fun hh => ?_⟩
              · rw [Bool.not_eq_true'] at hh
                rw [hh, if_neg (by decide)] at h; exact ans_int h
              · rw [Bool.not_eq_false'] at hh
                rw [hh, if_pos rfl] at h; exact ans_int h
  · exact h.1.elim
theorem benL_all : ∀ (r : List (Int × Int)) (last : Int), benL r last = true ↔ ∀ j, j < r.length → ((r.getD j default).1 ≤ 139 ∧ 8 ≤ (r.getD j default).2 ∧ (r.getD j default).2 ≤ 64) ∧ (if j = 0 then last else (r.getD (j - 1) default).1) < (r.getD j default).1
  | [], last => by simp [benL]
  | b :: r, last => by
    have ih := benL_all r b.1
    simp only [benL, inS, Bool.and_eq_true, decide_eq_true_eq]
    constructor
    · rintro ⟨⟨⟨h1, h2⟩, h3, h4⟩, h5⟩ j hj
      cases j with
      | zero => exact ⟨⟨h2, h3, h4⟩, h1⟩
      | succ j =>
        have := ih.1 h5 j (by simpa using hj)
        refine ⟨this.1, ?_⟩
        cases j with
        | zero => exact this.2
        | succ j => exact this.2
    · intro h
      have h0 := h 0 (by simp)
      refine ⟨⟨⟨h0.2, h0.1.1⟩, h0.1.2⟩, ih.2 fun j hj => ?_⟩
      have := h (j + 1) (by simpa using hj)
      refine ⟨this.1, ?_⟩
      cases j with
      | zero => exact this.2
      | succ j => exact this.2
theorem benL_1 (r : List (Int × Int)) : benL r (-1) = true ↔ ∀ j, j < r.length → (0 ≤ (r.getD j default).1 ∧ (r.getD j default).1 ≤ 139 ∧ 8 ≤ (r.getD j default).2 ∧ (r.getD j default).2 ≤ 64) ∧ (0 < j → (r.getD (j - 1) default).1 < (r.getD j default).1) := by
  rw [benL_all]
  constructor
  · intro h j
    induction j with
    | zero =>
      intro hj
      have := h 0 hj
      simp only [if_pos] at this
      exact ⟨by omega, fun hh => absurd hh (by decide)⟩
    | succ j ih =>
      intro hj
      have h1 := h (j + 1) hj
      have h2 := ih (by omega)
      rw [if_neg (by omega)] at h1
      simp only [Nat.add_sub_cancel] at h1 ⊢
      exact ⟨by omega, fun _ => h1.2⟩
  · intro h j hj
    have h1 := h j hj
    refine ⟨h1.1.2, ?_⟩
    by_cases c : j = 0
    · rw [if_pos c]; omega
    · rw [if_neg c]; exact h1.2 (by omega)
def K02 : Env := { ct := fun n => match n with | 16 => some partSC | _ => none, fn := fun _ => none, meth := fun _ _ => none }
theorem K02_ct16 : K02.ct 16 = some partSC := rfl
theorem K02_ok : EnvOk Try.prog K02 := by
  refine ⟨fun f c h => ?_, fun f vf h => ?_, (fun _ _ _ h => by cases h), by kernel_rfl, (fun _ h => by cases h)⟩
  · simp only [K02] at h
    split at h
    · cases h; exact ⟨partS_c, Try.f16, Try.func16, by kernel_rfl, by kernel_rfl⟩
    · cases h
  · cases h
theorem rchkS_c : chkSC.ok Try.prog 5 := by
  refine contract Try.func5 v5_is K02_ok 400 chkSC fun args k h => ?_
  simp only [chkSC] at h
  split at h
  · rename_i d c tt z n sz get mn md cn cd
    obtain ⟨bs, ⟨⟨rfl, rfl, hg⟩, hn⟩, h⟩ := h
    refine ⟨[.agg [.int .i64 d, .int .i64 c, .vs tt z bs.length 2 (fun k => enc2 (bs.getD k default)), .int .i64 mn, .int .i64 md, .int .i64 cn, .int .i64 cd]], ⟨⟨⟨rfl, rfl⟩, ⟨rfl, rfl⟩, ⟨id, rfl, rfl, rfl, hg⟩, ⟨rfl, rfl⟩, ⟨rfl, rfl⟩, ⟨rfl, rfl⟩, ⟨rfl, rfl⟩, trivial⟩, trivial⟩, ?_⟩
    dsimp only [v5, enc2, go_sem, reduceIte]
    simp only [t_all, forall_const, ne_eq, implies_true, Nat.reduceAdd, Nat.reduceLeDiff, reduceCtorEq, Nat.reduceEqDiff]
    refine ⟨fun hc => ?_, fun hc => ?_⟩
    · rw [chkS, if_pos (by simp only; omega)] at h; exact ans_int h
    · rw [chkS, if_neg (by simp only; omega)] at h
      refine Loop.keep [1] Nat (fun i => [(3, .int .i64 i)]) (fun _ => []) [] (fun i => i ≤ bs.length ∧ ∀ j, j < i → (0 ≤ (bs.getD j default).1 ∧ (bs.getD j default).1 ≤ 139 ∧ 8 ≤ (bs.getD j default).2 ∧ (bs.getD j default).2 ≤ 64) ∧ (0 < j → (bs.getD (j - 1) default).1 < (bs.getD j default).1)) (fun i => bs.length - i) ?_ ?_
      · refine ⟨0, ⟨by omega, fun j hj => by omega⟩, ?_⟩
        dsimp only [go_sem, reduceIte]
        simp only [fin_all, imp_self, implies_true, true_and, and_true]
        exact ⟨by decide, rfl⟩
      · rintro i ⟨hi, hall⟩
        dsimp only [K02_ct16, partSC, enc2, Int.toNat_natCast, go_sem, reduceIte]
        simp only [t_all, forall_const, ne_eq, implies_true, Nat.reduceAdd, Nat.reduceLeDiff, reduceCtorEq, Nat.reduceEqDiff]
        refine ⟨fun hlt => ⟨⟨by omega, by omega⟩, fun hh => ?_, fun h1 h2 => by rw [h1, decide_eq_true h2]; rfl, fun hh => ?_, fun hh => ?_⟩, fun hge => ?_⟩
        · rw [Bool.and_eq_true, decide_eq_true_eq] at hh
          rw [IntWalk.i64_in ((i : Int) - 1) (by omega)]
          exact ⟨by omega, by omega⟩
        · have e : okS ⟨d, c, bs, mn, md, cn, cd⟩ ≠ true := fun ho => by
            simp only [okS, Bool.and_eq_true] at ho
            have := (benL_1 bs).1 ho.1.2 i (by omega)
            simp only [Bool.or_eq_true, Bool.and_eq_true, decide_eq_true_eq] at hh
            rcases hh with hh | hh
            · omega
            · rw [IntWalk.i64_in ((i : Int) - 1) (by omega), show ((i : Int) - 1).toNat = i - 1 by omega] at hh
              have := this.2 (by omega)
              omega
          rw [if_neg e] at h; exact ans_int h
        · simp only [Bool.or_eq_false_iff, Bool.and_eq_false_iff, decide_eq_false_iff_not] at hh
          refine ⟨i + 1, ⟨by omega, fun j hj => ?_⟩, by omega, ?_⟩
          · by_cases hji : j < i
            · exact hall j hji
            · obtain rfl : j = i := by omega
              refine ⟨by omega, fun h0 => ?_⟩
              rcases hh.2 with h3 | h3
              · omega
              · rw [IntWalk.i64_in ((j : Int) - 1) (by omega), show ((j : Int) - 1).toNat = j - 1 by omega] at h3
                omega
          · rw [IntWalk.i64_in ((i : Int) + 1) (by omega)]
            simp only [fin_all, imp_self, implies_true, true_and, and_true]
            exact ⟨by decide, rfl⟩
        · obtain rfl : i = bs.length := by omega
          have hb := (benL_1 bs).2 hall
          have e : okS ⟨d, c, bs, mn, md, cn, cd⟩ = ((!(decide ((bs.length : Int) = 0) || decide (d < 1000) || decide (500000 < d) || decide (c < 0) || decide (50000 < c) || decide (d ≤ c))) && !(!partS mn || !partS md || !partS cn || !partS cd || decide (md ≤ mn))) := by
            rw [Bool.eq_iff_iff]
            simp only [okS, hb, inS, ← List.length_eq_zero_iff, Bool.and_eq_true, Bool.not_eq_true', Bool.or_eq_false_iff, Bool.not_eq_false', decide_eq_true_eq, decide_eq_false_iff_not, ne_eq]
            constructor
            · rintro ⟨⟨⟨⟨⟨⟨⟨⟨h1, h2⟩, h3⟩, h4⟩, h5⟩, h6⟩, h7⟩, _⟩, h8⟩
              exact ⟨⟨⟨⟨⟨⟨by omega, by omega⟩, by omega⟩, by omega⟩, by omega⟩, by omega⟩, ⟨⟨⟨h4, h5⟩, h6⟩, h7⟩, by omega⟩
            · rintro ⟨⟨⟨⟨⟨⟨h1, h2⟩, h3⟩, h4⟩, h5⟩, h6⟩, ⟨⟨⟨h7, h8⟩, h9⟩, h10⟩, h11⟩
              exact ⟨⟨⟨⟨⟨⟨⟨⟨by omega, by omega⟩, by omega⟩, h7⟩, h8⟩, h9⟩, h10⟩, trivial⟩, by omega⟩
          rw [e] at h
          refine ⟨fun hh => ?_, fun hh => ⟨fun hx => ?_, fun hx => ?_⟩⟩
          · rw [hh, if_neg (by simp)] at h; exact ans_int h
          · rw [hx, if_neg (by simp)] at h; exact ans_int h
          · rw [hh, hx, if_pos (by decide)] at h; exact ans_int h
  · exact h.1.elim
end Go.Proofs.Ytmgfmkbniaepcaa
set_option linter.all false
namespace Go.Proofs.Ytmgfmkbniaepcaa
open Go Go.Vx
set_option maxRecDepth 100000
set_option maxHeartbeats 4000000
def v35 : VF := { ntmps := 37, res := [.cell 4 false 1, .cell 5 false 1], body :=
 (.seq (.region [u1 2 .box [.tm 0],
 u1 4 (.alloc [(.int .i64 0)]) [],
 u1 5 (.alloc [(.int .i64 0)]) []])
 (.scope (.seq (.region [u0 (.store 1) [.tm 5, .cn (.int .i64 1)]])
 (.seq (.region [u1 6 (.alloc [(.int .i64 0)]) [],
 u1 7 (.alloc [(.int .i64 0)]) [],
 u0 (.store 1) [.tm 6, .cn (.int .i64 0)],
 u0 (.store 1) [.tm 7, .cn (.int .i64 0)]])
 (.seq (.region [u1 11 (.mkfn (.func 46) 0) [.tm 7, .tm 4, .tm 6, .tm 5],
 u1 8 .mov [.tm 11]])
 (.seq .skip
 (.seq (.seq (.region [u1 12 (.fieldAddr 2) [.tm 2],
 u1 13 (.load false 1) [.tm 12],
 u1 14 .len [.tm 13],
 u1 15 .mov [.cn (.int .i64 0)]])
 (.block 0 (.loop (.seq (.region [u1 16 (.cmp .lss) [.tm 15, .tm 14]])
 (.seq (.cond (.tm 16) .skip
  (.exit 0))
 (.seq (.block 1 (.seq (.region [u1 17 (.idxAddr 2) [.tm 13, .tm 15],
 u1 18 (.load true 2) [.tm 17],
 u1 10 (.alloc [(.int .i64 0), (.int .i64 0)]) [],
 u0 (.store 2) [.tm 10, .tm 18]])
 (.seq (.seq (.region [u1 19 (.fieldAddr 0) [.tm 10],
 u1 20 (.load false 1) [.tm 19],
 u1 21 .mov [.tm 1],
 u1 22 (.cmp .geq) [.tm 20, .tm 21]])
 (.cond (.tm 22) (.exit 0)
  .skip))
 (.seq (.region [u1 23 .mov [.tm 8],
 u1 24 (.fieldAddr 0) [.tm 10],
 u1 25 (.load false 1) [.tm 24],
 u1 26 .callv [.tm 23, .tm 25]])
 (.draw [] [w1 27 (.fieldAddr 0) [.tm 10],
 w1 28 (.load false 1) [.tm 27],
 w1 29 (.fieldAddr 1) [.tm 10],
 w1 30 (.load false 1) [.tm 29],
 ⟨u0 (.store 1) [.tm 6, .tm 28], [.tm 29]⟩,
 w0 (.store 1) [.tm 7, .tm 30]])))))
 (.region [u1 31 (.ari .add) [.tm 15, .cn (.int .i64 1)],
 u1 15 .mov [.tm 31]])))))))
 (.seq (.region [u1 32 .mov [.tm 8],
 u1 33 .mov [.tm 1],
 u1 34 .callv [.tm 32, .tm 33]])
 (.seq (.draw [] [w1 35 (.load false 1) [.tm 4],
 w1 36 (.load false 1) [.tm 5],
 ⟨u0 (.store 1) [.tm 4, .tm 35], [.tm 5]⟩,
 w0 (.store 1) [.tm 5, .tm 36]])
 .ret))))))))) }
theorem v35_is : vfunc Try.prog Try.f35 = some v35 := by kernel_rfl
def v46 : VF := { ntmps := 20, res := [], body :=
 (.seq (.region [u1 6 (.load false 1) [.tm 1],
 u1 7 (.cmp .gtr) [.tm 6, .cn (.int .i64 0)]])
 (.cond (.tm 7) (.draw [] [w1 8 (.load false 1) [.tm 2],
 w1 9 (.load false 1) [.tm 1],
 w1 10 (.ari .mul) [.tm 8, .tm 9],
 w1 11 .mov [.tm 0],
 w1 12 (.load false 1) [.tm 3],
 w1 13 (.ari .sub) [.tm 11, .tm 12],
 w1 14 (.load false 1) [.tm 4],
 w1 15 (.ari .mul) [.tm 13, .tm 14],
 w1 16 (.ari .add) [.tm 10, .tm 15],
 w1 17 (.load false 1) [.tm 4],
 w1 18 (.load false 1) [.tm 1],
 w1 19 (.ari .mul) [.tm 17, .tm 18],
 ⟨u0 (.store 1) [.tm 2, .tm 16], [.tm 4, .tm 1]⟩,
 w0 (.store 1) [.tm 4, .tm 19]])
  .skip)) }
theorem v46_is : vfunc Try.prog Try.f46 = some v46 := by kernel_rfl
def v21 : VF := { ntmps := 48, res := [.cell 4 true 2], body :=
 (.seq (.region [u1 2 .box [.tm 0],
 u1 4 (.alloc [(.int .i64 0), (.int .i64 0)]) []])
 (.seq (.region [u1 12 (.load true 7) [.tm 2],
 u1 13 .mov [.tm 1],
 u1 14 (.call 35) [.tm 12, .tm 13],
 u1 11 .mov [.tm 14],
 u1 15 (.ext 0) [.tm 11],
 u1 16 (.ext 1) [.tm 11],
 u1 5 .mov [.tm 15],
 u1 6 .mov [.tm 16]])
 (.seq (.region [u1 18 (.fieldAddr 0) [.tm 2],
 u1 19 (.load false 1) [.tm 18],
 u1 20 (.fieldAddr 1) [.tm 2],
 u1 21 (.load false 1) [.tm 20],
 u1 22 (.ari .sub) [.tm 19, .tm 21],
 u1 23 .mov [.tm 5],
 u1 24 .neg [.tm 23],
 u1 25 (.build [(.int .i64 0), (.int .i64 0)] [(0, 1), (1, 1)]) [.cn (.int .i64 2), .tm 24],
 u1 26 (.buildSlice 2 1 [(.int .i64 0), (.int .i64 0)] [(0, 2)]) [.tm 25],
 u1 27 .mov [.tm 6],
 u1 28 (.call 36) [.tm 22, .tm 26, .tm 27],
 u1 17 .mov [.tm 28],
 u1 29 (.ext 0) [.tm 17],
 u1 30 (.ext 1) [.tm 17],
 u1 31 (.ext 2) [.tm 17],
 u1 7 .mov [.tm 29],
 u1 8 .mov [.tm 30],
 u1 9 .mov [.tm 31]])
 (.seq (.region [u1 32 (.fieldAddr 1) [.tm 2],
 u1 33 (.load false 1) [.tm 32],
 u1 34 .mov [.tm 7],
 u1 35 (.ari .add) [.tm 33, .tm 34],
 u1 36 (.fieldAddr 1) [.tm 2],
 u1 37 (.load false 1) [.tm 36],
 u1 38 .mov [.tm 7],
 u1 39 (.ari .add) [.tm 37, .tm 38],
 u1 40 (.build [(.int .i64 0), (.int .i64 0)] [(0, 1), (1, 1)]) [.tm 35, .tm 39],
 u1 10 (.alloc [(.int .i64 0), (.int .i64 0)]) [],
 u0 (.store 2) [.tm 10, .tm 40]])
 (.seq (.seq (.region [u1 41 .mov [.tm 8],
 u1 42 .not [.tm 41]])
 (.cond (.tm 42) (.region [u1 43 (.fieldAddr 1) [.tm 10],
 u1 44 (.load false 1) [.tm 43],
 u1 45 (.ari .add) [.tm 44, .cn (.int .i64 1)],
 u1 46 (.fieldAddr 1) [.tm 10],
 u0 (.store 1) [.tm 46, .tm 45]])
  .skip))
 (.seq (.region [u1 47 (.load true 2) [.tm 10],
 u0 (.store 2) [.tm 4, .tm 47]])
 .ret)))))) }
theorem v21_is : vfunc Try.prog Try.f21 = some v21 := by kernel_rfl
def v8 : VF := { ntmps := 18, res := [.cell 4 true 2, .tmp 5], body :=
 (.seq (.region [u1 2 .box [.tm 0],
 u1 4 (.alloc [(.int .i64 0), (.int .i64 0)]) [],
 u1 5 .mov [.cn (.int .i64 0)]])
 (.seq (.seq (.region [u1 7 (.load true 7) [.tm 2],
 u1 8 .mov [.tm 1],
 u1 9 .mov [.tm 1],
 u1 10 (.call 20) [.tm 7, .tm 8, .tm 9],
 u1 6 .mov [.tm 10]])
 (.seq (.region [u1 11 .mov [.tm 6],
 u1 12 (.cmp .neq) [.tm 11, .cn (.int .i64 0)]])
 (.cond (.tm 12) (.seq (.region [u1 13 (.build [(.int .i64 0), (.int .i64 0)] []) [],
 u1 14 .mov [.tm 6],
 u0 (.store 2) [.tm 4, .tm 13],
 u1 5 .mov [.tm 14]])
 .ret)
  .skip)))
 (.seq (.region [u1 15 (.load true 7) [.tm 2],
 u1 16 .mov [.tm 1],
 u1 17 (.call 21) [.tm 15, .tm 16],
 u0 (.store 2) [.tm 4, .tm 17],
 u1 5 .mov [.cn (.int .i64 0)]])
 .ret))) }
theorem v8_is : vfunc Try.prog Try.f8 = some v8 := by kernel_rfl
theorem drop_getD {α : Type} [Inhabited α] {l : List α} {i : Nat} (h : i < l.length) : l.drop i = l.getD i default :: l.drop (i + 1) := by
  rw [List.drop_eq_getElem_cons h, List.getD_eq_getElem?_getD, List.getElem?_eq_getElem h]; rfl
theorem ans_t2 {k : SV → List HO → Prop} {al : Bool} {hp : List HO} {κ κ' : IntKind} {x y : Int} (h : k (.tup [.int κ x, .int κ' y]) []) : answers al k (.tup [.int κ x, .int κ' y]) hp :=
  ans_le (show k _ [] from h) (le_self (.tup [.int κ x, .int κ' y]) ⟨trivial, trivial, trivial⟩) (fun _ => by simp [freshS, freshL])
theorem okS_len {s : Scl} (h : chkS s = 0) : 0 < s.bs.length ∧ s.bs.length ≤ 3 ∧ okS s = true := by
  unfold chkS at h
  split at h
  · cases h
  · split at h
    · rename_i h1 h2
      refine ⟨?_, by omega, h2⟩
      simp only [okS, Bool.and_eq_true, decide_eq_true_eq] at h2
      exact List.length_pos_iff.2 h2.1.1.1.1.1.1.1.1
    · cases h
theorem ans_ii2 {k : SV → List HO → Prop} {al : Bool} {hp : List HO} {x y : Int} (h : k (.agg [.int .i64 x, .int .i64 y]) []) : answers al k (.agg [.int .i64 x, .int .i64 y]) hp :=
  ans_le (show k _ [] from h) (le_self (.agg [.int .i64 x, .int .i64 y]) ⟨trivial, trivial, trivial⟩) (fun _ => by simp [freshS, freshL])
theorem ans_iie {k : SV → List HO → Prop} {al : Bool} {hp : List HO} {x y e : Int} (h : k (.tup [.agg [.int .i64 x, .int .i64 y], .int .i64 e]) []) : answers al k (.tup [.agg [.int .i64 x, .int .i64 y], .int .i64 e]) hp :=
  ans_le (show k _ [] from h) (le_self (.tup [.agg [.int .i64 x, .int .i64 y], .int .i64 e]) ⟨⟨trivial, trivial, trivial⟩, trivial, trivial⟩) (fun _ => by simp [freshS, freshL])
def askC : Ctr := { alias := false, of := fun l => match l with
  | [.agg [.int .i64 d, .int .i64 c, .vs _ _ n sz get, .int .i64 mn, .int .i64 md, .int .i64 cn, .int .i64 cd], .int .i64 low, .int .i64 high] =>
    .ex (List (Int × Int)) fun bs => .pre (lsP 2 enc2 n sz get bs ∧ n ≤ 9223372036854775807) (.fin (.int .i64 (askS ⟨d, c, bs, mn, md, cn, cd⟩ low high)) [])
  | _ => noC }
def K10 : Env := { ct := fun n => match n with | 30 => some chkSC | 31 => some hasC | _ => none, fn := fun _ => none, meth := fun _ _ => none }
theorem K10_ct30 : K10.ct 30 = some chkSC := rfl
theorem K10_ct31 : K10.ct 31 = some hasC := rfl
theorem K10_ok : EnvOk Try.prog K10 := by
  refine ⟨fun f c h => ?_, fun f vf h => ?_, (fun _ _ _ h => by cases h), by kernel_rfl, (fun _ h => by cases h)⟩
  · simp only [K10] at h
    split at h
    · cases h; exact ⟨chkS_c, Try.f30, Try.func30, by kernel_rfl, by kernel_rfl⟩
    · cases h; exact ⟨hasS_c, Try.f31, Try.func31, by kernel_rfl, by kernel_rfl⟩
    · cases h
  · cases h
theorem ask_c : askC.ok Try.prog 20 := by
  refine contract Try.func20 v20_is K10_ok 300 askC fun args k h => ?_
  simp only [askC] at h
  split at h
  · rename_i d c tt z n sz get mn md cn cd low high
    obtain ⟨bs, ⟨⟨rfl, rfl, hg⟩, hn⟩, h⟩ := h
    refine ⟨[.agg [.int .i64 d, .int .i64 c, .vs tt z bs.length 2 (fun k => enc2 (bs.getD k default)), .int .i64 mn, .int .i64 md, .int .i64 cn, .int .i64 cd], .int .i64 low, .int .i64 high], ⟨⟨⟨rfl, rfl⟩, ⟨rfl, rfl⟩, ⟨id, rfl, rfl, rfl, hg⟩, ⟨rfl, rfl⟩, ⟨rfl, rfl⟩, ⟨rfl, rfl⟩, ⟨rfl, rfl⟩, trivial⟩, ⟨rfl, rfl⟩, ⟨rfl, rfl⟩, trivial⟩, ?_⟩
    dsimp only [v20, K10_ct30, K10_ct31, chkSC, hasC, enc2, go_sem, reduceIte]
    simp only [t_all, forall_const, ne_eq, implies_true, Nat.reduceAdd, Nat.reduceLeDiff, reduceCtorEq, Nat.reduceEqDiff]
    have self : lsP 2 enc2 bs.length 2 (fun k => [SV.int IntKind.i64 (bs.getD k default).fst, SV.int IntKind.i64 (bs.getD k default).snd]) bs := ⟨rfl, rfl, fun k _ => leXL_self _⟩
    refine ⟨bs, ⟨self, hn⟩, fun hc => ?_, fun hc => ?_⟩
    · rw [askS, if_pos hc] at h; exact ans_int h
    · rw [askS, if_neg (by rw [hc]; decide)] at h
      have hl := (okS_len hc).1
      refine ⟨bs, ⟨self, hl, hn⟩, bs, fun _ => ⟨self, hl, hn⟩, fun hh => ?_, fun hh => ?_⟩
      · rw [if_pos hh] at h; exact ans_int h
      · rw [if_neg (by rw [hh]; decide)] at h; exact ans_int h
  · exact h.1.elim
def expC : Ctr := { alias := false, of := fun l => match l with
  | [.agg [.int .i64 d, .int .i64 c, .vs _ _ n sz get, .int .i64 mn, .int .i64 md, .int .i64 cn, .int .i64 cd], .int .i64 note] =>
    .ex (List (Int × Int)) fun bs => .pre (lsP 2 enc2 n sz get bs ∧ n ≤ 9223372036854775807) (.fin (.tup [.int .i64 (expF bs note).1, .int .i64 (expF bs note).2]) [])
  | _ => noC }
def K11 : Env := { ct := fun _ => none, fn := fun n => match n with | 46 => some v46 | _ => none, meth := fun _ _ => none }
theorem K11_ct46 : K11.ct 46 = none := rfl
theorem K11_fn46 : K11.fn 46 = some v46 := rfl
theorem K11_ok : EnvOk Try.prog K11 := by
  refine ⟨fun f c h => ?_, fun f vf h => ?_, (fun _ _ _ h => by cases h), by kernel_rfl, (fun _ h => by cases h)⟩
  · cases h
  · simp only [K11] at h
    split at h
    · cases h; exact ⟨Try.f46, Try.func46, v46_is, Try.f46, Try.func46, by kernel_rfl, by kernel_rfl⟩
    · cases h
theorem exp_c : expC.ok Try.prog 35 := by
  refine contract Try.func35 v35_is K11_ok 500 expC fun args k h => ?_
  simp only [expC] at h
  split at h
  · rename_i d c tt z n sz get mn md cn cd note
    obtain ⟨bs, ⟨⟨rfl, rfl, hg⟩, hn⟩, h⟩ := h
    refine ⟨[.agg [.int .i64 d, .int .i64 c, .vs tt z bs.length 2 (fun k => enc2 (bs.getD k default)), .int .i64 mn, .int .i64 md, .int .i64 cn, .int .i64 cd], .int .i64 note], ⟨⟨⟨rfl, rfl⟩, ⟨rfl, rfl⟩, ⟨id, rfl, rfl, rfl, hg⟩, ⟨rfl, rfl⟩, ⟨rfl, rfl⟩, ⟨rfl, rfl⟩, ⟨rfl, rfl⟩, trivial⟩, ⟨rfl, rfl⟩, trivial⟩, ?_⟩
    dsimp only [v35, K11_ct46, K11_fn46, v46, enc2, go_sem, reduceIte]
    simp only [t_all, forall_const, ne_eq, implies_true, Nat.reduceAdd, Nat.reduceLeDiff, reduceCtorEq, Nat.reduceEqDiff]
    obtain ⟨R, hR⟩ : ∃ R, R = expF bs note := ⟨_, rfl⟩
    rw [← hR] at h
    refine Loop.keep [1, 2, 0, 0, 0, 0, 4, 0] (Exn × Nat) (fun s => [(15, .int .i64 s.2)]) (fun s => [(1, .box [.int .i64 s.1.n]), (2, .box [.int .i64 s.1.d]), (3, .box [.int .i64 s.1.f]), (4, .box [.int .i64 s.1.h])]) [] (fun s => s.2 ≤ bs.length ∧ R = expL note (bs.drop s.2) s.1) (fun s => bs.length - s.2) ?_ ?_
    · refine ⟨(⟨0, 0, 0, 1⟩, 0), ⟨by simp, hR⟩, ?_⟩
      dsimp only [go_sem, reduceIte]
      simp only [fin_all, imp_self, implies_true, true_and, and_true]
      decide
    · rintro ⟨e, i⟩ ⟨hi, hinv⟩
      dsimp only at hi hinv
      dsimp only [K11_ct46, K11_fn46, v46, enc2, Int.toNat_natCast, go_sem, reduceIte]
      simp only [t_all, forall_const, ne_eq, implies_true, Nat.reduceAdd, Nat.reduceLeDiff, reduceCtorEq, Nat.reduceEqDiff]
      refine ⟨fun hlt => ⟨⟨by omega, by omega⟩, fun hb => ?_, fun hb => ⟨fun hh => ?_, fun hh => ?_⟩⟩, fun hge => ?_⟩
      · rw [drop_getD (by omega : i < bs.length), expL, if_pos hb] at hinv
        rw [hinv] at h
        refine ⟨fun hh => ?_, fun hh => ?_⟩
        · rw [addE, if_pos hh] at h; exact ans_t2 h
        · rw [addE, if_neg hh] at h; exact ans_t2 h
      · rw [drop_getD (by omega : i < bs.length), expL, if_neg hb, addE, if_pos hh] at hinv
        refine ⟨(_, i + 1), ⟨by simp only; omega, hinv⟩, by simp only; omega, ?_⟩
        rw [IntWalk.i64_in ((i : Int) + 1) (by omega)]
        simp only [fin_all, imp_self, implies_true, true_and, and_true]
        exact ⟨by decide, by decide, by decide, by decide, by decide, rfl⟩
      · rw [drop_getD (by omega : i < bs.length), expL, if_neg hb, addE, if_neg hh] at hinv
        refine ⟨(_, i + 1), ⟨by simp only; omega, hinv⟩, by simp only; omega, ?_⟩
        rw [IntWalk.i64_in ((i : Int) + 1) (by omega)]
        simp only [fin_all, imp_self, implies_true, true_and, and_true]
        exact ⟨by decide, by decide, by decide, by decide, by decide, rfl⟩
      · obtain rfl : i = bs.length := by omega
        rw [List.drop_length, expL] at hinv
        rw [hinv] at h
        refine ⟨fun hh => ?_, fun hh => ?_⟩
        · rw [addE, if_pos hh] at h; exact ans_t2 h
        · rw [addE, if_neg hh] at h; exact ans_t2 h
  · exact h.1.elim
theorem exp_rng {s : Scl} (hs : chkS s = 0) {note : Int} (hn : 0 ≤ note ∧ note ≤ 139) : expF s.bs note = exE note s.bs ⟨0, 0, 0, 1⟩ ∧ 0 ≤ (expF s.bs note).1 ∧ (expF s.bs note).1 ≤ note * (expF s.bs note).2 ∧ 1 ≤ (expF s.bs note).2 ∧ (expF s.bs note).2 ≤ 262144 := by
  obtain ⟨h1, h2, h3⟩ := okS_len hs
  simp only [okS, Bool.and_eq_true] at h3
  have hok : (⟨0, 0, 0, 1⟩ : Exn).ok s.bs.length := by
    refine ⟨⟨by decide, by decide⟩, ⟨by decide, by decide⟩, ⟨by decide, by decide⟩, by decide, ?_⟩
    rw [if_pos rfl, Nat.add_zero, Int.one_mul]
    rcases (by omega : s.bs.length = 1 ∨ s.bs.length = 2 ∨ s.bs.length = 3) with e | e | e <;> rw [e] <;> decide
  obtain ⟨a, b, c, d, g⟩ := expL_is hn s.bs ⟨0, 0, 0, 1⟩ (-1) (by decide) h3.1.2 hok (fun h => absurd rfl h) (fun _ => rfl)
  rw [show expF s.bs note = expL note s.bs ⟨0, 0, 0, 1⟩ from rfl, a]
  exact ⟨rfl, b, c, d, g⟩
def diaC : Ctr := { alias := false, of := fun l => match l with
  | [.agg [.int .i64 d, .int .i64 c, .vs _ _ n sz get, .int .i64 mn, .int .i64 md, .int .i64 cn, .int .i64 cd], .int .i64 note] =>
    .ex (List (Int × Int)) fun bs => .pre (lsP 2 enc2 n sz get bs ∧ chkS ⟨d, c, bs, mn, md, cn, cd⟩ = 0 ∧ 0 ≤ note ∧ note ≤ 139) (.fin (.agg (enc2 (diaS ⟨d, c, bs, mn, md, cn, cd⟩ note))) [])
  | _ => noC }
theorem okS_rng {s : Scl} (h : chkS s = 0) : (1000 ≤ s.d ∧ s.d ≤ 500000) ∧ 0 ≤ s.c ∧ s.c < s.d := by
  have h3 := (okS_len h).2.2
  simp only [okS, inS, Bool.and_eq_true, decide_eq_true_eq] at h3
  omega
def K12 : Env := { ct := fun n => match n with | 35 => some expC | 36 => some prodC | _ => none, fn := fun _ => none, meth := fun _ _ => none }
theorem K12_ct35 : K12.ct 35 = some expC := rfl
theorem K12_ct36 : K12.ct 36 = some prodC := rfl
theorem K12_ok : EnvOk Try.prog K12 := by
  refine ⟨fun f c h => ?_, fun f vf h => ?_, (fun _ _ _ h => by cases h), by kernel_rfl, (fun _ h => by cases h)⟩
  · simp only [K12] at h
    split at h
    · cases h; exact ⟨exp_c, Try.f35, Try.func35, by kernel_rfl, by kernel_rfl⟩
    · cases h; exact ⟨prod_c, Try.f36, Try.func36, by kernel_rfl, by kernel_rfl⟩
    · cases h
  · cases h
theorem dia_c : diaC.ok Try.prog 21 := by
  refine contract Try.func21 v21_is K12_ok 500 diaC fun args k h => ?_
  simp only [diaC] at h
  split at h
  · rename_i d c tt z n sz get mn md cn cd note
    obtain ⟨bs, ⟨⟨rfl, rfl, hg⟩, hs, hnote⟩, h⟩ := h
    refine ⟨[.agg [.int .i64 d, .int .i64 c, .vs tt z bs.length 2 (fun k => enc2 (bs.getD k default)), .int .i64 mn, .int .i64 md, .int .i64 cn, .int .i64 cd], .int .i64 note], ⟨⟨⟨rfl, rfl⟩, ⟨rfl, rfl⟩, ⟨id, rfl, rfl, rfl, hg⟩, ⟨rfl, rfl⟩, ⟨rfl, rfl⟩, ⟨rfl, rfl⟩, ⟨rfl, rfl⟩, trivial⟩, ⟨rfl, rfl⟩, trivial⟩, ?_⟩
    dsimp only [v21, K12_ct35, K12_ct36, expC, prodC, enc2, go_sem, reduceIte]
    simp only [t_all, forall_const, ne_eq, implies_true, Nat.reduceAdd, Nat.reduceLeDiff, reduceCtorEq, Nat.reduceEqDiff]
    have hr := okS_rng hs
    simp only at hr
    obtain ⟨_, x1, x2, x3, x4⟩ := exp_rng hs hnote
    simp only at x1 x2 x3 x4
    have k1 : note * (expF bs note).2 ≤ 139 * 262144 := mul_le' hnote.2 x4 hnote.1 (by decide)
    have e1 : IntKind.i64.wrap (d - c) = d - c := IntWalk.i64_in _ (by omega)
    have e2 : IntKind.i64.wrap (0 - (expF bs note).1) = -(expF bs note).1 := by rw [IntWalk.i64_in _ (by omega)]; omega
    have hro : 0 ≤ (rootS (d - c) (expF bs note).1 (expF bs note).2).1 ∧ (rootS (d - c) (expF bs note).1 (expF bs note).2).1 ≤ 2000000 := by
      obtain ⟨K, g1, g2, _⟩ := rootS_is (m := (d - c).toNat) (num := (expF bs note).1.toNat) (den := (expF bs note).2.toNat) (by omega) (by omega) (by omega)
      rw [Int.toNat_of_nonneg (by omega), Int.toNat_of_nonneg (by omega), Int.toNat_of_nonneg (by omega)] at g2
      rw [g2]; omega
    refine ⟨bs, ⟨⟨rfl, rfl, fun k _ => leXL_self _⟩, ?_⟩, by decide, by decide, by decide, [(2, -(expF bs note).1)], ⟨?_, ?_, ⟨by omega, by omega⟩, by omega, by omega⟩, by decide, by decide, by decide, ?_⟩
    · have := (okS_len hs).2.1
      simp only at this; omega
    · rw [e2]
      refine ⟨rfl, rfl, fun k hk => ?_⟩
      obtain rfl : k = 0 := by omega
      exact leXL_self _
    · intro x hx
      rw [List.mem_singleton] at hx
      subst hx
      simp only [okT0, Bool.or_eq_false_iff, decide_eq_false_iff_not]
      omega
    · rw [e1]
      have e3 : (prodF (d - c) [(2, -(expF bs note).1)] (expF bs note).2).1 = (rootS (d - c) (expF bs note).1 (expF bs note).2).1 := rfl
      have e4 : (prodF (d - c) [(2, -(expF bs note).1)] (expF bs note).2).2.1 = (rootS (d - c) (expF bs note).1 (expF bs note).2).2 := rfl
      rw [e3, e4]
      unfold diaS at h
      simp only at h
      generalize rootS (d - c) (expF bs note).1 (expF bs note).2 = r at *
      have e5 : IntKind.i64.wrap (c + r.1) = c + r.1 := IntWalk.i64_in _ (by omega)
      have e6 : IntKind.i64.wrap (c + r.1 + 1) = c + r.1 + 1 := IntWalk.i64_in _ (by omega)
      rw [e5, e6]
      refine ⟨fun hh => ?_, fun hh => ?_⟩
      · rw [if_neg (by rw [hh]; decide)] at h
        exact ans_ii2 h
      · rw [if_pos hh] at h
        exact ans_ii2 h
  · exact h.1.elim
def diaFC : Ctr := { alias := false, of := fun l => match l with
  | [.agg [.int .i64 d, .int .i64 c, .vs _ _ n sz get, .int .i64 mn, .int .i64 md, .int .i64 cn, .int .i64 cd], .int .i64 note] =>
    .ex (List (Int × Int)) fun bs => .pre (lsP 2 enc2 n sz get bs ∧ n ≤ 9223372036854775807) (.fin (.tup [.agg (enc2 (diaF ⟨d, c, bs, mn, md, cn, cd⟩ note).1), .int .i64 (diaF ⟨d, c, bs, mn, md, cn, cd⟩ note).2]) [])
  | _ => .pre False (.fin (.tup [.agg [.int .i64 0, .int .i64 0], .int .i64 0]) []) }
theorem ask_0 {s : Scl} {low high : Int} (h : askS s low high = 0) : chkS s = 0 ∧ (firstN s ≤ low ∧ low ≤ 139) ∧ (firstN s ≤ high ∧ high ≤ 139) ∧ low ≤ high := by
  unfold askS at h
  split at h
  · rename_i h1; exact absurd h h1
  · rename_i h1
    split at h
    · cases h
    · rename_i h2
      simp only [Bool.or_eq_true, Bool.not_eq_true', hasS, Bool.and_eq_false_iff, decide_eq_false_iff_not, decide_eq_true_eq, not_or, Decidable.not_not] at h2
      exact ⟨by simpa using h1, by omega⟩
theorem first_rng {s : Scl} (h : chkS s = 0) : 0 ≤ firstN s ∧ firstN s ≤ 139 := by
  obtain ⟨h1, _, h3⟩ := okS_len h
  simp only [okS, Bool.and_eq_true] at h3
  have := ((benL_1 s.bs).1 h3.1.2 0 h1).1
  unfold firstN; omega
def K13 : Env := { ct := fun n => match n with | 20 => some askC | 21 => some diaC | _ => none, fn := fun _ => none, meth := fun _ _ => none }
theorem K13_ct20 : K13.ct 20 = some askC := rfl
theorem K13_ct21 : K13.ct 21 = some diaC := rfl
theorem K13_ok : EnvOk Try.prog K13 := by
  refine ⟨fun f c h => ?_, fun f vf h => ?_, (fun _ _ _ h => by cases h), by kernel_rfl, (fun _ h => by cases h)⟩
  · simp only [K13] at h
    split at h
    · cases h; exact ⟨ask_c, Try.f20, Try.func20, by kernel_rfl, by kernel_rfl⟩
    · cases h; exact ⟨dia_c, Try.f21, Try.func21, by kernel_rfl, by kernel_rfl⟩
    · cases h
  · cases h
theorem diaF_c : diaFC.ok Try.prog 8 := by
  refine contract Try.func8 v8_is K13_ok 300 diaFC fun args k h => ?_
  simp only [diaFC] at h
  split at h
  · rename_i d c tt z n sz get mn md cn cd note
    obtain ⟨bs, ⟨⟨rfl, rfl, hg⟩, hn⟩, h⟩ := h
    refine ⟨[.agg [.int .i64 d, .int .i64 c, .vs tt z bs.length 2 (fun k => enc2 (bs.getD k default)), .int .i64 mn, .int .i64 md, .int .i64 cn, .int .i64 cd], .int .i64 note], ⟨⟨⟨rfl, rfl⟩, ⟨rfl, rfl⟩, ⟨id, rfl, rfl, rfl, hg⟩, ⟨rfl, rfl⟩, ⟨rfl, rfl⟩, ⟨rfl, rfl⟩, ⟨rfl, rfl⟩, trivial⟩, ⟨rfl, rfl⟩, trivial⟩, ?_⟩
    dsimp only [v8, K13_ct20, K13_ct21, askC, diaC, enc2, go_sem, reduceIte]
    simp only [t_all, forall_const, ne_eq, implies_true, Nat.reduceAdd, Nat.reduceLeDiff, reduceCtorEq, Nat.reduceEqDiff]
    have self : lsP 2 enc2 bs.length 2 (fun k => [SV.int IntKind.i64 (bs.getD k default).fst, SV.int IntKind.i64 (bs.getD k default).snd]) bs := ⟨rfl, rfl, fun k _ => leXL_self _⟩
    refine ⟨bs, ⟨self, hn⟩, fun hc => ?_, fun hc => ?_⟩
    · rw [diaF, if_pos hc] at h; exact ans_iie h
    · rw [diaF, if_neg (by rw [hc]; decide)] at h
      obtain ⟨a1, a2, _⟩ := ask_0 hc
      have := first_rng a1
      refine ⟨bs, ⟨self, a1, by omega, a2.2⟩, ?_⟩
      (try simp only [t_all, forall_const, ne_eq, implies_true, Nat.reduceAdd, Nat.reduceLeDiff, reduceCtorEq, Nat.reduceEqDiff])
      exact ans_iie h
  · exact h.1.elim
end Go.Proofs.Ytmgfmkbniaepcaa
set_option linter.all false
namespace Go.Proofs.Ytmgfmkbniaepcaa
open Go Go.Vx
set_option maxRecDepth 100000
theorem fstL_spec {s : Scl} {p : Iv → Bool} : ∀ (f : Nat) (n : Int), 140 ≤ n + f → n ≤ 140 →
    ((fstL s p f n).2 = 0 ∧ n ≤ (fstL s p f n).1 ∧ (fstL s p f n).1 ≤ 139 ∧ p (diaS s (fstL s p f n).1) = true ∧ ∀ j, n ≤ j → j < (fstL s p f n).1 → p (diaS s j) = false) ∨
    (fstL s p f n = (0, 4) ∧ ∀ j, n ≤ j → j ≤ 139 → p (diaS s j) = false)
  | 0, n, h1, h2 => Or.inr ⟨rfl, fun j h3 h4 => by omega⟩
  | f + 1, n, h1, h2 => by
    rw [fstL]
    by_cases c : 139 < n
    · rw [if_pos c]
      exact Or.inr ⟨rfl, fun j h3 h4 => by omega⟩
    · rw [if_neg c]
      by_cases hp : p (diaS s n) = true
      · rw [if_pos hp]
        exact Or.inl ⟨rfl, Int.le_refl _, by simp only; omega, hp, fun j h3 h4 => by simp only at h4; omega⟩
      · rw [if_neg hp]
        have hp' : p (diaS s n) = false := by simpa using hp
        rcases fstL_spec (s := s) (p := p) f (n + 1) (by omega) (by omega) with ⟨k1, k2, k3, k4, k5⟩ | ⟨k1, k2⟩
        · refine Or.inl ⟨k1, by omega, k3, k4, fun j h3 h4 => ?_⟩
          by_cases e : j = n
          · rw [e]; exact hp'
          · exact k5 j (by omega) h4
        · refine Or.inr ⟨k1, fun j h3 h4 => ?_⟩
          by_cases e : j = n
          · rw [e]; exact hp'
          · exact k2 j (by omega) h4
theorem fstF_spec {s : Scl} {p : Iv → Bool} {n : Int} (h0 : 0 ≤ n) (h1 : n ≤ 140) :
    ((fstF s n p).2 = 0 ∧ n ≤ (fstF s n p).1 ∧ (fstF s n p).1 ≤ 139 ∧ p (diaS s (fstF s n p).1) = true ∧ ∀ j, n ≤ j → j < (fstF s n p).1 → p (diaS s j) = false) ∨
    (fstF s n p = (0, 4) ∧ ∀ j, n ≤ j → j ≤ 139 → p (diaS s j) = false) := fstL_spec 200 n (by omega) h1
theorem dia_le {d c n1 d1 n2 d2 : Int} (hd : d ≤ 500000 ∧ 0 ≤ c ∧ c < d) (h1 : 0 ≤ n1 ∧ n1 ≤ 139 * 262144 ∧ 1 ≤ d1 ∧ d1 ≤ 262144) (h2 : 0 ≤ n2 ∧ n2 ≤ 139 * 262144 ∧ 1 ≤ d2 ∧ d2 ≤ 262144) (h : d1 * d2 ≤ (n2 * d1 - n1 * d2) * 4096) :
    (rootS (d - c) n2 d2).1 ≤ (rootS (d - c) n1 d1).1 ∧ (if (rootS (d - c) n2 d2).2 = true then c + (rootS (d - c) n2 d2).1 else c + (rootS (d - c) n2 d2).1 + 1) ≤ (if (rootS (d - c) n1 d1).2 = true then c + (rootS (d - c) n1 d1).1 else c + (rootS (d - c) n1 d1).1 + 1) := by
  obtain ⟨m, rfl⟩ : ∃ m : Nat, d = c + m := ⟨(d - c).toNat, by omega⟩
  obtain ⟨a1, rfl⟩ : ∃ a : Nat, n1 = a := ⟨n1.toNat, by omega⟩
  obtain ⟨b1, rfl⟩ : ∃ a : Nat, d1 = a := ⟨d1.toNat, by omega⟩
  obtain ⟨a2, rfl⟩ : ∃ a : Nat, n2 = a := ⟨n2.toNat, by omega⟩
  obtain ⟨b2, rfl⟩ : ∃ a : Nat, d2 = a := ⟨d2.toNat, by omega⟩
  rw [show c + (m : Int) - c = m by omega]
  have h' : b1 * b2 + a1 * b2 * 4096 ≤ a2 * b1 * 4096 := by
    rw [Int.sub_mul] at h
    have e : ((b1 * b2 + a1 * b2 * 4096 : Nat) : Int) ≤ ((a2 * b1 * 4096 : Nat) : Int) := by
      simp only [Int.natCast_add, Int.natCast_mul]
      have : ((4096 : Nat) : Int) = 4096 := rfl
      rw [this]; omega
    exact Int.ofNat_le.1 e
  obtain ⟨f1, f2⟩ := rootS_fall (m := m) (n1 := a1) (d1 := b1) (n2 := a2) (d2 := b2) (by omega) (by omega) (by omega) (by omega) (by omega) h'
  refine ⟨f1, ?_⟩
  generalize rootS (m : Int) (a1 : Int) (b1 : Int) = R at *
  generalize rootS (m : Int) (a2 : Int) (b2 : Int) = T at *
  rcases Int.lt_or_eq_of_le f1 with hlt | heq
  · split <;> split <;> omega
  · simp only [f2 heq, Bool.false_eq_true, if_false]
    split <;> omega
theorem exp_bnd {s : Scl} (hs : chkS s = 0) {note : Int} (hn : 0 ≤ note ∧ note ≤ 139) : 0 ≤ (expF s.bs note).1 ∧ (expF s.bs note).1 ≤ 139 * 262144 ∧ 1 ≤ (expF s.bs note).2 ∧ (expF s.bs note).2 ≤ 262144 := by
  obtain ⟨_, h1, h2, h3, h4⟩ := exp_rng hs hn
  have : note * (expF s.bs note).2 ≤ 139 * 262144 := mul_le' hn.2 h4 hn.1 (by decide)
  omega
theorem dia_next {s : Scl} (hs : chkS s = 0) {note : Int} (h0 : firstN s ≤ note) (h1 : note < 139) : (diaS s (note + 1)).1 ≤ (diaS s note).1 ∧ (diaS s (note + 1)).2 ≤ (diaS s note).2 := by
  have hf := first_rng hs
  have hr := okS_rng hs
  obtain ⟨l1, l2, l3⟩ := okS_len hs
  simp only [okS, Bool.and_eq_true] at l3
  have e1 := (exp_rng hs (note := note) (by omega)).1
  have e2 := (exp_rng hs (note := note + 1) (by omega)).1
  have st := exE_step (note := note) s.bs ⟨0, 0, 0, 1⟩ (-1) (by decide) l3.1.2 (by decide) (by decide) fun _ => by
    unfold firstN at h0
    cases hb : s.bs with
    | nil => rw [hb] at l1; exact absurd l1 (by decide)
    | cons b t => rw [hb] at h0; exact ⟨b, t, rfl, h0⟩
  rw [← e1, ← e2] at st
  have hp1 := exp_bnd hs (note := note) (by omega)
  have hp2 := exp_bnd hs (note := note + 1) (by omega)
  have hpos : 1 * 1 ≤ (expF s.bs note).2 * (expF s.bs (note + 1)).2 := mul_le' hp1.2.2.1 hp2.2.2.1 (by decide) (by omega)
  obtain ⟨k1, k2⟩ := dia_le (d := s.d) (c := s.c) ⟨hr.1.2, hr.2.1, hr.2.2⟩ hp1 hp2 (by omega)
  unfold diaS
  simp only
  exact ⟨by omega, k2⟩
def upB (r : List (Int × Int)) (b : Int × Int) : List (Int × Int) := r ++ [(b.1, min (b.2 + 1) 64)]
theorem benL_app : ∀ (r : List (Int × Int)) (b b' : Int × Int) (last : Int), b'.1 = b.1 → (8 ≤ b.2 → b.2 ≤ 64 → 8 ≤ b'.2 ∧ b'.2 ≤ 64) → benL (r ++ [b]) last = true → benL (r ++ [b']) last = true
  | [], b, b', last, h1, h2, h => by
    simp only [List.nil_append, benL, inS, Bool.and_eq_true, decide_eq_true_eq, and_true] at h ⊢
    have := h2 h.2.1 h.2.2
    omega
  | x :: r, b, b', last, h1, h2, h => by
    simp only [List.cons_append, benL, Bool.and_eq_true] at h ⊢
    exact ⟨h.1, benL_app r b b' x.1 h1 h2 h.2⟩
theorem benL_half : ∀ (r : List (Int × Int)) (last : Int), benL r last = true → ∀ b, b ∈ r → 8 ≤ b.2 ∧ b.2 ≤ 64
  | [], _, _, b, hb => by cases hb
  | x :: r, last, h, b, hb => by
    simp only [benL, inS, Bool.and_eq_true, decide_eq_true_eq] at h
    rcases List.mem_cons.1 hb with rfl | hb
    · exact h.1.2
    · exact benL_half r x.1 h.2 b hb
theorem up_ok {d c mn md cn cd : Int} {r : List (Int × Int)} {b : Int × Int} (h : chkS ⟨d, c, r ++ [b], mn, md, cn, cd⟩ = 0) : chkS ⟨d, c, upB r b, mn, md, cn, cd⟩ = 0 := by
  obtain ⟨h1, h2, h3⟩ := okS_len h
  simp only [List.length_append, List.length_singleton] at h2
  unfold chkS
  rw [if_neg (by simp only [upB, List.length_append, List.length_singleton]; omega), if_pos]
  simp only [okS, Bool.and_eq_true] at h3 ⊢
  obtain ⟨⟨⟨⟨⟨⟨⟨⟨a, a1⟩, a2⟩, a3⟩, a4⟩, a5⟩, a6⟩, a7⟩, a8⟩ := h3
  exact ⟨⟨⟨⟨⟨⟨⟨⟨by simp [upB], a1⟩, a2⟩, a3⟩, a4⟩, a5⟩, a6⟩, benL_app r b _ _ rfl (fun h1 h2 => by simp only; omega) a7⟩, a8⟩
theorem dia_up {d c mn md cn cd : Int} {r : List (Int × Int)} {b : Int × Int} (h : chkS ⟨d, c, r ++ [b], mn, md, cn, cd⟩ = 0) {note : Int} (hn : 0 ≤ note ∧ note ≤ 139) :
    (diaS ⟨d, c, r ++ [b], mn, md, cn, cd⟩ note).1 ≤ (diaS ⟨d, c, upB r b, mn, md, cn, cd⟩ note).1 ∧ (diaS ⟨d, c, r ++ [b], mn, md, cn, cd⟩ note).2 ≤ (diaS ⟨d, c, upB r b, mn, md, cn, cd⟩ note).2 := by
  have hu := up_ok h
  have hr := okS_rng h
  have l3 := (okS_len h).2.2
  simp only [okS, Bool.and_eq_true] at l3
  have hb := benL_half _ _ l3.1.2
  have hb0 := hb b (by simp)
  have e1 := (exp_rng h hn).1
  have e2 := (exp_rng hu hn).1
  simp only at e1 e2 hr
  have same : expF (upB r b) note = expF (r ++ [b]) note → (diaS ⟨d, c, r ++ [b], mn, md, cn, cd⟩ note).1 ≤ (diaS ⟨d, c, upB r b, mn, md, cn, cd⟩ note).1 ∧ (diaS ⟨d, c, r ++ [b], mn, md, cn, cd⟩ note).2 ≤ (diaS ⟨d, c, upB r b, mn, md, cn, cd⟩ note).2 := fun e => by
    unfold diaS
    simp only
    rw [e]; exact ⟨Int.le_refl _, Int.le_refl _⟩
  by_cases c64 : b.2 = 64
  · refine same ?_
    unfold upB
    rw [show (b.1, min (b.2 + 1) 64) = b from Prod.ext rfl (by simp only; omega)]
  · have hm : min (b.2 + 1) 64 = b.2 + 1 := by omega
    have hh := exE_half (note := note) (p := b.1) (h := b.2) (by omega) r ⟨0, 0, 0, 1⟩ (by decide) (by decide) fun x hx => by have := hb x (by simp [hx]); omega
    have eu : upB r b = r ++ [(b.1, b.2 + 1)] := by unfold upB; rw [hm]
    rw [show (b.1, b.2) = b from rfl, ← eu, ← e1, ← e2] at hh
    rcases hh with hh | hh
    · exact same hh
    · obtain ⟨k1, k2⟩ := dia_le (d := d) (c := c) ⟨hr.1.2, hr.2.1, hr.2.2⟩ (exp_bnd hu hn) (exp_bnd h hn) (by simp only; rw [Int.mul_comm (expF (upB r b) note).2]; exact hh)
      unfold diaS
      simp only at k1 k2 ⊢
      exact ⟨by omega, k2⟩
theorem dia_rng {s : Scl} (hs : chkS s = 0) {note : Int} (hn : 0 ≤ note ∧ note ≤ 139) : 0 ≤ (diaS s note).1 ∧ (diaS s note).1 ≤ (diaS s note).2 ∧ 1 ≤ (diaS s note).2 ∧ (diaS s note).2 ≤ 3000000 := by
  have hr := okS_rng hs
  have hb := exp_bnd hs hn
  obtain ⟨K, g1, g2, _, _, g5⟩ := rootS_is (m := (s.d - s.c).toNat) (num := (expF s.bs note).1.toNat) (den := (expF s.bs note).2.toNat) (by omega) (by omega) (by omega)
  rw [Int.toNat_of_nonneg (by omega), Int.toNat_of_nonneg (by omega), Int.toNat_of_nonneg (by omega)] at g2 g5
  unfold diaS
  simp only
  rw [g2]
  split
  · rename_i hx
    have := (g5 hx).1
    omega
  · omega
end Go.Proofs.Ytmgfmkbniaepcaa
set_option linter.all false
namespace Go.Proofs.Ytmgfmkbniaepcaa
open Go Go.Vx
set_option maxRecDepth 100000
set_option maxHeartbeats 4000000
def v14 : VF := { ntmps := 26, res := [.tmp 4, .tmp 5], body :=
 (.seq (.region [u1 2 .box [.tm 0],
 u1 4 .mov [.cn (.int .i64 0)],
 u1 5 .mov [.cn (.int .i64 0)]])
 (.seq (.seq (.region [u1 8 (.load true 7) [.tm 2],
 u1 9 .mov [.tm 1],
 u1 10 .mov [.tm 1],
 u1 11 (.call 20) [.tm 8, .tm 9, .tm 10],
 u1 6 .mov [.tm 11]])
 (.seq (.region [u1 12 .mov [.tm 6],
 u1 13 (.cmp .neq) [.tm 12, .cn (.int .i64 0)]])
 (.cond (.tm 13) (.seq (.region [u1 14 .mov [.tm 6],
 u1 4 .mov [.cn (.int .i64 0)],
 u1 5 .mov [.tm 14]])
 .ret)
  .skip)))
 (.seq (.region [u1 15 (.load true 7) [.tm 2],
 u1 16 .mov [.tm 1],
 u1 17 (.call 21) [.tm 15, .tm 16],
 u1 18 (.field false 0 1) [.tm 17],
 u1 7 (.alloc [(.int .i64 0)]) [],
 u0 (.store 1) [.tm 7, .tm 18]])
 (.seq (.region [u1 19 (.load true 7) [.tm 2],
 u1 20 .mov [.tm 1],
 u1 21 (.ari .add) [.tm 20, .cn (.int .i64 1)],
 u1 22 (.mkfn (.func 29) 0) [.tm 7],
 u1 23 (.call 28) [.tm 19, .tm 21, .tm 22],
 u1 24 (.ext 0) [.tm 23],
 u1 25 (.ext 1) [.tm 23],
 u1 4 .mov [.tm 24],
 u1 5 .mov [.tm 25]])
 .ret)))) }
theorem v14_is : vfunc Try.prog Try.f14 = some v14 := by kernel_rfl
def v29 : VF := { ntmps := 9, res := [.tmp 3], body :=
 (.seq (.region [u1 2 .box [.tm 0],
 u1 3 .mov [.cn (.bool false)]])
 (.seq (.region [u1 4 (.fieldAddr 1) [.tm 2],
 u1 5 (.load false 1) [.tm 4],
 u1 6 (.ari .mul) [.cn (.int .i64 2), .tm 5],
 u1 7 (.load false 1) [.tm 1],
 u1 8 (.cmp .leq) [.tm 6, .tm 7],
 u1 3 .mov [.tm 8]])
 .ret)) }
theorem v29_is : vfunc Try.prog Try.f29 = some v29 := by kernel_rfl
def v28 : VF := { ntmps := 19, res := [.cell 6 false 1, .cell 7 false 1], body :=
 (.seq (.region [u1 3 .box [.tm 0],
 u1 5 .box [.tm 2],
 u1 6 (.alloc [(.int .i64 0)]) [],
 u1 7 (.alloc [(.int .i64 0)]) []])
 (.seq (.seq (.region [u1 10 (.load true 7) [.tm 3],
 u1 11 .mov [.tm 1],
 u1 12 (.call 40) [.tm 10, .tm 11, .cn (.int .i64 139)]])
 (.block 0 (.rangeFn (.tm 12) [13, 14] (.seq (.region [u1 8 .mov [.tm 13]])
 (.region [u1 9 (.alloc [(.int .i64 0), (.int .i64 0)]) [],
 u0 (.store 2) [.tm 9, .tm 14]]))
 (.block 1 (.seq (.region [u1 15 (.load false 1) [.tm 5],
 u1 16 (.load true 2) [.tm 9],
 u1 17 .callv [.tm 15, .tm 16]])
 (.cond (.tm 17) (.seq (.region [u1 18 .mov [.tm 8],
 u0 (.store 1) [.tm 6, .tm 18],
 u0 (.store 1) [.tm 7, .cn (.int .i64 0)]])
 .ret)
  .skip))))))
 (.seq (.region [u0 (.store 1) [.tm 6, .cn (.int .i64 0)],
 u0 (.store 1) [.tm 7, .cn (.int .i64 4)]])
 .ret))) }
theorem v28_is : vfunc Try.prog Try.f28 = some v28 := by kernel_rfl
def v40 : VF := { ntmps := 8, res := [.tmp 6], body :=
 (.seq (.region [u1 3 .box [.tm 0],
 u1 4 .box [.tm 1],
 u1 5 .box [.tm 2],
 u1 6 .mov [.cn (.val .nilFunc)]])
 (.seq (.region [u1 7 (.mkfn (.func 53) 0) [.tm 4, .tm 5, .tm 3],
 u1 6 .mov [.tm 7]])
 .ret)) }
theorem v40_is : vfunc Try.prog Try.f40 = some v40 := by kernel_rfl
def v53 : VF := { ntmps := 19, res := [], body :=
 (.seq (.region [u1 6 (.load false 1) [.tm 1],
 u1 5 .mov [.tm 6]])
 (.block 0 (.loop (.seq (.seq (.region [u1 7 .mov [.tm 5],
 u1 8 (.load false 1) [.tm 2],
 u1 9 (.cmp .leq) [.tm 7, .tm 8]])
 (.cond (.tm 9) .skip
  (.exit 0)))
 (.seq (.block 1 (.seq (.region [u1 12 .mov [.tm 0],
 u1 13 .mov [.tm 5],
 u1 14 (.load true 7) [.tm 3],
 u1 15 .mov [.tm 5],
 u1 16 (.call 21) [.tm 14, .tm 15],
 u1 17 .callv [.tm 12, .tm 13, .tm 16],
 u1 18 .not [.tm 17]])
 (.cond (.tm 18) .ret
  .skip)))
 (.region [u1 10 .mov [.tm 5],
 u1 11 (.ari .add) [.tm 10, .cn (.int .i64 1)],
 u1 5 .mov [.tm 11]])))))) }
theorem v53_is : vfunc Try.prog Try.f53 = some v53 := by kernel_rfl
def v15 : VF := { ntmps := 48, res := [.tmp 6, .tmp 7], body :=
 (.seq (.region [u1 3 .box [.tm 0],
 u1 4 .box [.tm 1],
 u1 6 .mov [.cn (.int .i64 0)],
 u1 7 .mov [.cn (.int .i64 0)]])
 (.seq (.seq (.region [u1 13 (.load true 7) [.tm 3],
 u1 14 (.call 30) [.tm 13],
 u1 8 .mov [.tm 14]])
 (.seq (.region [u1 15 .mov [.tm 8],
 u1 16 (.cmp .neq) [.tm 15, .cn (.int .i64 0)]])
 (.cond (.tm 16) (.seq (.region [u1 17 .mov [.tm 8],
 u1 6 .mov [.cn (.int .i64 0)],
 u1 7 .mov [.tm 17]])
 .ret)
  .skip)))
 (.seq (.seq (.region [u1 18 (.load true 7) [.tm 4],
 u1 19 (.call 30) [.tm 18],
 u1 9 .mov [.tm 19]])
 (.seq (.region [u1 20 .mov [.tm 9],
 u1 21 (.cmp .neq) [.tm 20, .cn (.int .i64 0)]])
 (.cond (.tm 21) (.seq (.region [u1 22 .mov [.tm 9],
 u1 6 .mov [.cn (.int .i64 0)],
 u1 7 .mov [.tm 22]])
 .ret)
  .skip)))
 (.seq (.seq (.region [u1 23 (.load true 7) [.tm 3],
 u1 24 .mov [.tm 2],
 u1 25 (.call 31) [.tm 23, .tm 24],
 u1 26 .not [.tm 25]])
 (.cond (.tm 26) (.seq (.region [u1 6 .mov [.cn (.int .i64 0)],
 u1 7 .mov [.cn (.int .i64 2)]])
 .ret)
  .skip))
 (.seq (.region [u1 27 (.load true 7) [.tm 3],
 u1 28 .mov [.tm 2],
 u1 29 (.call 21) [.tm 27, .tm 28],
 u1 30 (.field false 0 1) [.tm 29],
 u1 10 (.alloc [(.int .i64 0)]) [],
 u0 (.store 1) [.tm 10, .tm 30]])
 (.seq (.draw [] [w1 32 (.load true 7) [.tm 4],
 w1 33 (.fieldAddr 2) [.tm 4],
 w1 34 (.load false 1) [.tm 33],
 w1 35 (.idxAddr 2) [.tm 34, .cn (.int .i64 0)],
 w1 36 (.fieldAddr 0) [.tm 35],
 w1 37 (.load false 1) [.tm 36],
 w1 38 (.mkfn (.func 32) 0) [.tm 10],
 w1 39 (.call 28) [.tm 32, .tm 37, .tm 38],
 w1 31 .mov [.tm 39],
 w1 40 (.ext 0) [.tm 31],
 w1 41 (.ext 1) [.tm 31],
 w1 11 .mov [.tm 40],
 w1 12 .mov [.tm 41]])
 (.seq (.seq (.region [u1 42 .mov [.tm 12],
 u1 43 (.cmp .neq) [.tm 42, .cn (.int .i64 0)]])
 (.cond (.tm 43) (.seq (.region [u1 44 .mov [.tm 12],
 u1 6 .mov [.cn (.int .i64 0)],
 u1 7 .mov [.tm 44]])
 .ret)
  .skip))
 (.seq (.region [u1 45 .mov [.tm 2],
 u1 46 .mov [.tm 11],
 u1 47 (.ari .sub) [.tm 45, .tm 46],
 u1 6 .mov [.tm 47],
 u1 7 .mov [.cn (.int .i64 0)]])
 .ret)))))))) }
theorem v15_is : vfunc Try.prog Try.f15 = some v15 := by kernel_rfl
def v32 : VF := { ntmps := 8, res := [.tmp 3], body :=
 (.seq (.region [u1 2 .box [.tm 0],
 u1 3 .mov [.cn (.bool false)]])
 (.seq (.region [u1 4 (.load false 1) [.tm 1],
 u1 5 (.fieldAddr 1) [.tm 2],
 u1 6 (.load false 1) [.tm 5],
 u1 7 (.cmp .geq) [.tm 4, .tm 6],
 u1 3 .mov [.tm 7]])
 .ret)) }
theorem v32_is : vfunc Try.prog Try.f32 = some v32 := by kernel_rfl
def halC : Ctr := { alias := false, of := fun l => match l with
  | [.agg [.int .i64 d, .int .i64 c, .vs _ _ n sz get, .int .i64 mn, .int .i64 md, .int .i64 cn, .int .i64 cd], .int .i64 note] =>
    .ex (List (Int × Int)) fun bs => .pre (lsP 2 enc2 n sz get bs ∧ n ≤ 9223372036854775807) (.fin (.tup [.int .i64 (halF ⟨d, c, bs, mn, md, cn, cd⟩ note).1, .int .i64 (halF ⟨d, c, bs, mn, md, cn, cd⟩ note).2]) [])
  | _ => noC }
def K20 : Env := { ct := fun n => match n with | 20 => some askC | 21 => some diaC | _ => none, fn := fun n => match n with | 28 => some v28 | 40 => some v40 | 53 => some v53 | 29 => some v29 | _ => none, meth := fun _ _ => none }
theorem K20_ct20 : K20.ct 20 = some askC := rfl
theorem K20_ct21 : K20.ct 21 = some diaC := rfl
theorem K20_ct28 : K20.ct 28 = none := rfl
theorem K20_fn28 : K20.fn 28 = some v28 := rfl
theorem K20_ct40 : K20.ct 40 = none := rfl
theorem K20_fn40 : K20.fn 40 = some v40 := rfl
theorem K20_ct53 : K20.ct 53 = none := rfl
theorem K20_fn53 : K20.fn 53 = some v53 := rfl
theorem K20_ct29 : K20.ct 29 = none := rfl
theorem K20_fn29 : K20.fn 29 = some v29 := rfl
theorem K20_ok : EnvOk Try.prog K20 := by
  refine ⟨fun f c h => ?_, fun f vf h => ?_, (fun _ _ _ h => by cases h), by kernel_rfl, (fun _ h => by cases h)⟩
  · simp only [K20] at h
    split at h
    · cases h; exact ⟨ask_c, Try.f20, Try.func20, by kernel_rfl, by kernel_rfl⟩
    · cases h; exact ⟨dia_c, Try.f21, Try.func21, by kernel_rfl, by kernel_rfl⟩
    · cases h
  · simp only [K20] at h
    split at h
    · cases h; exact ⟨Try.f28, Try.func28, v28_is, Try.f28, Try.func28, by kernel_rfl, by kernel_rfl⟩
    · cases h; exact ⟨Try.f40, Try.func40, v40_is, Try.f40, Try.func40, by kernel_rfl, by kernel_rfl⟩
    · cases h; exact ⟨Try.f53, Try.func53, v53_is, Try.f53, Try.func53, by kernel_rfl, by kernel_rfl⟩
    · cases h; exact ⟨Try.f29, Try.func29, v29_is, Try.f29, Try.func29, by kernel_rfl, by kernel_rfl⟩
    · cases h
theorem hal_c : halC.ok Try.prog 14 := by
  refine contract Try.func14 v14_is K20_ok 600 halC fun args k h => ?_
  simp only [halC] at h
  split at h
  · rename_i d c tt z n sz get mn md cn cd note
    obtain ⟨bs, ⟨⟨rfl, rfl, hg⟩, hn⟩, h⟩ := h
    refine ⟨[.agg [.int .i64 d, .int .i64 c, .vs tt z bs.length 2 (fun k => enc2 (bs.getD k default)), .int .i64 mn, .int .i64 md, .int .i64 cn, .int .i64 cd], .int .i64 note], ⟨⟨⟨rfl, rfl⟩, ⟨rfl, rfl⟩, ⟨id, rfl, rfl, rfl, hg⟩, ⟨rfl, rfl⟩, ⟨rfl, rfl⟩, ⟨rfl, rfl⟩, ⟨rfl, rfl⟩, trivial⟩, ⟨rfl, rfl⟩, trivial⟩, ?_⟩
    dsimp only [v14, K20_ct20, K20_ct21, askC, diaC, enc2, K20_ct28, K20_fn28, v28, K20_ct40, K20_fn40, v40, K20_ct53, K20_fn53, v53, K20_ct29, K20_fn29, v29, go_sem, reduceIte]
    simp only [t_all, forall_const, ne_eq, implies_true, Nat.reduceAdd, Nat.reduceLeDiff, reduceCtorEq, Nat.reduceEqDiff]
    have self : lsP 2 enc2 bs.length 2 (fun k => [SV.int IntKind.i64 (bs.getD k default).fst, SV.int IntKind.i64 (bs.getD k default).snd]) bs := ⟨rfl, rfl, fun k _ => leXL_self _⟩
    refine ⟨bs, ⟨self, hn⟩, fun hc => ?_, fun hc => ?_⟩
    · rw [halF, if_pos hc] at h; exact ans_t2 h
    · rw [halF, if_neg (by rw [hc]; decide)] at h
      obtain ⟨a1, a2, _⟩ := ask_0 hc
      have := first_rng a1
      refine ⟨bs, ⟨self, a1, by omega, a2.2⟩, ?_⟩
      (try dsimp only [K20_ct20, K20_ct21, askC, diaC, enc2, K20_ct28, K20_fn28, v28, K20_ct40, K20_fn40, v40, K20_ct53, K20_fn53, v53, K20_ct29, K20_fn29, v29, go_sem, reduceIte])
      (try simp only [t_all, forall_const, ne_eq, implies_true, Nat.reduceAdd, Nat.reduceLeDiff, reduceCtorEq, Nat.reduceEqDiff])
      intro l
      have hn1 : IntKind.i64.wrap (note + 1) = note + 1 := IntWalk.i64_in _ (by omega)
      rw [hn1]
      obtain ⟨S, hS⟩ : ∃ S, S = (⟨d, c, bs, mn, md, cn, cd⟩ : Scl) := ⟨_, rfl⟩
      obtain ⟨p, hp⟩ : ∃ p : Iv → Bool, p = fun x => decide (IntKind.i64.wrap (2 * x.2) ≤ (diaS S note).1) := ⟨_, rfl⟩
      obtain ⟨R, hR⟩ : ∃ R, R = fstF S (note + 1) p := ⟨_, rfl⟩
      have h : CSat (.fin (.tup [.int .i64 R.1, .int .i64 R.2]) []) k := by rw [hR, hp, hS]; exact h
      refine Loop.keep [0, 0, 0, 0] (Nat × Int) (fun s => [(5, .int .i64 s.2)]) (fun _ => []) [] (fun s => R = fstL S p s.1 s.2 ∧ 0 ≤ s.2 ∧ s.2 ≤ 140 ∧ 140 ≤ s.2 + s.1) (fun s => s.1) ?_ ?_
      · refine ⟨(200, note + 1), ⟨hR, by simp only; omega, by simp only; omega, by simp only; omega⟩, ?_⟩
        dsimp only [go_sem, reduceIte]
        simp only [fin_all, imp_self, implies_true, true_and, and_true]
        decide
      · rintro ⟨f, m⟩ ⟨hf, hm0, hm1, hmf⟩
        dsimp only at hf hm0 hm1 hmf
        dsimp only [K20_ct20, K20_ct21, askC, diaC, enc2, K20_ct28, K20_fn28, v28, K20_ct40, K20_fn40, v40, K20_ct53, K20_fn53, v53, K20_ct29, K20_fn29, v29, go_sem, reduceIte]
        simp only [t_all, forall_const, ne_eq, implies_true, Nat.reduceAdd, Nat.reduceLeDiff, reduceCtorEq, Nat.reduceEqDiff]
        refine ⟨fun hlt => ⟨bs, ⟨self, a1, hm0, hlt⟩, fun hq => ⟨by decide, by decide, ?_⟩, fun hq => ?_⟩, fun hge => ?_⟩
        · obtain ⟨g, rfl⟩ : ∃ g, f = g + 1 := ⟨f - 1, by omega⟩
          rw [fstL, if_neg (by omega), if_pos (by rw [hp, hS]; simp only; rw [decide_eq_true hq])] at hf
          rw [hf] at h
          exact ans_t2 h
        · obtain ⟨g, rfl⟩ : ∃ g, f = g + 1 := ⟨f - 1, by omega⟩
          rw [fstL, if_neg (by omega), if_neg (by rw [hp, hS]; simp only; rw [decide_eq_false hq]; decide)] at hf
          refine ⟨(g, m + 1), ⟨hf, by simp only; omega, by simp only; omega, by simp only; omega⟩, by simp only; omega, ?_⟩
          rw [IntWalk.i64_in (m + 1) (by omega)]
          simp only [fin_all, imp_self, implies_true, true_and, and_true]
          decide
        · have e : R = (0, 4) := by
            rw [hf]
            cases f with
            | zero => rfl
            | succ f => rw [fstL, if_pos (by omega)]
          rw [e] at h
          exact ⟨by decide, by decide, ans_t2 h⟩
  · exact h.1.elim
def widC : Ctr := { alias := false, of := fun l => match l with
  | [.agg [.int .i64 d, .int .i64 c, .vs _ _ n sz get, .int .i64 mn, .int .i64 md, .int .i64 cn, .int .i64 cd], .agg [.int .i64 d', .int .i64 c', .vs _ _ n' sz' get', .int .i64 mn', .int .i64 md', .int .i64 cn', .int .i64 cd'], .int .i64 note] =>
    .ex (List (Int × Int)) fun bs => .ex (List (Int × Int)) fun bt => .pre (lsP 2 enc2 n sz get bs ∧ n ≤ 9223372036854775807 ∧ lsP 2 enc2 n' sz' get' bt ∧ n' ≤ 9223372036854775807) (.fin (.tup [.int .i64 (widF ⟨d, c, bs, mn, md, cn, cd⟩ ⟨d', c', bt, mn', md', cn', cd'⟩ note).1, .int .i64 (widF ⟨d, c, bs, mn, md, cn, cd⟩ ⟨d', c', bt, mn', md', cn', cd'⟩ note).2]) [])
  | _ => noC }
def fstC : Ctr := { alias := false, of := fun l => match l with
  | [.agg [.int .i64 d, .int .i64 c, .vs _ _ n sz get, .int .i64 mn, .int .i64 md, .int .i64 cn, .int .i64 cd], .int .i64 low, .fn (.func g) [] [.xp _ [.int .i64 L]]] =>
    .ex (List (Int × Int)) fun bs => .pre (g = 32 ∧ lsP 2 enc2 n sz get bs ∧ chkS ⟨d, c, bs, mn, md, cn, cd⟩ = 0 ∧ 0 ≤ low ∧ low ≤ 140) (.fin (.tup [.int .i64 (fstF ⟨d, c, bs, mn, md, cn, cd⟩ low fun x => decide (x.2 ≤ L)).1, .int .i64 (fstF ⟨d, c, bs, mn, md, cn, cd⟩ low fun x => decide (x.2 ≤ L)).2]) [])
  | _ => noC }
def K22 : Env := { ct := fun n => match n with | 21 => some diaC | _ => none, fn := fun n => match n with | 40 => some v40 | 53 => some v53 | 32 => some v32 | _ => none, meth := fun _ _ => none }
theorem K22_ct21 : K22.ct 21 = some diaC := rfl
theorem K22_ct40 : K22.ct 40 = none := rfl
theorem K22_fn40 : K22.fn 40 = some v40 := rfl
theorem K22_ct53 : K22.ct 53 = none := rfl
theorem K22_fn53 : K22.fn 53 = some v53 := rfl
theorem K22_ct32 : K22.ct 32 = none := rfl
theorem K22_fn32 : K22.fn 32 = some v32 := rfl
theorem K22_ok : EnvOk Try.prog K22 := by
  refine ⟨fun f c h => ?_, fun f vf h => ?_, (fun _ _ _ h => by cases h), by kernel_rfl, (fun _ h => by cases h)⟩
  · simp only [K22] at h
    split at h
    · cases h; exact ⟨dia_c, Try.f21, Try.func21, by kernel_rfl, by kernel_rfl⟩
    · cases h
  · simp only [K22] at h
    split at h
    · cases h; exact ⟨Try.f40, Try.func40, v40_is, Try.f40, Try.func40, by kernel_rfl, by kernel_rfl⟩
    · cases h; exact ⟨Try.f53, Try.func53, v53_is, Try.f53, Try.func53, by kernel_rfl, by kernel_rfl⟩
    · cases h; exact ⟨Try.f32, Try.func32, v32_is, Try.f32, Try.func32, by kernel_rfl, by kernel_rfl⟩
    · cases h
theorem fst_c : fstC.ok Try.prog 28 := by
  refine contract Try.func28 v28_is K22_ok 600 fstC fun args k h => ?_
  simp only [fstC] at h
  split at h
  · rename_i d c tt z n sz get mn md cn cd low g t2 L
    obtain ⟨bs, ⟨rfl, ⟨rfl, rfl, hg⟩, hs, h0, h1⟩, h⟩ := h
    refine ⟨[.agg [.int .i64 d, .int .i64 c, .vs tt z bs.length 2 (fun k => enc2 (bs.getD k default)), .int .i64 mn, .int .i64 md, .int .i64 cn, .int .i64 cd], .int .i64 low, .fn (.func 32) [] [.xp t2 [.int .i64 L]]], ⟨⟨⟨rfl, rfl⟩, ⟨rfl, rfl⟩, ⟨id, rfl, rfl, rfl, hg⟩, ⟨rfl, rfl⟩, ⟨rfl, rfl⟩, ⟨rfl, rfl⟩, ⟨rfl, rfl⟩, trivial⟩, ⟨rfl, rfl⟩, by simp [le, leL, leXL_self, bnd_fn, bnd_xp, bndL_cons, bndL_nil, bnd_int], trivial⟩, ?_⟩
    have self : lsP 2 enc2 bs.length 2 (fun k => [SV.int IntKind.i64 (bs.getD k default).fst, SV.int IntKind.i64 (bs.getD k default).snd]) bs := ⟨rfl, rfl, fun k _ => leXL_self _⟩
    dsimp only [v28, K22_ct21, diaC, enc2, K22_ct40, K22_fn40, v40, K22_ct53, K22_fn53, v53, K22_ct32, K22_fn32, v32, go_sem, reduceIte]
    simp only [t_all, forall_const, ne_eq, implies_true, Nat.reduceAdd, Nat.reduceLeDiff, reduceCtorEq, Nat.reduceEqDiff]
    intro l
    obtain ⟨S, hS⟩ : ∃ S, S = (⟨d, c, bs, mn, md, cn, cd⟩ : Scl) := ⟨_, rfl⟩
    obtain ⟨p, hp⟩ : ∃ p : Iv → Bool, p = fun x => decide (x.2 ≤ L) := ⟨_, rfl⟩
    obtain ⟨R, hR⟩ : ∃ R, R = fstF S low p := ⟨_, rfl⟩
    have h : CSat (.fin (.tup [.int .i64 R.1, .int .i64 R.2]) []) k := by rw [hR, hp, hS]; exact h
    refine Loop.keep [0, 0, 0, 0] (Nat × Int) (fun s => [(5, .int .i64 s.2)]) (fun _ => []) [] (fun s => R = fstL S p s.1 s.2 ∧ 0 ≤ s.2 ∧ s.2 ≤ 140 ∧ 140 ≤ s.2 + s.1) (fun s => s.1) ?_ ?_
    · refine ⟨(200, low), ⟨hR, h0, h1, by simp only; omega⟩, ?_⟩
      dsimp only [go_sem, reduceIte]
      simp only [fin_all, imp_self, implies_true, true_and, and_true]
      decide
    · rintro ⟨f, m⟩ ⟨hf, hm0, hm1, hmf⟩
      dsimp only at hf hm0 hm1 hmf
      dsimp only [K22_ct21, diaC, enc2, K22_ct40, K22_fn40, v40, K22_ct53, K22_fn53, v53, K22_ct32, K22_fn32, v32, go_sem, reduceIte]
      simp only [t_all, forall_const, ne_eq, implies_true, Nat.reduceAdd, Nat.reduceLeDiff, reduceCtorEq, Nat.reduceEqDiff]
      refine ⟨fun hlt => ⟨bs, ⟨self, hs, hm0, hlt⟩, fun hq => ?_, fun hq => ?_⟩, fun hge => ?_⟩
      · obtain ⟨g, rfl⟩ : ∃ g, f = g + 1 := ⟨f - 1, by omega⟩
        rw [fstL, if_neg (by omega), if_pos (by rw [hp, hS]; simp only; rw [decide_eq_true hq])] at hf
        rw [hf] at h
        exact ans_t2 h
      · obtain ⟨g, rfl⟩ : ∃ g, f = g + 1 := ⟨f - 1, by omega⟩
        rw [fstL, if_neg (by omega), if_neg (by rw [hp, hS]; simp only; rw [decide_eq_false hq]; decide)] at hf
        refine ⟨(g, m + 1), ⟨hf, by simp only; omega, by simp only; omega, by simp only; omega⟩, by simp only; omega, ?_⟩
        rw [IntWalk.i64_in (m + 1) (by omega)]
        simp only [fin_all, imp_self, implies_true, true_and, and_true]
        decide
      · have e : R = (0, 4) := by
          rw [hf]
          cases f with
          | zero => rfl
          | succ f => rw [fstL, if_pos (by omega)]
        rw [e] at h
        exact ans_t2 h
  · exact h.1.elim
def K21 : Env := { ct := fun n => match n with | 30 => some chkSC | 31 => some hasC | 21 => some diaC | 28 => some fstC | _ => none, fn := fun _ => none, meth := fun _ _ => none }
theorem K21_ct30 : K21.ct 30 = some chkSC := rfl
theorem K21_ct31 : K21.ct 31 = some hasC := rfl
theorem K21_ct21 : K21.ct 21 = some diaC := rfl
theorem K21_ct28 : K21.ct 28 = some fstC := rfl
theorem K21_ok : EnvOk Try.prog K21 := by
  refine ⟨fun f c h => ?_, fun f vf h => ?_, (fun _ _ _ h => by cases h), by kernel_rfl, (fun _ h => by cases h)⟩
  · simp only [K21] at h
    split at h
    · cases h; exact ⟨chkS_c, Try.f30, Try.func30, by kernel_rfl, by kernel_rfl⟩
    · cases h; exact ⟨hasS_c, Try.f31, Try.func31, by kernel_rfl, by kernel_rfl⟩
    · cases h; exact ⟨dia_c, Try.f21, Try.func21, by kernel_rfl, by kernel_rfl⟩
    · cases h; exact ⟨fst_c, Try.f28, Try.func28, by kernel_rfl, by kernel_rfl⟩
    · cases h
  · cases h
theorem wid_c : widC.ok Try.prog 15 := by
  refine contract Try.func15 v15_is K21_ok 600 widC fun args k h => ?_
  simp only [widC] at h
  split at h
  · rename_i d c tt z n sz get mn md cn cd d' c' tt' z' n' sz' get' mn' md' cn' cd' note
    obtain ⟨bs, bt, ⟨⟨rfl, rfl, hg⟩, hn, ⟨rfl, rfl, hg'⟩, hn'⟩, h⟩ := h
    refine ⟨[.agg [.int .i64 d, .int .i64 c, .vs tt z bs.length 2 (fun k => enc2 (bs.getD k default)), .int .i64 mn, .int .i64 md, .int .i64 cn, .int .i64 cd], .agg [.int .i64 d', .int .i64 c', .vs tt' z' bt.length 2 (fun k => enc2 (bt.getD k default)), .int .i64 mn', .int .i64 md', .int .i64 cn', .int .i64 cd'], .int .i64 note], ⟨⟨⟨rfl, rfl⟩, ⟨rfl, rfl⟩, ⟨id, rfl, rfl, rfl, hg⟩, ⟨rfl, rfl⟩, ⟨rfl, rfl⟩, ⟨rfl, rfl⟩, ⟨rfl, rfl⟩, trivial⟩, ⟨⟨rfl, rfl⟩, ⟨rfl, rfl⟩, ⟨id, rfl, rfl, rfl, hg'⟩, ⟨rfl, rfl⟩, ⟨rfl, rfl⟩, ⟨rfl, rfl⟩, ⟨rfl, rfl⟩, trivial⟩, ⟨rfl, rfl⟩, trivial⟩, ?_⟩
    have self : lsP 2 enc2 bs.length 2 (fun k => [SV.int IntKind.i64 (bs.getD k default).fst, SV.int IntKind.i64 (bs.getD k default).snd]) bs := ⟨rfl, rfl, fun k _ => leXL_self _⟩
    have self' : lsP 2 enc2 bt.length 2 (fun k => [SV.int IntKind.i64 (bt.getD k default).fst, SV.int IntKind.i64 (bt.getD k default).snd]) bt := ⟨rfl, rfl, fun k _ => leXL_self _⟩
    dsimp only [v15, K21_ct30, K21_ct31, K21_ct21, chkSC, hasC, diaC, enc2, K21_ct28, fstC, Int.toNat_zero, go_sem, reduceIte]
    simp only [t_all, forall_const, ne_eq, implies_true, Nat.reduceAdd, Nat.reduceLeDiff, reduceCtorEq, Nat.reduceEqDiff]
    refine ⟨bs, ⟨self, hn⟩, fun hc => ?_, fun hc => ⟨bt, ⟨self', hn'⟩, fun hd => ?_, fun hd => ?_⟩⟩
    · rw [widF, if_pos hc] at h; exact ans_t2 h
    · rw [widF, if_neg (by rw [hc]; decide), if_pos hd] at h; exact ans_t2 h
    rw [widF, if_neg (by rw [hc]; decide), if_neg (by rw [hd]; decide)] at h
    refine ⟨bs, ⟨self, (okS_len hc).1, hn⟩, fun he => ?_, fun he => ?_⟩
    · rw [if_pos he] at h; exact ans_t2 h
    rw [if_neg (by rw [he]; decide)] at h
    have hfs := first_rng hc
    have hft := first_rng hd
    have hlt := (okS_len hd).1
    simp only at hlt
    have hnote := he
    simp only [hasS, Bool.and_eq_true, decide_eq_true_eq] at hnote
    refine ⟨bs, ⟨self, hc, by omega, by omega⟩, ?_⟩
    (try dsimp only [K21_ct30, K21_ct31, K21_ct21, chkSC, hasC, diaC, enc2, K21_ct28, fstC, Int.toNat_zero, go_sem, reduceIte])
    (try simp only [t_all, forall_const, ne_eq, implies_true, Nat.reduceAdd, Nat.reduceLeDiff, reduceCtorEq, Nat.reduceEqDiff])
    have h5 : 0 ≤ (bt.getD 0 default).fst ∧ (bt.getD 0 default).fst ≤ 139 := hft
    rw [show firstN ⟨d', c', bt, mn', md', cn', cd'⟩ = (bt.getD 0 default).1 from rfl] at h
    refine ⟨⟨by omega, by omega⟩, bt, ⟨self', hd, h5.1, by omega⟩, by decide, by decide, fun hx => ?_, fun hx => ?_⟩
    · rw [if_pos hx] at h; exact ans_t2 h
    · rw [if_neg (fun hh => hh hx)] at h
      have hq : 0 ≤ (fstF ⟨d', c', bt, mn', md', cn', cd'⟩ (bt.getD 0 default).fst fun x => decide (x.2 ≤ (diaS ⟨d, c, bs, mn, md, cn, cd⟩ note).1)).1 ∧ (fstF ⟨d', c', bt, mn', md', cn', cd'⟩ (bt.getD 0 default).fst fun x => decide (x.2 ≤ (diaS ⟨d, c, bs, mn, md, cn, cd⟩ note).1)).1 ≤ 139 := by
        rcases fstF_spec (s := ⟨d', c', bt, mn', md', cn', cd'⟩) (p := fun x => decide (x.2 ≤ (diaS ⟨d, c, bs, mn, md, cn, cd⟩ note).1)) h5.1 (by omega) with ⟨_, g2, g3, _⟩ | ⟨g1, _⟩
        · omega
        · rw [g1] at hx; cases hx
      rw [IntWalk.i64_in _ (by omega)]
      exact ans_t2 h
  · exact h.1.elim
end Go.Proofs.Ytmgfmkbniaepcaa
set_option linter.all false
namespace Go.Proofs.Ytmgfmkbniaepcaa
open Go Go.Vx
set_option maxRecDepth 100000
def exS : Scl := ⟨155500, 0, [(36, 16)], 1, 4, 1, 4⟩
theorem ex_36 : diaS exS 36 = (155500, 155500) := by decide +kernel
theorem ex_52 : diaS exS 52 = (77750, 77750) := by decide +kernel
theorem ex_68 : diaS exS 68 = (38875, 38875) := by decide +kernel
theorem ex_84 : diaS exS 84 = (19437, 19438) := by decide +kernel
theorem ex_51 : 77750 < (diaS exS 51).2 := by decide +kernel
theorem ex_ok : chkS exS = 0 := by decide +kernel
theorem ex_mouth : (sclF (piF (155500, 155500)).1 1 4) = ((122129, 122130), 0) ∧ sclF (122129, 122130) 1 4 = ((30532, 30533), 0) := by decide +kernel
end Go.Proofs.Ytmgfmkbniaepcaa
set_option linter.all false
namespace Go.Proofs.Ytmgfmkbniaepcaa
open Go Go.Vx
set_option maxRecDepth 100000
set_option maxHeartbeats 4000000
def v45 : VF := { ntmps := 9, res := [.tmp 2], body :=
 (.seq (.region [u1 2 .mov [.cn (.bool false)]])
 (.seq (.region [u1 3 .mov [.tm 0],
 u1 4 (.cmp .geq) [.tm 3, .cn (.int .i64 (-4611686018427387904))],
 u1 5 .mov [.tm 4],
 u2 6 5 true .mov [.tm 0],
 u2 7 5 true (.cmp .leq) [.tm 6, .cn (.int .i64 4611686018427387904)],
 u1 8 .and [.tm 5, .tm 7],
 u1 2 .mov [.tm 8]])
 .ret)) }
theorem v45_is : vfunc Try.prog Try.f45 = some v45 := by kernel_rfl
def v42 : VF := { ntmps := 36, res := [.tmp 2], body :=
 (.seq (.region [u1 2 .mov [.cn (.int .i64 0)]])
 (.seq (.seq (.region [u1 7 .mov [.tm 0],
 u1 8 .len [.tm 7],
 u1 9 .mov [.cn (.int .i64 0)]])
 (.block 0 (.loop (.seq (.region [u1 10 (.cmp .lss) [.tm 9, .tm 8]])
 (.seq (.cond (.tm 10) .skip
  (.exit 0))
 (.seq (.block 1 (.seq (.region [u1 11 (.idxAddr 2) [.tm 7, .tm 9],
 u1 12 (.load true 2) [.tm 11],
 u1 4 (.alloc [(.int .i64 0), (.int .i64 0)]) [],
 u0 (.store 2) [.tm 4, .tm 12]])
 (.seq (.region [u1 13 (.fieldAddr 0) [.tm 4],
 u1 14 (.load false 1) [.tm 13],
 u1 15 (.call 45) [.tm 14],
 u1 16 .not [.tm 15],
 u1 17 .mov [.tm 16],
 u2 18 17 false (.fieldAddr 1) [.tm 4],
 u2 19 17 false (.load false 1) [.tm 18],
 u2 20 17 false (.call 45) [.tm 19],
 u2 21 17 false .not [.tm 20],
 u1 22 .or [.tm 17, .tm 21]])
 (.cond (.tm 22) (.seq (.region [u1 2 .mov [.cn (.int .i64 7)]])
 .ret)
  .skip))))
 (.region [u1 23 (.ari .add) [.tm 9, .cn (.int .i64 1)],
 u1 9 .mov [.tm 23]])))))))
 (.seq (.seq (.region [u1 24 .mov [.tm 0],
 u1 25 .len [.tm 24],
 u1 26 .mov [.cn (.int .i64 0)]])
 (.block 2 (.loop (.seq (.region [u1 27 (.cmp .lss) [.tm 26, .tm 25]])
 (.seq (.cond (.tm 27) .skip
  (.exit 2))
 (.seq (.block 3 (.seq (.region [u1 28 (.idxAddr 2) [.tm 24, .tm 26],
 u1 29 (.load true 2) [.tm 28],
 u1 6 (.alloc [(.int .i64 0), (.int .i64 0)]) [],
 u0 (.store 2) [.tm 6, .tm 29]])
 (.seq (.region [u1 30 (.fieldAddr 0) [.tm 6],
 u1 31 (.load false 1) [.tm 30],
 u1 32 (.fieldAddr 1) [.tm 6],
 u1 33 (.load false 1) [.tm 32],
 u1 34 (.cmp .gtr) [.tm 31, .tm 33]])
 (.cond (.tm 34) (.seq (.region [u1 2 .mov [.cn (.int .i64 2)]])
 .ret)
  .skip))))
 (.region [u1 35 (.ari .add) [.tm 26, .cn (.int .i64 1)],
 u1 26 .mov [.tm 35]])))))))
 (.seq (.region [u1 2 .mov [.cn (.int .i64 0)]])
 .ret)))) }
theorem v42_is : vfunc Try.prog Try.f42 = some v42 := by kernel_rfl
def v57 : VF := { ntmps := 8, res := [.tmp 2], body :=
 (.seq (.region [u1 2 .mov [.cn (.int .u64 0)]])
 (.seq (.region [u1 3 .mov [.tm 0],
 u1 4 .mov [.tm 0],
 u1 5 .neg [.tm 4],
 u1 6 .max [.tm 3, .tm 5],
 u1 7 (.conv .u64) [.tm 6],
 u1 2 .mov [.tm 7]])
 .ret)) }
theorem v57_is : vfunc Try.prog Try.f57 = some v57 := by kernel_rfl
def v44 : VF := { ntmps := 29, res := [.cell 4 true 3], body :=
 (.seq (.region [u1 4 (.alloc [(.bool false), (.int .u64 0), (.int .u64 0)]) []])
 (.seq (.region [u1 8 .mov [.tm 0],
 u1 9 (.call 57) [.tm 8],
 u1 10 .mov [.tm 1],
 u1 11 (.call 57) [.tm 10],
 u1 12 (.call 56) [.tm 9, .tm 11],
 u1 7 .mov [.tm 12],
 u1 13 (.ext 0) [.tm 7],
 u1 14 (.ext 1) [.tm 7],
 u1 5 .mov [.tm 13],
 u1 6 .mov [.tm 14]])
 (.seq (.region [u1 15 .mov [.tm 0],
 u1 16 (.cmp .lss) [.tm 15, .cn (.int .i64 0)],
 u1 17 .mov [.tm 1],
 u1 18 (.cmp .lss) [.tm 17, .cn (.int .i64 0)],
 u1 19 (.eqb true) [.tm 16, .tm 18],
 u1 20 .mov [.tm 19],
 u2 21 20 true .mov [.tm 5],
 u2 22 20 true .mov [.tm 6],
 u2 23 20 true (.bit .or) [.tm 21, .tm 22],
 u2 24 20 true (.cmp .neq) [.tm 23, .cn (.int .u64 0)],
 u1 25 .and [.tm 20, .tm 24],
 u1 26 .mov [.tm 5],
 u1 27 .mov [.tm 6],
 u1 28 (.build [(.bool false), (.int .u64 0), (.int .u64 0)] [(0, 1), (1, 1), (2, 1)]) [.tm 25, .tm 26, .tm 27],
 u0 (.store 3) [.tm 4, .tm 28]])
 .ret))) }
theorem v44_is : vfunc Try.prog Try.f44 = some v44 := by kernel_rfl
def v54 : VF := { ntmps := 39, res := [.tmp 4], body :=
 (.seq (.region [u1 2 .box [.tm 0],
 u1 3 .box [.tm 1],
 u1 4 .mov [.cn (.bool false)]])
 (.seq (.seq (.region [u1 6 (.load true 3) [.tm 2],
 u1 7 (.load true 3) [.tm 3],
 u1 8 (.eqv false [false, true, true]) [.tm 6, .tm 7]])
 (.cond (.tm 8) (.seq (.region [u1 4 .mov [.cn (.bool false)]])
 .ret)
  .skip))
 (.seq (.seq (.region [u1 9 (.fieldAddr 0) [.tm 2],
 u1 10 (.load false 1) [.tm 9],
 u1 11 (.fieldAddr 0) [.tm 3],
 u1 12 (.load false 1) [.tm 11],
 u1 13 (.eqb true) [.tm 10, .tm 12]])
 (.cond (.tm 13) (.seq (.region [u1 14 (.fieldAddr 0) [.tm 2],
 u1 15 (.load false 1) [.tm 14],
 u1 4 .mov [.tm 15]])
 .ret)
  .skip))
 (.seq (.region [u1 16 (.fieldAddr 1) [.tm 2],
 u1 17 (.load false 1) [.tm 16],
 u1 18 (.fieldAddr 1) [.tm 3],
 u1 19 (.load false 1) [.tm 18],
 u1 20 (.cmp .lss) [.tm 17, .tm 19],
 u1 21 .mov [.tm 20],
 u2 22 21 false (.fieldAddr 1) [.tm 2],
 u2 23 21 false (.load false 1) [.tm 22],
 u2 24 21 false (.fieldAddr 1) [.tm 3],
 u2 25 21 false (.load false 1) [.tm 24],
 u2 26 21 false (.cmp .eql) [.tm 23, .tm 25],
 u2 27 21 false .mov [.tm 26],
 u2 28 27 true (.fieldAddr 2) [.tm 2],
 u2 29 27 true (.load false 1) [.tm 28],
 u2 30 27 true (.fieldAddr 2) [.tm 3],
 u2 31 27 true (.load false 1) [.tm 30],
 u2 32 27 true (.cmp .lss) [.tm 29, .tm 31],
 u2 33 21 false .and [.tm 27, .tm 32],
 u1 34 .or [.tm 21, .tm 33],
 u1 5 .mov [.tm 34]])
 (.seq (.region [u1 35 .mov [.tm 5],
 u1 36 (.fieldAddr 0) [.tm 2],
 u1 37 (.load false 1) [.tm 36],
 u1 38 (.eqb true) [.tm 35, .tm 37],
 u1 4 .mov [.tm 38]])
 .ret))))) }
theorem v54_is : vfunc Try.prog Try.f54 = some v54 := by kernel_rfl
def v55 : VF := { ntmps := 56, res := [.tmp 6, .tmp 7], body :=
 (.seq (.region [u1 3 .box [.tm 0],
 u1 6 .mov [.cn (.int .i64 0)],
 u1 7 .mov [.cn (.bool false)]])
 (.seq (.seq (.region [u1 10 (.fieldAddr 1) [.tm 3],
 u1 11 (.load false 1) [.tm 10],
 u1 12 .mov [.tm 1],
 u1 13 (.cmp .geq) [.tm 11, .tm 12]])
 (.cond (.tm 13) (.seq (.region [u1 6 .mov [.cn (.int .i64 0)],
 u1 7 .mov [.cn (.bool false)]])
 .ret)
  .skip))
 (.seq (.region [u1 15 (.fieldAddr 1) [.tm 3],
 u1 16 (.load false 1) [.tm 15],
 u1 17 (.fieldAddr 2) [.tm 3],
 u1 18 (.load false 1) [.tm 17],
 u1 19 .mov [.tm 1],
 u1 20 (.call 62) [.tm 16, .tm 18, .tm 19],
 u1 14 .mov [.tm 20],
 u1 21 (.ext 0) [.tm 14],
 u1 22 (.ext 1) [.tm 14],
 u1 8 .mov [.tm 21],
 u1 9 .mov [.tm 22]])
 (.seq (.seq (.region [u1 23 .mov [.tm 9],
 u1 24 (.cmp .neq) [.tm 23, .cn (.int .u64 0)],
 u1 25 .mov [.tm 24],
 u2 26 25 true .mov [.tm 2],
 u2 27 25 true (.fieldAddr 0) [.tm 3],
 u2 28 25 true (.load false 1) [.tm 27],
 u2 29 25 true (.eqb true) [.tm 26, .tm 28],
 u1 30 .and [.tm 25, .tm 29]])
 (.cond (.tm 30) (.region [u1 31 .mov [.tm 8],
 u1 32 (.ari .add) [.tm 31, .cn (.int .u64 1)],
 u1 8 .mov [.tm 32]])
  .skip))
 (.seq (.seq (.region [u1 33 .mov [.tm 8],
 u1 34 (.cmp .gtr) [.tm 33, .cn (.int .u64 4611686018427387904)],
 u1 35 .mov [.tm 34],
 u2 36 35 false .mov [.tm 8],
 u2 37 35 false (.cmp .eql) [.tm 36, .cn (.int .u64 0)],
 u2 38 35 false .mov [.tm 37],
 u2 39 38 true .mov [.tm 9],
 u2 40 38 true (.cmp .neq) [.tm 39, .cn (.int .u64 0)],
 u2 41 35 false .and [.tm 38, .tm 40],
 u2 42 35 false .mov [.tm 41],
 u2 43 42 true .mov [.tm 2],
 u2 44 42 true (.fieldAddr 0) [.tm 3],
 u2 45 42 true (.load false 1) [.tm 44],
 u2 46 42 true (.eqb true) [.tm 43, .tm 45],
 u2 47 35 false .and [.tm 42, .tm 46],
 u1 48 .or [.tm 35, .tm 47]])
 (.cond (.tm 48) (.seq (.region [u1 6 .mov [.cn (.int .i64 0)],
 u1 7 .mov [.cn (.bool false)]])
 .ret)
  .skip))
 (.seq (.seq (.region [u1 49 (.fieldAddr 0) [.tm 3],
 u1 50 (.load false 1) [.tm 49]])
 (.cond (.tm 50) (.seq (.region [u1 51 .mov [.tm 8],
 u1 52 (.conv .i64) [.tm 51],
 u1 53 .neg [.tm 52],
 u1 6 .mov [.tm 53],
 u1 7 .mov [.cn (.bool true)]])
 .ret)
  .skip))
 (.seq (.region [u1 54 .mov [.tm 8],
 u1 55 (.conv .i64) [.tm 54],
 u1 6 .mov [.tm 55],
 u1 7 .mov [.cn (.bool true)]])
 .ret))))))) }
theorem v55_is : vfunc Try.prog Try.f55 = some v55 := by kernel_rfl
def v43 : VF := { ntmps := 58, res := [.cell 4 true 2, .tmp 5], body :=
 (.seq (.region [u1 4 (.alloc [(.int .i64 0), (.int .i64 0)]) [],
 u1 5 .mov [.cn (.int .i64 0)]])
 (.seq (.draw [(6, .box [(.bool false), (.int .u64 0), (.int .u64 0)]), (7, .box [(.bool false), (.int .u64 0), (.int .u64 0)])] [w1 14 .mov [.tm 1],
 w1 15 (.idxAddr 3) [.tm 14, .cn (.int .i64 0)],
 w1 16 (.load true 3) [.tm 15],
 w1 17 .mov [.tm 1],
 w1 18 (.idxAddr 3) [.tm 17, .cn (.int .i64 0)],
 w1 19 (.load true 3) [.tm 18],
 ⟨u0 (.store 3) [.tm 6, .tm 16], [.tm 18]⟩,
 w0 (.store 3) [.tm 7, .tm 19]])
 (.seq (.seq (.region [u1 20 .mov [.tm 1],
 u1 21 (.slice 3 true false) [.tm 20, .cn (.int .i64 1)],
 u1 22 .len [.tm 21],
 u1 23 .mov [.cn (.int .i64 0)]])
 (.block 0 (.loop (.seq (.region [u1 24 (.cmp .lss) [.tm 23, .tm 22]])
 (.seq (.cond (.tm 24) .skip
  (.exit 0))
 (.seq (.block 1 (.seq (.region [u1 25 (.idxAddr 3) [.tm 21, .tm 23],
 u1 26 (.load true 3) [.tm 25],
 u1 9 (.alloc [(.bool false), (.int .u64 0), (.int .u64 0)]) [],
 u0 (.store 3) [.tm 9, .tm 26]])
 (.seq (.seq (.region [u1 27 (.load true 3) [.tm 9],
 u1 28 (.load true 3) [.tm 6],
 u1 29 (.call 54) [.tm 27, .tm 28]])
 (.cond (.tm 29) (.region [u1 30 (.load true 3) [.tm 9],
 u0 (.store 3) [.tm 6, .tm 30]])
  .skip))
 (.seq (.region [u1 31 (.load true 3) [.tm 7],
 u1 32 (.load true 3) [.tm 9],
 u1 33 (.call 54) [.tm 31, .tm 32]])
 (.cond (.tm 33) (.region [u1 34 (.load true 3) [.tm 9],
 u0 (.store 3) [.tm 7, .tm 34]])
  .skip)))))
 (.region [u1 35 (.ari .add) [.tm 23, .cn (.int .i64 1)],
 u1 23 .mov [.tm 35]])))))))
 (.seq (.region [u1 37 (.load true 3) [.tm 6],
 u1 38 .mov [.tm 0],
 u1 39 (.call 55) [.tm 37, .tm 38, .cn (.bool false)],
 u1 36 .mov [.tm 39],
 u1 40 (.ext 0) [.tm 36],
 u1 41 (.ext 1) [.tm 36],
 u1 10 .mov [.tm 40],
 u1 11 .mov [.tm 41]])
 (.seq (.region [u1 43 (.load true 3) [.tm 7],
 u1 44 .mov [.tm 0],
 u1 45 (.call 55) [.tm 43, .tm 44, .cn (.bool true)],
 u1 42 .mov [.tm 45],
 u1 46 (.ext 0) [.tm 42],
 u1 47 (.ext 1) [.tm 42],
 u1 12 .mov [.tm 46],
 u1 13 .mov [.tm 47]])
 (.seq (.seq (.region [u1 48 .mov [.tm 11],
 u1 49 .not [.tm 48],
 u1 50 .mov [.tm 49],
 u2 51 50 false .mov [.tm 13],
 u2 52 50 false .not [.tm 51],
 u1 53 .or [.tm 50, .tm 52]])
 (.cond (.tm 53) (.seq (.region [u1 54 (.build [(.int .i64 0), (.int .i64 0)] []) [],
 u0 (.store 2) [.tm 4, .tm 54],
 u1 5 .mov [.cn (.int .i64 7)]])
 .ret)
  .skip))
 (.seq (.region [u1 55 .mov [.tm 10],
 u1 56 .mov [.tm 12],
 u1 57 (.build [(.int .i64 0), (.int .i64 0)] [(0, 1), (1, 1)]) [.tm 55, .tm 56],
 u0 (.store 2) [.tm 4, .tm 57],
 u1 5 .mov [.cn (.int .i64 0)]])
 .ret))))))) }
theorem v43_is : vfunc Try.prog Try.f43 = some v43 := by kernel_rfl
def numC : Ctr := { alias := false, of := fun l => match l with | [.int .i64 n] => .fin (.bool (numOk n)) [] | _ => noC }
def ivlC : Ctr := { alias := false, of := fun a => match a with
  | [.vs _ _ n sz get] => .ex (List Iv) fun l => .pre (lsP 2 enc2 n sz get l ∧ l.length ≤ 1000000) (.fin (.int .i64 (ivE l)) [])
  | _ => noC }
def sizC : Ctr := { alias := false, of := fun l => match l with
  | [.int .i64 n] => .pre (-9223372036854775808 ≤ n ∧ n ≤ 9223372036854775807) (.fin (.int .u64 (n.natAbs : Int)) [])
  | _ => noC }
def timC : Ctr := { alias := false, of := fun l => match l with
  | [.int .i64 a, .int .i64 b] => .pre ((-9223372036854775808 ≤ a ∧ a ≤ 9223372036854775807) ∧ -9223372036854775808 ≤ b ∧ b ≤ 9223372036854775807) (.fin (.agg (longE (a * b))) [])
  | _ => noC }
def lessC : Ctr := { alias := false, of := fun l => match l with
  | [.agg [.bool n, .int .u64 h, .int .u64 lo], .agg [.bool n', .int .u64 h', .int .u64 lo']] => .ex Int fun x => .ex Int fun y => .pre (longP x n h lo ∧ longP y n' h' lo') (.fin (.bool (decide (x < y))) [])
  | _ => noC }
def overC : Ctr := { alias := false, of := fun l => match l with
  | [.agg [.bool n, .int .u64 h, .int .u64 lo], .int .u64 d, .bool up] => .ex Int fun x => .pre (longP x n h lo ∧ big x ∧ 0 < d ∧ d ≤ 18446744073709551615) (.fin (.tup [.int .i64 (rndF up x d).1, .bool (rndF up x d).2]) [])
  | _ => noC }
def spanC : Ctr := { alias := false, of := fun l => match l with
  | [.int .u64 d, .vs _ _ n sz get] => .ex Int fun x => .ex (List Int) fun r => .pre (lsP 3 longE n sz get (x :: r) ∧ r.length ≤ 1000 ∧ (∀ y ∈ x :: r, big y) ∧ 0 < d ∧ d ≤ 18446744073709551615) (.fin (.tup [.agg (enc2 (spanI d x r).1), .int .i64 (spanI d x r).2]) [])
  | _ => noC }
def P0 : Env := { ct := fun _ => none, fn := fun _ => none, meth := fun _ _ => none }
theorem P0_ok : EnvOk Try.prog P0 := by
  refine ⟨fun f c h => ?_, fun f vf h => ?_, (fun _ _ _ h => by cases h), by kernel_rfl, (fun _ h => by cases h)⟩
  · cases h
  · cases h
theorem num_ok : numC.ok Try.prog 45 := by
  refine contract Try.func45 v45_is P0_ok 100 numC fun args k h => ⟨args, ?_⟩
  simp only [numC] at h
  split at h
  · refine ⟨by simp [leL, le], ?_⟩
    (try dsimp only [v45, go_sem, reduceIte])
    (try simp only [t_all, forall_const, ne_eq, implies_true, Nat.reduceAdd, Nat.reduceLeDiff, reduceCtorEq, Nat.reduceEqDiff])
    exact ans_bool h
  · exact h.1.elim
theorem siz_ok : sizC.ok Try.prog 57 := by
  refine contract Try.func57 v57_is P0_ok 100 sizC fun args k h => ⟨args, ?_⟩
  simp only [sizC] at h
  split at h
  · rename_i n
    obtain ⟨⟨h0, h1⟩, h⟩ := h
    refine ⟨by simp [leL, le], ?_⟩
    (try dsimp only [v57, go_sem, reduceIte])
    (try simp only [t_all, forall_const, ne_eq, implies_true, Nat.reduceAdd, Nat.reduceLeDiff, reduceCtorEq, Nat.reduceEqDiff])
    have e : IntKind.u64.wrap (max n (IntKind.i64.wrap (0 - n))) = (n.natAbs : Int) := by
      rcases Int.lt_or_le n (-9223372036854775807) with h' | h'
      · obtain rfl : n = -9223372036854775808 := by omega
        decide
      · rw [IntWalk.i64_in _ (by omega), IntWalk.u64_in _ (by omega)]; omega
    rw [e]
    exact ans_int h
  · exact h.1.elim
def P1 : Env := { ct := fun n => match n with | 45 => some numC | 57 => some sizC | 56 => some mul64C | 62 => some div64C | _ => none, fn := fun _ => none, meth := fun _ _ => none }
theorem P1_ct45 : P1.ct 45 = some numC := rfl
theorem P1_ct57 : P1.ct 57 = some sizC := rfl
theorem P1_ct56 : P1.ct 56 = some mul64C := rfl
theorem P1_ct62 : P1.ct 62 = some div64C := rfl
theorem P1_ok : EnvOk Try.prog P1 := by
  refine ⟨fun f c h => ?_, fun f vf h => ?_, (fun _ _ _ h => by cases h), by kernel_rfl, (fun _ h => by cases h)⟩
  · simp only [P1] at h
    split at h
    · cases h; exact ⟨num_ok, Try.f45, Try.func45, by kernel_rfl, by kernel_rfl⟩
    · cases h; exact ⟨siz_ok, Try.f57, Try.func57, by kernel_rfl, by kernel_rfl⟩
    · cases h; exact ⟨mul64_ok, Try.f56, Try.func56, by kernel_rfl, by kernel_rfl⟩
    · cases h; exact ⟨div64_ok, Try.f62, Try.func62, by kernel_rfl, by kernel_rfl⟩
    · cases h
  · cases h
theorem ivl_ok : ivlC.ok Try.prog 42 := by
  refine contract Try.func42 v42_is P1_ok 400 ivlC fun args k h => ?_
  simp only [ivlC] at h
  split at h
  · rename_i tt z n sz get
    obtain ⟨l, ⟨⟨rfl, rfl, hg⟩, hmax⟩, h⟩ := h
    refine ⟨[.vs tt z l.length 2 (fun k => enc2 (l.getD k default))], by simpa [leL, le] using hg, ?_⟩
    (try dsimp only [v42, enc2, go_sem, reduceIte])
    (try simp only [t_all, forall_const, ne_eq, implies_true, Nat.reduceAdd, Nat.reduceLeDiff, reduceCtorEq, Nat.reduceEqDiff])
    refine Loop.keep [0, 6, 0, 0] Nat (fun i => [(9, .int .i64 i)]) (fun _ => []) [] (fun i => i ≤ l.length ∧ ∀ j, j < i → (numOk (l.getD j default).1 && numOk (l.getD j default).2) = true) (fun i => l.length - i) ?_ ?_
    · refine ⟨0, ⟨Nat.zero_le _, fun j h => by omega⟩, ?_⟩
      (try dsimp only [go_sem, reduceIte])
      simp only [fin_all, imp_self, implies_true, true_and, and_true]
      simp
    · rintro i ⟨hi, ha⟩
      (try dsimp only [P1_ct45, numC, enc2, Int.toNat_natCast, go_sem, reduceIte])
      (try simp only [t_all, forall_const, ne_eq, implies_true, Nat.reduceAdd, Nat.reduceLeDiff, reduceCtorEq, Nat.reduceEqDiff])
      refine ⟨fun hlt => ⟨⟨by omega, hlt⟩, fun hb => ans_int ?_, fun hb => ?_⟩, fun hge => ?_⟩
      · have e := ivE_bad (l := l) (i := i) (by omega) (by rw [← Bool.not_and, Bool.not_eq_true'] at hb; exact hb)
        rw [e] at h; exact h
      · rw [← Bool.not_and] at hb
        refine ⟨i + 1, ⟨by omega, fun j hj => ?_⟩, by omega, ?_⟩
        · rcases Nat.lt_or_ge j i with h' | h'
          · exact ha j h'
          · obtain rfl : j = i := by omega
            simpa using hb
        · have hw := w_succ (i := i) (n := l.length) (by omega) (by omega)
          simp only [hw, fin_all, imp_self, implies_true, true_and, and_true] <;> simp
      · obtain rfl : i = l.length := by omega
        refine Loop.keep [0, 23, 0, 0] Nat (fun i => [(26, .int .i64 i)]) (fun _ => []) [] (fun i => i ≤ l.length ∧ ∀ j, j < i → (l.getD j default).1 ≤ (l.getD j default).2) (fun i => l.length - i) ?_ ?_
        · refine ⟨0, ⟨Nat.zero_le _, fun j h => by omega⟩, ?_⟩
          (try dsimp only [go_sem, reduceIte])
          simp only [fin_all, imp_self, implies_true, true_and, and_true]
          simp
        · rintro i ⟨hi, hc⟩
          (try dsimp only [enc2, Int.toNat_natCast, go_sem, reduceIte])
          (try simp only [t_all, forall_const, ne_eq, implies_true, Nat.reduceAdd, Nat.reduceLeDiff, reduceCtorEq, Nat.reduceEqDiff])
          refine ⟨fun hlt => ⟨⟨by omega, hlt⟩, fun hb => ans_int ?_, fun hb => ?_⟩, fun hge => ?_⟩
          · have e := ivE_2 ha (i := i) (by omega) (by omega)
            rw [e] at h; exact h
          · refine ⟨i + 1, ⟨by omega, fun j hj => ?_⟩, by omega, ?_⟩
            · rcases Nat.lt_or_ge j i with h' | h'
              · exact hc j h'
              · obtain rfl : j = i := by omega
                omega
            · have hw := w_succ (i := i) (n := l.length) (by omega) (by omega)
              simp only [hw, fin_all, imp_self, implies_true, true_and, and_true] <;> simp
          · obtain rfl : i = l.length := by omega
            rw [ivE_0 ha hc] at h
            exact ans_int h
  · exact h.1.elim
theorem tim_ok : timC.ok Try.prog 44 := by
  refine contract Try.func44 v44_is P1_ok 200 timC fun args k h => ⟨args, ?_⟩
  simp only [timC] at h
  split at h
  · rename_i a b
    obtain ⟨⟨ha, hb⟩, h⟩ := h
    refine ⟨by simp [leL, le], ?_⟩
    (try dsimp only [v44, P1_ct57, P1_ct56, sizC, mul64C, go_sem, reduceIte])
    (try simp only [t_all, forall_const, ne_eq, implies_true, Nat.reduceAdd, Nat.reduceLeDiff, reduceCtorEq, Nat.reduceEqDiff])
    obtain ⟨P, hP⟩ : ∃ P, P = a.natAbs * b.natAbs := ⟨_, rfl⟩
    have hPb : P ≤ 9223372036854775808 * 9223372036854775808 := by rw [hP]; exact Nat.mul_le_mul (by omega) (by omega)
    have e0 : (a.natAbs : Int) * (b.natAbs : Int) = (P : Int) := by rw [hP]; exact (Int.natCast_mul _ _).symm
    have e1 : (P : Int) / 18446744073709551616 = ((P / 18446744073709551616 : Nat) : Int) := by omega
    have e2 : (P : Int) % 18446744073709551616 = ((P % 18446744073709551616 : Nat) : Int) := by omega
    rw [e0, e1, e2, bI_or (by omega) (by omega)]
    refine ⟨ha, hb, ⟨⟨by omega, by omega⟩, by omega, by omega⟩, by decide, by decide, ?_⟩
    have e3 : (a * b).natAbs = P := by rw [hP, Int.natAbs_mul]
    have e4 : (!(decide (a < 0) == decide (b < 0)) && !decide (((P / 18446744073709551616 ||| P % 18446744073709551616 : Nat) : Int) = 0)) = decide (a * b < 0) := by
      have z : decide (((P / 18446744073709551616 ||| P % 18446744073709551616 : Nat) : Int) = 0) = decide (P = 0) := by
        congr 1
        apply propext
        have := @Nat.or_eq_zero_iff (P / 18446744073709551616) (P % 18446744073709551616)
        omega
      rw [z]
      have hz : P = 0 ↔ a = 0 ∨ b = 0 := by rw [hP, Nat.mul_eq_zero]; omega
      rcases Int.lt_trichotomy a 0 with h1 | h1 | h1 <;> rcases Int.lt_trichotomy b 0 with h2 | h2 | h2
      · have := Int.mul_pos_of_neg_of_neg h1 h2
        simp [h1, h2]; omega
      · subst h2; simp [hz]
      · have := Int.mul_neg_of_neg_of_pos h1 h2
        have hb' : ¬ b < 0 := by omega
        simp [h1, hb', this, hz]; omega
      · subst h1; simp [hz]
      · subst h1; simp [hz]
      · subst h1; simp [hz]
      · have := Int.mul_neg_of_pos_of_neg h1 h2
        have ha' : ¬ a < 0 := by omega
        simp [h2, ha', this, hz]; omega
      · subst h2; simp [hz]
      · have := Int.mul_pos h1 h2
        have ha' : ¬ a < 0 := by omega
        have hb' : ¬ b < 0 := by omega
        simp [ha', hb']; omega
    rw [e4]
    have h : k (.agg (longE (a * b))) [] := h
    rw [longE, e3] at h
    exact ans_le (show k _ [] from h) (le_self (.agg [.bool (decide (a * b < 0)), .int .u64 ((P / 18446744073709551616 : Nat) : Int), .int .u64 ((P % 18446744073709551616 : Nat) : Int)]) ⟨trivial, trivial, trivial, trivial⟩) (fun _ => by simp [freshS, freshL])
  · exact h.1.elim
theorem less_ok : lessC.ok Try.prog 54 := by
  refine contract Try.func54 v54_is P1_ok 200 lessC fun args k h => ⟨args, ?_⟩
  simp only [lessC] at h
  split at h
  · rename_i n hi lo n' hi' lo'
    obtain ⟨x, y, ⟨⟨rfl, rfl, rfl⟩, rfl, rfl, rfl⟩, h⟩ := h
    refine ⟨by simp [leL, le], ?_⟩
    (try dsimp only [v54, go_sem, reduceIte])
    (try simp only [t_all, forall_const, ne_eq, implies_true, Nat.reduceAdd, Nat.reduceLeDiff, reduceCtorEq, Nat.reduceEqDiff])
    refine ⟨fun hc => ans_bool ?_, fun hc => ⟨fun hd => ans_bool ?_, fun hd => ⟨fun h1 h2 => by rw [decide_eq_false h1, decide_eq_true h2]; rfl, ans_bool ?_⟩⟩⟩
    · simp only [Bool.and_eq_true, Bool.and_true, decide_eq_true_eq, beq_iff_eq, decide_eq_decide] at hc
      have : x = y := by omega
      subst this
      have h : k (.bool (decide (x < x))) [] := h
      rw [decide_eq_false (Int.lt_irrefl x)] at h
      exact h
    · have : decide (x < y) = decide (x < 0) := by
        rw [beq_eq_false_iff_ne, ne_eq, decide_eq_decide] at hd
        rw [decide_eq_decide]; omega
      rw [← this]; exact h
    · have : (!((decide (((x.natAbs / 18446744073709551616 : Nat) : Int) < ((y.natAbs / 18446744073709551616 : Nat) : Int)) || decide (((x.natAbs / 18446744073709551616 : Nat) : Int) = ((y.natAbs / 18446744073709551616 : Nat) : Int)) && decide (((x.natAbs % 18446744073709551616 : Nat) : Int) < ((y.natAbs % 18446744073709551616 : Nat) : Int))) == decide (x < 0))) = decide (x < y) := by
        simp only [beq_iff_eq, decide_eq_decide] at hd
        simp only [Bool.and_eq_false_iff, Bool.and_true, decide_eq_false_iff_not, beq_eq_false_iff_ne, ne_eq, decide_eq_decide] at hc
        have e : (decide (((x.natAbs / 18446744073709551616 : Nat) : Int) < ((y.natAbs / 18446744073709551616 : Nat) : Int)) || decide (((x.natAbs / 18446744073709551616 : Nat) : Int) = ((y.natAbs / 18446744073709551616 : Nat) : Int)) && decide (((x.natAbs % 18446744073709551616 : Nat) : Int) < ((y.natAbs % 18446744073709551616 : Nat) : Int))) = decide (x.natAbs < y.natAbs) := by
          rw [Bool.eq_iff_iff]
          simp only [Bool.or_eq_true, Bool.and_eq_true, decide_eq_true_eq]
          omega
        rw [e]
        by_cases hx : x < 0
        · rw [decide_eq_true hx, Bool.eq_iff_iff, Bool.not_eq_true', beq_eq_false_iff_ne, ne_eq, decide_eq_true_eq, decide_eq_true_eq]; omega
        · rw [decide_eq_false hx, Bool.eq_iff_iff, Bool.not_eq_true', beq_eq_false_iff_ne, ne_eq, decide_eq_false_iff_not, decide_eq_true_eq]; omega
      rw [this]; exact h
  · exact h.1.elim
theorem over_ok : overC.ok Try.prog 55 := by
  refine contract Try.func55 v55_is P1_ok 200 overC fun args k h => ⟨args, ?_⟩
  simp only [overC] at h
  split at h
  · rename_i n hi lo d up
    obtain ⟨x, ⟨⟨rfl, rfl, rfl⟩, hbx, hd0, hd1⟩, h⟩ := h
    refine ⟨by simp [leL, le], ?_⟩
    (try dsimp only [v55, P1_ct62, div64C, go_sem, reduceIte])
    (try simp only [t_all, forall_const, ne_eq, implies_true, Nat.reduceAdd, Nat.reduceLeDiff, reduceCtorEq, Nat.reduceEqDiff])
    obtain ⟨d, rfl⟩ := Int.eq_ofNat_of_zero_le (by omega : 0 ≤ d)
    obtain ⟨m, hm⟩ : ∃ m, m = x.natAbs := ⟨_, rfl⟩
    have hT := rnd_abs (up := up) (x := x) (d := d) (by omega)
    have e0 : ((m / 18446744073709551616 : Nat) : Int) * 18446744073709551616 + ((m % 18446744073709551616 : Nat) : Int) = m := by omega
    have e1 : (m : Int) / (d : Int) = ((m / d : Nat) : Int) := (Int.natCast_ediv _ _).symm
    have e2 : (m : Int) % (d : Int) = ((m % d : Nat) : Int) := (Int.natCast_emod _ _).symm
    rw [← hm] at hT ⊢
    rw [e0, e1, e2]
    have hF : rndF up x d = rndB (nsg (decide (x < 0)) (m / d + bump up (decide (x < 0)) (m % d))) := by unfold rndF; rw [hT]
    have hfail : 4611686018427387904 < m / d + bump up (decide (x < 0)) (m % d) → rndF up x d = (0, false) := fun hh => by
      rw [hF, rndB, if_neg]
      have := nsg_abs (decide (x < 0)) (m / d + bump up (decide (x < 0)) (m % d))
      omega
    have hgood : m / d + bump up (decide (x < 0)) (m % d) ≤ 4611686018427387904 → rndF up x d = (nsg (decide (x < 0)) (m / d + bump up (decide (x < 0)) (m % d)), true) := fun hh => by
      rw [hF, rndB, if_pos]
      have := nsg_abs (decide (x < 0)) (m / d + bump up (decide (x < 0)) (m % d))
      omega
    have h : k (.tup [.int .i64 (rndF up x d).1, .bool (rndF up x d).2]) [] := h
    have fin : ∀ (t : Int) (b : Bool) (hp : List HO), rndF up x d = (t, b) → answers overC.alias k (.tup [.int .i64 t, .bool b]) hp := fun t b hp hh => by
      rw [hh] at h
      exact ans_le (show k _ [] from h) (le_self (.tup [.int .i64 t, .bool b]) ⟨trivial, trivial, trivial⟩) (fun _ => by simp [freshS, freshL])
    have hQ1 : ¬ (d : Int) ≤ ((m / 18446744073709551616 : Nat) : Int) → m / d < 18446744073709551616 := fun hc => by
      rw [Nat.div_lt_iff_lt_mul (by omega)]
      have h1 : m / 18446744073709551616 < d := by omega
      rw [Nat.div_lt_iff_lt_mul (by decide)] at h1
      rw [Nat.mul_comm]; exact h1
    have hQ2 : (d : Int) ≤ ((m / 18446744073709551616 : Nat) : Int) → 18446744073709551616 ≤ m / d := fun hc => by
      rw [Nat.le_div_iff_mul_le (by omega)]
      have h1 : d ≤ m / 18446744073709551616 := by omega
      rw [Nat.le_div_iff_mul_le (by decide)] at h1
      rw [Nat.mul_comm]; exact h1
    have hd0' : (0 : Int) < (d : Int) := hd0
    clear hT e1 e2
    generalize m / d = Q at *
    generalize m % d = R at *
    have ez : (!decide ((R : Int) = 0)) = decide (R ≠ 0) := by
      rw [← decide_not]; congr 1; exact propext (by omega)
    refine ⟨fun hc => fin _ _ _ (hfail ?_), fun hc => ⟨⟨⟨by omega, by omega⟩, by omega, by omega, by omega⟩, by decide, by decide, fun hb => ?_, fun hb => ?_⟩⟩
    · have := hQ2 hc
      omega
    · have hQ := hQ1 hc
      rw [ez] at hb ⊢
      have hbump : bump up (decide (x < 0)) (R) = 1 := by unfold bump; exact if_pos hb
      rw [hbump] at hfail hgood
      have hcond : ∀ w : Int, ((decide (4611686018427387904 < w) || decide (w = 0) && decide (R ≠ 0) && !(up == decide (x < 0))) = true ↔ 4611686018427387904 < w ∨ w = 0) := fun w => by
        rw [Bool.and_assoc, hb, Bool.and_true, Bool.or_eq_true, decide_eq_true_eq, decide_eq_true_eq]
      have hw : (4611686018427387904 < IntKind.u64.wrap ((Q : Int) + 1) ∨ IntKind.u64.wrap ((Q : Int) + 1) = 0) ↔ 4611686018427387904 < Q + 1 := by
        rw [u_mod]; omega
      refine ⟨fun h1 h2 => by rw [decide_eq_false h1, decide_eq_true h2]; rfl, fun h1 h2 => by rw [decide_eq_false h1, h2]; rfl, fun hcc => fin _ _ _ (hfail (hw.1 ((hcond _).1 hcc))), fun hcc => ?_⟩
      have hsm : Q + 1 ≤ 4611686018427387904 := by
        refine Nat.le_of_not_lt fun hh => ?_
        have := (hcond _).2 (hw.2 hh)
        rw [hcc] at this; cases this
      have hg := hgood hsm
      rw [IntWalk.u64_in _ (by omega)]
      refine ⟨fun hx => fin _ _ _ ?_, fun hx => fin _ _ _ ?_⟩
      · rw [hg, IntWalk.i64_in ((Q : Int) + 1) (by omega), IntWalk.i64_in _ (by omega)]
        unfold nsg
        simp only [hx, decide_true, if_true]
        congr 1 <;> omega
      · rw [hg, IntWalk.i64_in _ (by omega)]
        unfold nsg
        simp only [hx, decide_false, Bool.false_eq_true, if_false]
        rfl
    · have hQ := hQ1 hc
      rw [ez] at hb ⊢
      have hbump : bump up (decide (x < 0)) (R) = 0 := by unfold bump; exact if_neg (by rw [show (up != decide (x < 0)) = !(up == decide (x < 0)) from rfl, hb]; simp)
      rw [hbump, Nat.add_zero] at hfail hgood
      have hcond : ∀ w : Int, ((decide (4611686018427387904 < w) || decide (w = 0) && decide (R ≠ 0) && !(up == decide (x < 0))) = true ↔ 4611686018427387904 < w) := fun w => by
        rw [Bool.and_assoc, hb, Bool.and_false, Bool.or_false, decide_eq_true_eq]
      refine ⟨fun h1 h2 => by rw [decide_eq_false h1, decide_eq_true h2]; rfl, fun h1 h2 => by rw [decide_eq_false h1, h2]; rfl, fun hcc => fin _ _ _ (hfail (by have := (hcond _).1 hcc; omega)), fun hcc => ?_⟩
      have hsm : Q ≤ 4611686018427387904 := by
        refine Nat.le_of_not_lt fun hh => ?_
        have := (hcond (Q : Int)).2 (by omega)
        rw [hcc] at this; cases this
      have hg := hgood hsm
      refine ⟨fun hx => fin _ _ _ ?_, fun hx => fin _ _ _ ?_⟩
      · rw [hg, IntWalk.i64_in (Q : Int) (by omega), IntWalk.i64_in _ (by omega)]
        unfold nsg
        simp only [hx, decide_true, if_true]
        congr 1 <;> omega
      · rw [hg, IntWalk.i64_in _ (by omega)]
        unfold nsg
        simp only [hx, decide_false, Bool.false_eq_true, if_false]
  · exact h.1.elim
def P2 : Env := { ct := fun n => match n with | 45 => some numC | 54 => some lessC | 55 => some overC | _ => none, fn := fun _ => none, meth := fun _ _ => none }
theorem P2_ct54 : P2.ct 54 = some lessC := rfl
theorem P2_ct55 : P2.ct 55 = some overC := rfl
theorem P2_ok : EnvOk Try.prog P2 := by
  refine ⟨fun f c h => ?_, fun f vf h => ?_, (fun _ _ _ h => by cases h), by kernel_rfl, (fun _ h => by cases h)⟩
  · simp only [P2] at h
    split at h
    · cases h; exact ⟨num_ok, Try.f45, Try.func45, by kernel_rfl, by kernel_rfl⟩
    · cases h; exact ⟨less_ok, Try.f54, Try.func54, by kernel_rfl, by kernel_rfl⟩
    · cases h; exact ⟨over_ok, Try.f55, Try.func55, by kernel_rfl, by kernel_rfl⟩
    · cases h
  · cases h
theorem span_ok : spanC.ok Try.prog 43 := by
  refine contract Try.func43 v43_is P2_ok 400 spanC fun args k h => ?_
  simp only [spanC] at h
  split at h
  · rename_i d tt z n sz get
    obtain ⟨x, r, ⟨⟨rfl, rfl, hg⟩, hmax, hbig, hd0, hd1⟩, h⟩ := h
    refine ⟨[.int .u64 d, .vs tt z (x :: r).length 3 (fun k => longE ((x :: r).getD k default))], ⟨⟨rfl, rfl⟩, by simpa [le] using hg, trivial⟩, ?_⟩
    (try dsimp only [v43, longE, go_sem, reduceIte])
    (try simp only [t_all, forall_const, ne_eq, implies_true, Nat.reduceAdd, Nat.reduceLeDiff, reduceCtorEq, Nat.reduceEqDiff])
    have hlen : ((x :: r).length : Int) = r.length + 1 := by simp
    refine ⟨⟨by decide, by omega⟩, ⟨by decide, by omega⟩, ⟨by decide, by omega⟩, ?_⟩
    have hlen2 : (x :: r).length - (0 + 1) = r.length := by simp
    refine Loop.keep [0, 0, 2, 0, 0, 0, 13, 0] Nat (fun i => [(23, .int .i64 i)]) (fun i => [(1, .box (longE (lowI x (r.take i)))), (2, .box (longE (highI x (r.take i))))]) [] (fun i => i ≤ r.length) (fun i => r.length - i) ?_ ?_
    · refine ⟨0, Nat.zero_le _, ?_⟩
      (try dsimp only [longE, go_sem, reduceIte])
      simp only [fin_all, imp_self, implies_true, true_and, and_true]
      refine ⟨by simp, ?_, ?_⟩ <;> simp [lowI, highI] <;> rfl
    · rintro i hi
      (try dsimp only [P2_ct54, P2_ct55, lessC, overC, longE, Int.toNat_natCast, go_sem, reduceIte])
      (try simp only [t_all, forall_const, ne_eq, implies_true, Nat.reduceAdd, Nat.reduceLeDiff, reduceCtorEq, Nat.reduceEqDiff])
      have ey : (x :: r).getD (1 + i) default = r.getD i default := by rw [Nat.add_comm]; rfl
      have elen : (((x :: r).length - 1 : Nat) : Int) = r.length := by simp
      simp only [ey, elen]
      refine ⟨fun hlt => ⟨⟨by omega, by omega⟩, r.getD i default, lowI x (r.take i), ⟨longP_self _, longP_self _⟩, ?_⟩, fun hge => ?_⟩
      · have eL : lowI x (r.take (i + 1)) = if r.getD i default < lowI x (r.take i) then r.getD i default else lowI x (r.take i) := foldl_take_succ (by omega)
        have eH : highI x (r.take (i + 1)) = if highI x (r.take i) < r.getD i default then r.getD i default else highI x (r.take i) := foldl_take_succ (by omega)
        have hw := w_succ (i := i) (n := r.length) (by omega) (by omega)
        refine ⟨fun h1 => ⟨highI x (r.take i), r.getD i default, ⟨longP_self _, longP_self _⟩, fun h2 => ⟨i + 1, by omega, by omega, ?_⟩, fun h2 => ⟨i + 1, by omega, by omega, ?_⟩⟩,
          fun h1 => ⟨highI x (r.take i), r.getD i default, ⟨longP_self _, longP_self _⟩, fun h2 => ⟨i + 1, by omega, by omega, ?_⟩, fun h2 => ⟨i + 1, by omega, by omega, ?_⟩⟩⟩
        · simp only [eL, eH, if_pos h1, if_pos h2, hw, fin_all, imp_self, implies_true, true_and, and_true]
          simp
        · simp only [eL, eH, if_pos h1, if_neg h2, hw, fin_all, imp_self, implies_true, true_and, and_true]
          simp
        · simp only [eL, eH, if_neg h1, if_pos h2, hw, fin_all, imp_self, implies_true, true_and, and_true]
          simp
        · simp only [eL, eH, if_neg h1, if_neg h2, hw, fin_all, imp_self, implies_true, true_and, and_true]
          simp
      · obtain rfl : i = r.length := by omega
        rw [List.take_length]
        have hl := lowI_spec x r
        have hh := highI_spec x r
        refine ⟨lowI x r, ⟨longP_self _, hbig _ hl.1, hd0, hd1⟩, by decide, by decide, highI x r, ⟨longP_self _, hbig _ hh.1, hd0, hd1⟩, by decide, by decide, ?_⟩
        have h : k (.tup [.agg (enc2 (spanI d x r).1), .int .i64 (spanI d x r).2]) [] := h
        unfold spanI spanR at h
        refine ⟨fun hb => ?_, fun hb => ?_⟩
        · rw [if_neg (by rw [← Bool.not_and, Bool.not_eq_true'] at hb; rw [hb]; simp)] at h
          exact ans_le (show k _ [] from h) (le_self (.tup [.agg (enc2 (0, 0)), .int .i64 7]) ⟨⟨trivial, trivial, trivial⟩, trivial, trivial⟩) (fun _ => by simp [enc2, freshS, freshL])
        · rw [if_pos (by rw [← Bool.not_and, Bool.not_eq_false'] at hb; exact hb)] at h
          exact ans_le (show k _ [] from h) (le_self (.tup [.agg (enc2 ((rndF false (lowI x r) d).1, (rndF true (highI x r) d).1)), .int .i64 0]) ⟨⟨trivial, trivial, trivial⟩, trivial, trivial⟩) (fun _ => by simp [enc2, freshS, freshL])
  · exact h.1.elim
end Go.Proofs.Ytmgfmkbniaepcaa
set_option linter.all false
namespace Go.Proofs.Ytmgfmkbniaepcaa
open Go Go.Vx
set_option maxRecDepth 100000
set_option maxHeartbeats 4000000
def v34 : VF := { ntmps := 45, res := [.cell 6 true 2, .tmp 7], body :=
 (.seq (.region [u1 3 .box [.tm 0],
 u1 6 (.alloc [(.int .i64 0), (.int .i64 0)]) [],
 u1 7 .mov [.cn (.int .i64 0)]])
 (.seq (.region [u1 9 (.load true 2) [.tm 3],
 u1 10 (.buildSlice 2 1 [(.int .i64 0), (.int .i64 0)] [(0, 2)]) [.tm 9],
 u1 11 (.call 42) [.tm 10],
 u1 8 .mov [.tm 11]])
 (.seq (.block 0 (.seq (.region [u1 13 .mov [.tm 8],
 u1 14 (.cmp .neq) [.tm 13, .cn (.int .i64 0)],
 u1 12 .mov [.tm 14]])
 (.cond (.tm 12) (.seq (.region [u1 15 (.build [(.int .i64 0), (.int .i64 0)] []) [],
 u1 16 .mov [.tm 8],
 u0 (.store 2) [.tm 6, .tm 15],
 u1 7 .mov [.tm 16]])
 .ret)
  (.seq (.region [u1 18 .mov [.tm 2],
 u1 19 (.cmp .lss) [.tm 18, .cn (.int .i64 1)],
 u1 20 .mov [.tm 19],
 u2 21 20 false .mov [.tm 2],
 u2 22 20 false (.call 45) [.tm 21],
 u2 23 20 false .not [.tm 22],
 u1 24 .or [.tm 20, .tm 23],
 u1 25 .mov [.tm 24],
 u2 26 25 false .mov [.tm 1],
 u2 27 25 false (.call 45) [.tm 26],
 u2 28 25 false .not [.tm 27],
 u1 29 .or [.tm 25, .tm 28],
 u1 17 .mov [.tm 29]])
 (.cond (.tm 17) (.seq (.region [u1 30 (.build [(.int .i64 0), (.int .i64 0)] []) [],
 u0 (.store 2) [.tm 6, .tm 30],
 u1 7 .mov [.cn (.int .i64 2)]])
 .ret)
  .skip)))))
 (.seq (.draw [] [w1 31 .mov [.tm 2],
 w1 32 (.conv .u64) [.tm 31],
 w1 33 (.fieldAddr 0) [.tm 3],
 w1 34 (.load false 1) [.tm 33],
 w1 35 .mov [.tm 1],
 w1 37 (.fieldAddr 1) [.tm 3],
 w1 38 (.load false 1) [.tm 37],
 w1 39 .mov [.tm 1],
 w1 36 (.call 44) [.tm 34, .tm 35],
 w1 40 (.call 44) [.tm 38, .tm 39],
 w1 41 (.buildSlice 3 2 [(.bool false), (.int .u64 0), (.int .u64 0)] [(0, 3), (3, 3)]) [.tm 36, .tm 40],
 w1 42 (.call 43) [.tm 32, .tm 41],
 w1 43 (.ext 0) [.tm 42],
 w1 44 (.ext 1) [.tm 42],
 w0 (.store 2) [.tm 6, .tm 43],
 w1 7 .mov [.tm 44]])
 .ret)))) }
theorem v34_is : vfunc Try.prog Try.f34 = some v34 := by kernel_rfl
def v33 : VF := { ntmps := 28, res := [.cell 2 true 2, .tmp 3], body :=
 (.seq (.region [u1 1 .box [.tm 0],
 u1 2 (.alloc [(.int .i64 0), (.int .i64 0)]) [],
 u1 3 .mov [.cn (.int .i64 0)]])
 (.seq (.seq (.region [u1 5 (.load true 2) [.tm 1],
 u1 6 (.buildSlice 2 1 [(.int .i64 0), (.int .i64 0)] [(0, 2)]) [.tm 5],
 u1 7 (.call 42) [.tm 6],
 u1 4 .mov [.tm 7]])
 (.seq (.region [u1 8 .mov [.tm 4],
 u1 9 (.cmp .neq) [.tm 8, .cn (.int .i64 0)]])
 (.cond (.tm 9) (.seq (.region [u1 10 (.build [(.int .i64 0), (.int .i64 0)] []) [],
 u1 11 .mov [.tm 4],
 u0 (.store 2) [.tm 2, .tm 10],
 u1 3 .mov [.tm 11]])
 .ret)
  .skip)))
 (.seq (.draw [] [w1 12 (.fieldAddr 0) [.tm 1],
 w1 13 (.load false 1) [.tm 12],
 w1 15 (.fieldAddr 0) [.tm 1],
 w1 16 (.load false 1) [.tm 15],
 w1 18 (.fieldAddr 1) [.tm 1],
 w1 19 (.load false 1) [.tm 18],
 w1 21 (.fieldAddr 1) [.tm 1],
 w1 22 (.load false 1) [.tm 21],
 w1 14 (.call 44) [.tm 13, .cn (.int .i64 3141592653589793238)],
 w1 17 (.call 44) [.tm 16, .cn (.int .i64 3141592653589793239)],
 w1 20 (.call 44) [.tm 19, .cn (.int .i64 3141592653589793238)],
 w1 23 (.call 44) [.tm 22, .cn (.int .i64 3141592653589793239)],
 w1 24 (.buildSlice 3 4 [(.bool false), (.int .u64 0), (.int .u64 0)] [(0, 3), (3, 3), (6, 3), (9, 3)]) [.tm 14, .tm 17, .tm 20, .tm 23],
 w1 25 (.call 43) [.cn (.int .u64 1000000000000000000), .tm 24],
 w1 26 (.ext 0) [.tm 25],
 w1 27 (.ext 1) [.tm 25],
 w0 (.store 2) [.tm 2, .tm 26],
 w1 3 .mov [.tm 27]])
 .ret))) }
theorem v33_is : vfunc Try.prog Try.f33 = some v33 := by kernel_rfl
def ivoC (f : Iv → Iv × Int) : Ctr := { alias := false, of := fun a => match a with
  | [.agg [.int .i64 x, .int .i64 y]] => .fin (.tup [.agg (enc2 (f (x, y)).1), .int .i64 (f (x, y)).2]) []
  | _ => noC }
def piC := ivoC piF
def sclC : Ctr := { alias := false, of := fun a => match a with
  | [.agg [.int .i64 x, .int .i64 y], .int .i64 n, .int .i64 d] => .fin (.tup [.agg (enc2 (sclF (x, y) n d).1), .int .i64 (sclF (x, y) n d).2]) []
  | _ => noC }
theorem ans_iv {k : SV → List HO → Prop} {al : Bool} {hp : List HO} {r : Iv × Int} (h : k (.tup [.agg (enc2 r.1), .int .i64 r.2]) []) : answers al k (.tup [.agg [.int .i64 r.1.1, .int .i64 r.1.2], .int .i64 r.2]) hp :=
  ans_le (show k _ [] from h) (le_self (.tup [.agg (enc2 r.1), .int .i64 r.2]) ⟨⟨trivial, trivial, trivial⟩, trivial, trivial⟩) (fun _ => by simp [enc2, freshS, freshL])
theorem big_mul {a b : Int} (ha : -9223372036854775808 ≤ a ∧ a ≤ 9223372036854775808) (hb : -9223372036854775808 ≤ b ∧ b ≤ 9223372036854775808) : big (a * b) := by
  unfold big
  rw [Int.natAbs_mul]
  have := Nat.mul_le_mul (show a.natAbs ≤ 9223372036854775808 by omega) (show b.natAbs ≤ 9223372036854775808 by omega)
  omega
def P4 : Env := { ct := fun n => match n with | 45 => some numC | 42 => some ivlC | 44 => some timC | 55 => some overC | 43 => some spanC | _ => none, fn := fun _ => none, meth := fun _ _ => none }
theorem P4_ct45 : P4.ct 45 = some numC := rfl
theorem P4_ct42 : P4.ct 42 = some ivlC := rfl
theorem P4_ct44 : P4.ct 44 = some timC := rfl
theorem P4_ct43 : P4.ct 43 = some spanC := rfl
theorem P4_ok : EnvOk Try.prog P4 := by
  refine ⟨fun f c h => ?_, fun f vf h => ?_, (fun _ _ _ h => by cases h), by kernel_rfl, (fun _ h => by cases h)⟩
  · simp only [P4] at h
    split at h
    · cases h; exact ⟨num_ok, Try.f45, Try.func45, by kernel_rfl, by kernel_rfl⟩
    · cases h; exact ⟨ivl_ok, Try.f42, Try.func42, by kernel_rfl, by kernel_rfl⟩
    · cases h; exact ⟨tim_ok, Try.f44, Try.func44, by kernel_rfl, by kernel_rfl⟩
    · cases h; exact ⟨over_ok, Try.f55, Try.func55, by kernel_rfl, by kernel_rfl⟩
    · cases h; exact ⟨span_ok, Try.f43, Try.func43, by kernel_rfl, by kernel_rfl⟩
    · cases h
  · cases h
theorem pi_ok : piC.ok Try.prog 33 := by
  refine contract Try.func33 v33_is P4_ok 200 piC fun args k h => ⟨args, ?_⟩
  simp only [piC, ivoC] at h
  split at h
  · rename_i x y
    refine ⟨by simp [leL, le], ?_⟩
    (try dsimp only [v33, P4_ct42, P4_ct44, P4_ct43, ivlC, timC, spanC, longE, enc2, go_sem, reduceIte])
    (try simp only [t_all, forall_const, ne_eq, implies_true, Nat.reduceAdd, Nat.reduceLeDiff, reduceCtorEq, Nat.reduceEqDiff])
    have h : k (.tup [.agg (enc2 (piF (x, y)).1), .int .i64 (piF (x, y)).2]) [] := h
    refine ⟨by decide, [(x, y)], ⟨⟨rfl, rfl, fun k hk => match k, hk with | 0, _ => leXL_self _⟩, by simp⟩, fun hc => ?_, fun hc => ?_⟩
    · rw [piF, if_pos hc] at h
      exact ans_iv (r := errI (ivE [(x, y)])) h
    · obtain ⟨h1, h2, h3⟩ := ivE1 hc
      dsimp only at h1 h2 h3
      rw [piF, if_neg (by rw [hc]; simp)] at h
      dsimp only at h
      refine ⟨⟨⟨by omega, by omega⟩, by omega, by omega⟩, ⟨⟨by omega, by omega⟩, by omega, by omega⟩, ⟨⟨by omega, by omega⟩, by omega, by omega⟩, ⟨⟨by omega, by omega⟩, by omega, by omega⟩, by decide,
        x * 3141592653589793238, [x * 3141592653589793239, y * 3141592653589793238, y * 3141592653589793239], ⟨⟨rfl, rfl, fun k hk => match k, hk with | 0, _ => leXL_self _ | 1, _ => leXL_self _ | 2, _ => leXL_self _ | 3, _ => leXL_self _⟩, by simp, ?_, by decide, by decide⟩, by decide, by decide, ans_iv h⟩
      intro p hp
      simp only [List.mem_cons, List.not_mem_nil, or_false] at hp
      rcases hp with rfl | rfl | rfl | rfl <;> exact big_mul (by omega) (by omega)
  · exact h.1.elim
theorem scl_ok : sclC.ok Try.prog 34 := by
  refine contract Try.func34 v34_is P4_ok 200 sclC fun args k h => ⟨args, ?_⟩
  simp only [sclC] at h
  split at h
  · rename_i x y n d
    refine ⟨by simp [leL, le], ?_⟩
    (try dsimp only [v34, P4_ct42, P4_ct45, P4_ct44, P4_ct43, ivlC, numC, timC, spanC, longE, enc2, go_sem, reduceIte])
    (try simp only [t_all, forall_const, ne_eq, implies_true, Nat.reduceAdd, Nat.reduceLeDiff, reduceCtorEq, Nat.reduceEqDiff])
    have h : k (.tup [.agg (enc2 (sclF (x, y) n d).1), .int .i64 (sclF (x, y) n d).2]) [] := h
    refine ⟨by decide, [(x, y)], ⟨⟨rfl, rfl, fun k hk => match k, hk with | 0, _ => leXL_self _⟩, by simp⟩, ?_⟩
    refine ⟨fun hc => ?_, fun hc => ?_⟩
    · rw [sclF, if_pos hc] at h
      exact ans_iv (r := errI (ivE [(x, y)])) h
    · obtain ⟨h1, h2, h3⟩ := ivE1 hc
      dsimp only at h1 h2 h3
      rw [sclF, if_neg (by rw [hc]; simp)] at h
      dsimp only at h
      have hnd := numOk_iff (x := d)
      have hnn := numOk_iff (x := n)
      have hcond : (decide (d < 1) || !numOk d || !numOk n) = true ↔ (d < 1 ∨ 4611686018427387904 < d ∨ n < -4611686018427387904 ∨ 4611686018427387904 < n) := by
        rw [Bool.or_eq_true, Bool.or_eq_true, decide_eq_true_eq, Bool.not_eq_true', Bool.not_eq_true', Bool.eq_false_iff, Bool.eq_false_iff, ne_eq, ne_eq, hnd, hnn]
        omega
      refine ⟨fun hb => ?_, fun hb => ?_⟩
      · rw [if_pos (hcond.1 hb)] at h
        exact ans_iv (r := errI 2) h
      · have hb' : ¬ (d < 1 ∨ 4611686018427387904 < d ∨ n < -4611686018427387904 ∨ 4611686018427387904 < n) := fun hh => by
          have := hcond.2 hh
          rw [hb] at this; cases this
        rw [if_neg hb'] at h
        rw [IntWalk.u64_in d (by omega)]
        refine ⟨⟨⟨by omega, by omega⟩, by omega, by omega⟩, ⟨⟨by omega, by omega⟩, by omega, by omega⟩, by decide,
          x * n, [y * n], ⟨⟨rfl, rfl, fun k hk => match k, hk with | 0, _ => leXL_self _ | 1, _ => leXL_self _⟩, by simp, ?_, by omega, by omega⟩, by decide, by decide, ans_iv h⟩
        intro p hp
        simp only [List.mem_cons, List.not_mem_nil, or_false] at hp
        rcases hp with rfl | rfl <;> exact big_mul (by omega) (by omega)
  · exact h.1.elim
end Go.Proofs.Ytmgfmkbniaepcaa
set_option linter.all false
namespace Go.Proofs.Ytmgfmkbniaepcaa
open Go Go.Vx
set_option maxRecDepth 100000
set_option maxHeartbeats 4000000
def v17 : VF := { ntmps := 47, res := [.cell 4 true 2, .cell 5 true 2, .tmp 6], body :=
 (.seq (.region [u1 2 .box [.tm 0],
 u1 4 (.alloc [(.int .i64 0), (.int .i64 0)]) [],
 u1 5 (.alloc [(.int .i64 0), (.int .i64 0)]) [],
 u1 6 .mov [.cn (.int .i64 0)]])
 (.seq (.seq (.region [u1 10 (.load true 7) [.tm 2],
 u1 11 .mov [.tm 1],
 u1 12 .mov [.tm 1],
 u1 13 (.call 20) [.tm 10, .tm 11, .tm 12],
 u1 7 .mov [.tm 13]])
 (.seq (.region [u1 14 .mov [.tm 7],
 u1 15 (.cmp .neq) [.tm 14, .cn (.int .i64 0)]])
 (.cond (.tm 15) (.seq (.region [u1 16 (.build [(.int .i64 0), (.int .i64 0)] []) [],
 u1 17 (.build [(.int .i64 0), (.int .i64 0)] []) [],
 u1 18 .mov [.tm 7],
 u0 (.store 2) [.tm 4, .tm 16],
 u0 (.store 2) [.tm 5, .tm 17],
 u1 6 .mov [.tm 18]])
 .ret)
  .skip)))
 (.seq (.region [u1 20 (.load true 7) [.tm 2],
 u1 21 .mov [.tm 1],
 u1 22 (.call 21) [.tm 20, .tm 21],
 u1 23 (.call 33) [.tm 22],
 u1 19 .mov [.tm 23],
 u1 24 (.ext 0) [.tm 19],
 u1 25 (.ext 1) [.tm 19],
 u1 8 (.alloc [(.int .i64 0), (.int .i64 0)]) [],
 u0 (.store 2) [.tm 8, .tm 24],
 u1 9 .mov [.tm 25]])
 (.seq (.region [u1 27 (.load true 2) [.tm 8],
 u1 28 (.fieldAddr 3) [.tm 2],
 u1 29 (.load false 1) [.tm 28],
 u1 30 (.fieldAddr 4) [.tm 2],
 u1 31 (.load false 1) [.tm 30],
 u1 32 (.call 34) [.tm 27, .tm 29, .tm 31],
 u1 26 .mov [.tm 32],
 u1 33 (.ext 0) [.tm 26],
 u1 34 (.ext 1) [.tm 26],
 u0 (.store 2) [.tm 4, .tm 33]])
 (.seq (.region [u1 36 (.load true 2) [.tm 4],
 u1 37 (.fieldAddr 5) [.tm 2],
 u1 38 (.load false 1) [.tm 37],
 u1 39 (.fieldAddr 6) [.tm 2],
 u1 40 (.load false 1) [.tm 39],
 u1 41 (.call 34) [.tm 36, .tm 38, .tm 40],
 u1 35 .mov [.tm 41],
 u1 42 (.ext 0) [.tm 35],
 u1 43 (.ext 1) [.tm 35],
 u0 (.store 2) [.tm 5, .tm 42],
 u1 6 .mov [.tm 43]])
 (.seq (.draw [] [w1 44 (.load true 2) [.tm 4],
 w1 45 (.load true 2) [.tm 5],
 w1 46 .mov [.tm 6],
 ⟨u0 (.store 2) [.tm 4, .tm 44], [.tm 5]⟩,
 w0 (.store 2) [.tm 5, .tm 45],
 w1 6 .mov [.tm 46]])
 .ret)))))) }
theorem v17_is : vfunc Try.prog Try.f17 = some v17 := by kernel_rfl
def v18 : VF := { ntmps := 4, res := [.cell 0 true 7], body :=
 (.seq (.region [u1 0 (.alloc [(.int .i64 0), (.int .i64 0), .nil, (.int .i64 0), (.int .i64 0), (.int .i64 0), (.int .i64 0)]) []])
 (.seq (.region [u1 1 (.build [(.int .i64 0), (.int .i64 0)] [(0, 1), (1, 1)]) [.cn (.int .i64 36), .cn (.int .i64 16)],
 u1 2 (.buildSlice 2 1 [(.int .i64 0), (.int .i64 0)] [(0, 2)]) [.tm 1],
 u1 3 (.build [(.int .i64 0), (.int .i64 0), .nil, (.int .i64 0), (.int .i64 0), (.int .i64 0), (.int .i64 0)] [(0, 1), (2, 1), (3, 1), (4, 1), (5, 1), (6, 1)]) [.cn (.int .i64 155500), .tm 2, .cn (.int .i64 1), .cn (.int .i64 4), .cn (.int .i64 1), .cn (.int .i64 4)],
 u0 (.store 7) [.tm 0, .tm 3]])
 .ret)) }
theorem v18_is : vfunc Try.prog Try.f18 = some v18 := by kernel_rfl
def v19 : VF := { ntmps := 24, res := [.tmp 6], body :=
 (.seq (.region [u1 6 .mov [.cn (.bool false)]])
 (.seq (.region [u1 10 (.call 18) [],
 u1 11 .mov [.tm 0],
 u1 12 (.call 8) [.tm 10, .tm 11],
 u1 9 .mov [.tm 12],
 u1 13 (.ext 0) [.tm 9],
 u1 14 (.ext 1) [.tm 9],
 u1 7 (.alloc [(.int .i64 0), (.int .i64 0)]) [],
 u0 (.store 2) [.tm 7, .tm 13],
 u1 8 .mov [.tm 14]])
 (.seq (.region [u1 15 .mov [.tm 8],
 u1 16 (.cmp .eql) [.tm 15, .cn (.int .i64 0)],
 u1 17 .mov [.tm 16],
 u2 18 17 true (.load true 2) [.tm 7],
 u2 19 17 true .mov [.tm 1],
 u2 20 17 true .mov [.tm 2],
 u2 21 17 true (.build [(.int .i64 0), (.int .i64 0)] [(0, 1), (1, 1)]) [.tm 19, .tm 20],
 u2 22 17 true (.eqv false [true, true]) [.tm 18, .tm 21],
 u1 23 .and [.tm 17, .tm 22],
 u1 6 .mov [.tm 23]])
 .ret))) }
theorem v19_is : vfunc Try.prog Try.f19 = some v19 := by kernel_rfl
def v7 : VF := { ntmps := 76, res := [.tmp 0], body :=
 (.seq (.region [u1 0 .mov [.cn (.bool false)]])
 (.seq (.region [u1 11 (.call 18) [],
 u1 12 (.call 17) [.tm 11, .cn (.int .i64 36)],
 u1 10 .mov [.tm 12],
 u1 13 (.ext 0) [.tm 10],
 u1 14 (.ext 1) [.tm 10],
 u1 15 (.ext 2) [.tm 10],
 u1 1 (.alloc [(.int .i64 0), (.int .i64 0)]) [],
 u1 2 (.alloc [(.int .i64 0), (.int .i64 0)]) [],
 u0 (.store 2) [.tm 1, .tm 13],
 u0 (.store 2) [.tm 2, .tm 14],
 u1 3 .mov [.tm 15]])
 (.seq (.region [u1 17 (.call 18) [],
 u1 18 (.call 14) [.tm 17, .cn (.int .i64 36)],
 u1 16 .mov [.tm 18],
 u1 19 (.ext 0) [.tm 16],
 u1 20 (.ext 1) [.tm 16],
 u1 4 .mov [.tm 19],
 u1 5 .mov [.tm 20]])
 (.seq (.region [u1 22 (.call 18) [],
 u1 23 (.call 18) [],
 u1 24 (.call 15) [.tm 22, .tm 23, .cn (.int .i64 52)],
 u1 21 .mov [.tm 24],
 u1 25 (.ext 0) [.tm 21],
 u1 26 (.ext 1) [.tm 21],
 u1 6 .mov [.tm 25],
 u1 7 .mov [.tm 26]])
 (.seq (.region [u1 28 (.call 18) [],
 u1 29 (.call 8) [.tm 28, .cn (.int .i64 35)],
 u1 27 .mov [.tm 29],
 u1 30 (.ext 0) [.tm 27],
 u1 31 (.ext 1) [.tm 27],
 u1 8 (.alloc [(.int .i64 0), (.int .i64 0)]) [],
 u0 (.store 2) [.tm 8, .tm 30],
 u1 9 .mov [.tm 31]])
 (.seq (.region [u1 32 (.call 19) [.cn (.int .i64 36), .cn (.int .i64 155500), .cn (.int .i64 155500)],
 u1 33 .mov [.tm 32],
 u2 34 33 true (.call 19) [.cn (.int .i64 52), .cn (.int .i64 77750), .cn (.int .i64 77750)],
 u1 35 .and [.tm 33, .tm 34],
 u1 36 .mov [.tm 35],
 u2 37 36 true (.call 19) [.cn (.int .i64 68), .cn (.int .i64 38875), .cn (.int .i64 38875)],
 u1 38 .and [.tm 36, .tm 37],
 u1 39 .mov [.tm 38],
 u2 40 39 true (.call 19) [.cn (.int .i64 84), .cn (.int .i64 19437), .cn (.int .i64 19438)],
 u1 41 .and [.tm 39, .tm 40],
 u1 42 .mov [.tm 41],
 u2 43 42 true .mov [.tm 3],
 u2 44 42 true (.cmp .eql) [.tm 43, .cn (.int .i64 0)],
 u1 45 .and [.tm 42, .tm 44],
 u1 46 .mov [.tm 45],
 u2 47 46 true (.load true 2) [.tm 1],
 u2 48 46 true (.build [(.int .i64 0), (.int .i64 0)] [(0, 1), (1, 1)]) [.cn (.int .i64 122129), .cn (.int .i64 122130)],
 u2 49 46 true (.eqv false [true, true]) [.tm 47, .tm 48],
 u1 50 .and [.tm 46, .tm 49],
 u1 51 .mov [.tm 50],
 u2 52 51 true (.load true 2) [.tm 2],
 u2 53 51 true (.build [(.int .i64 0), (.int .i64 0)] [(0, 1), (1, 1)]) [.cn (.int .i64 30532), .cn (.int .i64 30533)],
 u2 54 51 true (.eqv false [true, true]) [.tm 52, .tm 53],
 u1 55 .and [.tm 51, .tm 54],
 u1 56 .mov [.tm 55],
 u2 57 56 true .mov [.tm 5],
 u2 58 56 true (.cmp .eql) [.tm 57, .cn (.int .i64 0)],
 u1 59 .and [.tm 56, .tm 58],
 u1 60 .mov [.tm 59],
 u2 61 60 true .mov [.tm 4],
 u2 62 60 true (.cmp .eql) [.tm 61, .cn (.int .i64 52)],
 u1 63 .and [.tm 60, .tm 62],
 u1 64 .mov [.tm 63],
 u2 65 64 true .mov [.tm 7],
 u2 66 64 true (.cmp .eql) [.tm 65, .cn (.int .i64 0)],
 u1 67 .and [.tm 64, .tm 66],
 u1 68 .mov [.tm 67],
 u2 69 68 true .mov [.tm 6],
 u2 70 68 true (.cmp .eql) [.tm 69, .cn (.int .i64 0)],
 u1 71 .and [.tm 68, .tm 70],
 u1 72 .mov [.tm 71],
 u2 73 72 true .mov [.tm 9],
 u2 74 72 true (.cmp .eql) [.tm 73, .cn (.int .i64 2)],
 u1 75 .and [.tm 72, .tm 74],
 u1 0 .mov [.tm 75]])
 .ret)))))) }
theorem v7_is : vfunc Try.prog Try.f7 = some v7 := by kernel_rfl
theorem ex_hi : ∀ j : Nat, j ≤ 15 → 77750 < (diaS exS (51 - j)).2
  | 0, _ => ex_51
  | j + 1, h => by
    have h1 := ex_hi j (by omega)
    have h2 := (dia_next ex_ok (note := 51 - ((j + 1 : Nat) : Int)) (by show (36 : Int) ≤ _; omega) (by omega)).2
    rw [show 51 - ((j + 1 : Nat) : Int) + 1 = 51 - (j : Int) by omega] at h2
    omega
theorem ex_hi' {n : Int} (h0 : 36 ≤ n) (h1 : n ≤ 51) : 77750 < (diaS exS n).2 := by
  have := ex_hi (51 - n).toNat (by omega)
  rw [show 51 - (((51 - n).toNat : Nat) : Int) = n by omega] at this
  exact this
theorem ex_fst {n : Int} (h0 : 36 ≤ n) (h1 : n ≤ 52) {p : Iv → Bool} (hp : ∀ x : Iv, 0 ≤ x.2 → x.2 ≤ 3000000 → (p x = true ↔ x.2 ≤ 77750)) : fstF exS n p = (52, 0) := by
  have h52 : p (diaS exS 52) = true := by rw [ex_52]; exact (hp _ (by decide) (by decide)).2 (by decide)
  rcases fstF_spec (s := exS) (p := p) (n := n) (by omega) (by omega) with ⟨k1, k2, k3, k4, k5⟩ | ⟨_, k2⟩
  · have hr := dia_rng ex_ok (note := (fstF exS n p).1) (by omega)
    have hle := (hp _ (by omega) hr.2.2.2).1 k4
    have e : (fstF exS n p).1 = 52 := by
      rcases Int.lt_trichotomy (fstF exS n p).1 52 with h | h | h
      · have := ex_hi' (n := (fstF exS n p).1) (by omega) (by omega); omega
      · exact h
      · have := k5 52 h1 h
        rw [h52] at this; cases this
    exact Prod.ext e k1
  · have := k2 52 h1 (by decide)
    rw [h52] at this; cases this
theorem ex_ask36 : askS exS 36 36 = 0 := by decide +kernel
theorem ex_ask35 : askS exS 35 35 = 2 := by decide +kernel
theorem ex_d36 : diaF exS 36 = ((155500, 155500), 0) := by
  rw [diaF, if_neg (by rw [ex_ask36]; decide), ex_36]
theorem ex_d35 : diaF exS 35 = ((0, 0), 2) := by
  rw [diaF, if_pos (by rw [ex_ask35]; decide), ex_ask35]
theorem ex_d52 : diaF exS 52 = ((77750, 77750), 0) := by
  rw [diaF, if_neg (by decide +kernel), ex_52]
theorem ex_d68 : diaF exS 68 = ((38875, 38875), 0) := by
  rw [diaF, if_neg (by decide +kernel), ex_68]
theorem ex_d84 : diaF exS 84 = ((19437, 19438), 0) := by
  rw [diaF, if_neg (by decide +kernel), ex_84]
theorem ex_hal : halF exS 36 = (52, 0) := by
  unfold halF
  rw [if_neg (by rw [ex_ask36]; decide), ex_36]
  refine ex_fst (by decide) (by decide) fun x h0 h1 => ?_
  rw [IntWalk.i64_in (2 * x.2) (by omega), decide_eq_true_eq]
  simp only
  omega
theorem ex_wid : widF exS exS 52 = (0, 0) := by
  unfold widF
  rw [if_neg (by rw [ex_ok]; decide), if_neg (by rw [ex_ok]; decide), if_neg (by decide), ex_52]
  have e : fstF exS (firstN exS) (fun x => decide (x.2 ≤ ((77750, 77750) : Iv).1)) = (52, 0) := ex_fst (by decide) (by decide) fun x h0 h1 => by
    rw [decide_eq_true_eq]
  rw [e]; rfl
theorem ans_mou {k : SV → List HO → Prop} {al : Bool} {hp : List HO} {p q : Iv} {e : Int} (h : k (.tup [.agg (enc2 p), .agg (enc2 q), .int .i64 e]) []) : answers al k (.tup [.agg [.int .i64 p.1, .int .i64 p.2], .agg [.int .i64 q.1, .int .i64 q.2], .int .i64 e]) hp :=
  ans_le (show k _ [] from h) (le_self (.tup [.agg [.int .i64 p.1, .int .i64 p.2], .agg [.int .i64 q.1, .int .i64 q.2], .int .i64 e]) ⟨⟨trivial, trivial, trivial⟩, ⟨trivial, trivial, trivial⟩, trivial, trivial⟩) (fun _ => by simp [enc2, freshS, freshL])
def mouS (s : Scl) (note : Int) : Iv × Iv × Int :=
  if askS s note note ≠ 0 then ((0, 0), (0, 0), askS s note note)
  else ((sclF (piF (diaS s note)).1 s.mn s.md).1, sclF (sclF (piF (diaS s note)).1 s.mn s.md).1 s.cn s.cd)
def mouC : Ctr := { alias := false, of := fun l => match l with
  | [.agg [.int .i64 d, .int .i64 c, .vs _ _ n sz get, .int .i64 mn, .int .i64 md, .int .i64 cn, .int .i64 cd], .int .i64 note] =>
    .ex (List (Int × Int)) fun bs => .pre (lsP 2 enc2 n sz get bs ∧ n ≤ 9223372036854775807) (.fin (.tup [.agg (enc2 (mouS ⟨d, c, bs, mn, md, cn, cd⟩ note).1), .agg (enc2 (mouS ⟨d, c, bs, mn, md, cn, cd⟩ note).2.1), .int .i64 (mouS ⟨d, c, bs, mn, md, cn, cd⟩ note).2.2]) [])
  | _ => noC }
theorem ex_mou : mouS exS 36 = ((122129, 122130), (30532, 30533), 0) := by
  obtain ⟨m1, m2⟩ := ex_mouth
  rw [mouS, if_neg (by rw [ex_ask36]; decide), ex_36, show exS.mn = 1 from rfl, show exS.md = 4 from rfl, show exS.cn = 1 from rfl, show exS.cd = 4 from rfl, m1, m2]
def K30 : Env := { ct := fun n => match n with | 20 => some askC | 21 => some diaC | 33 => some piC | 34 => some sclC | _ => none, fn := fun _ => none, meth := fun _ _ => none }
theorem K30_ct20 : K30.ct 20 = some askC := rfl
theorem K30_ct21 : K30.ct 21 = some diaC := rfl
theorem K30_ct33 : K30.ct 33 = some piC := rfl
theorem K30_ct34 : K30.ct 34 = some sclC := rfl
theorem K30_ok : EnvOk Try.prog K30 := by
  refine ⟨fun f c h => ?_, fun f vf h => ?_, (fun _ _ _ h => by cases h), by kernel_rfl, (fun _ h => by cases h)⟩
  · simp only [K30] at h
    split at h
    · cases h; exact ⟨ask_c, Try.f20, Try.func20, by kernel_rfl, by kernel_rfl⟩
    · cases h; exact ⟨dia_c, Try.f21, Try.func21, by kernel_rfl, by kernel_rfl⟩
    · cases h; exact ⟨pi_ok, Try.f33, Try.func33, by kernel_rfl, by kernel_rfl⟩
    · cases h; exact ⟨scl_ok, Try.f34, Try.func34, by kernel_rfl, by kernel_rfl⟩
    · cases h
  · cases h
theorem mou_c : mouC.ok Try.prog 17 := by
  refine contract Try.func17 v17_is K30_ok 300 mouC fun args k h => ?_
  simp only [mouC] at h
  split at h
  · rename_i d c tt z n sz get mn md cn cd note
    obtain ⟨bs, ⟨⟨rfl, rfl, hg⟩, hn⟩, h⟩ := h
    refine ⟨[.agg [.int .i64 d, .int .i64 c, .vs tt z bs.length 2 (fun k => enc2 (bs.getD k default)), .int .i64 mn, .int .i64 md, .int .i64 cn, .int .i64 cd], .int .i64 note], ⟨⟨⟨rfl, rfl⟩, ⟨rfl, rfl⟩, ⟨id, rfl, rfl, rfl, hg⟩, ⟨rfl, rfl⟩, ⟨rfl, rfl⟩, ⟨rfl, rfl⟩, ⟨rfl, rfl⟩, trivial⟩, ⟨rfl, rfl⟩, trivial⟩, ?_⟩
    have self : lsP 2 enc2 bs.length 2 (fun k => [SV.int IntKind.i64 (bs.getD k default).fst, SV.int IntKind.i64 (bs.getD k default).snd]) bs := ⟨rfl, rfl, fun k _ => leXL_self _⟩
    dsimp only [v17, K30_ct20, K30_ct21, K30_ct33, K30_ct34, askC, diaC, piC, ivoC, sclC, enc2, go_sem, reduceIte]
    simp only [t_all, forall_const, ne_eq, implies_true, Nat.reduceAdd, Nat.reduceLeDiff, reduceCtorEq, Nat.reduceEqDiff]
    refine ⟨bs, ⟨self, hn⟩, fun hc => ?_, fun hc => ?_⟩
    · rw [mouS, if_pos hc] at h
      exact ans_mou (p := (0, 0)) (q := (0, 0)) h
    · rw [mouS, if_neg (by rw [hc]; decide)] at h
      obtain ⟨a1, a2, _⟩ := ask_0 hc
      have := first_rng a1
      refine ⟨bs, ⟨self, a1, by omega, a2.2⟩, ?_⟩
      (try dsimp only [K30_ct33, K30_ct34, piC, ivoC, sclC, enc2, go_sem, reduceIte])
      (try simp only [t_all, forall_const, ne_eq, implies_true, Nat.reduceAdd, Nat.reduceLeDiff, reduceCtorEq, Nat.reduceEqDiff])
      refine ⟨by decide, by decide, by decide, by decide, by decide, by decide, ?_⟩
      exact ans_mou h
  · exact h.1.elim
def K31 : Env := { ct := fun n => match n with | 8 => some diaFC | 17 => some mouC | 14 => some halC | 15 => some widC | _ => none, fn := fun n => match n with | 18 => some v18 | 19 => some v19 | _ => none, meth := fun _ _ => none }
theorem K31_ct8 : K31.ct 8 = some diaFC := rfl
theorem K31_ct17 : K31.ct 17 = some mouC := rfl
theorem K31_ct14 : K31.ct 14 = some halC := rfl
theorem K31_ct15 : K31.ct 15 = some widC := rfl
theorem K31_ct18 : K31.ct 18 = none := rfl
theorem K31_fn18 : K31.fn 18 = some v18 := rfl
theorem K31_ct19 : K31.ct 19 = none := rfl
theorem K31_fn19 : K31.fn 19 = some v19 := rfl
theorem K31_ok : EnvOk Try.prog K31 := by
  refine ⟨fun f c h => ?_, fun f vf h => ?_, (fun _ _ _ h => by cases h), by kernel_rfl, (fun _ h => by cases h)⟩
  · simp only [K31] at h
    split at h
    · cases h; exact ⟨diaF_c, Try.f8, Try.func8, by kernel_rfl, by kernel_rfl⟩
    · cases h; exact ⟨mou_c, Try.f17, Try.func17, by kernel_rfl, by kernel_rfl⟩
    · cases h; exact ⟨hal_c, Try.f14, Try.func14, by kernel_rfl, by kernel_rfl⟩
    · cases h; exact ⟨wid_c, Try.f15, Try.func15, by kernel_rfl, by kernel_rfl⟩
    · cases h
  · simp only [K31] at h
    split at h
    · cases h; exact ⟨Try.f18, Try.func18, v18_is, Try.f18, Try.func18, by kernel_rfl, by kernel_rfl⟩
    · cases h; exact ⟨Try.f19, Try.func19, v19_is, Try.f19, Try.func19, by kernel_rfl, by kernel_rfl⟩
    · cases h
theorem shown_c : trueC.ok Try.prog 7 := by
  refine contract Try.func7 v7_is K31_ok 600 trueC fun args k h => ?_
  simp only [trueC] at h
  split at h
  · refine ⟨[], by simp [leL, le], ?_⟩
    dsimp only [v7, K31_ct8, K31_ct17, K31_ct14, K31_ct15, diaFC, mouC, halC, widC, enc2, K31_ct18, K31_fn18, v18, K31_ct19, K31_fn19, v19, go_sem, reduceIte]
    simp only [t_all, forall_const, ne_eq, implies_true, Nat.reduceAdd, Nat.reduceLeDiff, reduceCtorEq, Nat.reduceEqDiff]
    have D36 := ex_d36
    have D35 := ex_d35
    have D52 := ex_d52
    have D68 := ex_d68
    have D84 := ex_d84
    have DM := ex_mou
    have DH := ex_hal
    have DW := ex_wid
    unfold exS at D36 D35 D52 D68 D84 DM DH DW
    repeat (first | (refine And.intro (by decide) ?_) | (refine Exists.intro [((36 : Int), (16 : Int))] ?_) | (refine And.intro ⟨rfl, rfl, fun k hk => by obtain rfl : k = 0 := (by omega); exact leXL_self _⟩ ?_) | (refine And.intro ⟨⟨rfl, rfl, fun k hk => by obtain rfl : k = 0 := (by omega); exact leXL_self _⟩, ⟨rfl, rfl, fun k hk => by obtain rfl : k = 0 := (by omega); exact leXL_self _⟩⟩ ?_) | (refine And.intro (fun _ => ⟨rfl, rfl, fun k hk => by obtain rfl : k = 0 := (by omega); exact leXL_self _⟩) ?_))
    simp only [D36, D35, DM, DH, DW]
    repeat' (first | decide | exact ⟨rfl, rfl, fun k hk => by obtain rfl : k = 0 := (by omega); exact leXL_self _⟩ | apply And.intro | (refine Exists.intro [((36 : Int), (16 : Int))] ?_) | intro hh)
    all_goals simp only [D52, D68, D84] at *
    simp only [decide_true, Bool.and_self, Bool.and_true, Bool.true_and]
    exact ans_bool h
  · exact h.1.elim
end Go.Proofs.Ytmgfmkbniaepcaa
set_option linter.all false
namespace Go.Proofs.Ytmgfmkbniaepcaa
open Go Go.Vx
set_option maxRecDepth 100000
set_option maxHeartbeats 4000000
def v4 : VF := { ntmps := 248, res := [.tmp 6], body :=
 (.seq (.region [u1 3 .box [.tm 0],
 u1 4 .box [.tm 1],
 u1 6 .mov [.cn (.bool false)]])
 (.seq (.seq (.region [u1 26 (.load true 7) [.tm 3],
 u1 27 (.call 5) [.tm 26],
 u1 28 (.cmp .neq) [.tm 27, .cn (.int .i64 0)],
 u1 29 .mov [.tm 28],
 u2 30 29 false (.load true 7) [.tm 4],
 u2 31 29 false (.call 5) [.tm 30],
 u2 32 29 false (.cmp .neq) [.tm 31, .cn (.int .i64 0)],
 u1 33 .or [.tm 29, .tm 32],
 u1 34 .mov [.tm 33],
 u2 35 34 false (.load true 7) [.tm 3],
 u2 36 34 false .mov [.tm 2],
 u2 37 34 false (.call 6) [.tm 35, .tm 36],
 u2 38 34 false .not [.tm 37],
 u1 39 .or [.tm 34, .tm 38]])
 (.cond (.tm 39) (.seq (.region [u1 40 (.call 7) [],
 u1 6 .mov [.tm 40]])
 .ret)
  .skip))
 (.seq (.region [u1 42 (.load true 7) [.tm 3],
 u1 43 .mov [.tm 2],
 u1 44 (.call 8) [.tm 42, .tm 43],
 u1 41 .mov [.tm 44],
 u1 45 (.ext 0) [.tm 41],
 u1 46 (.ext 1) [.tm 41],
 u1 7 (.alloc [(.int .i64 0), (.int .i64 0)]) [],
 u0 (.store 2) [.tm 7, .tm 45],
 u1 8 .mov [.tm 46]])
 (.seq (.seq (.region [u1 47 .mov [.tm 8],
 u1 48 (.cmp .neq) [.tm 47, .cn (.int .i64 0)]])
 (.cond (.tm 48) (.seq (.region [u1 6 .mov [.cn (.bool false)]])
 .ret)
  .skip))
 (.seq (.seq (.region [u1 49 .mov [.tm 2],
 u1 50 (.cmp .lss) [.tm 49, .cn (.int .i64 139)]])
 (.cond (.tm 50) (.seq (.region [u1 52 (.load true 7) [.tm 3],
 u1 53 .mov [.tm 2],
 u1 54 (.ari .add) [.tm 53, .cn (.int .i64 1)],
 u1 55 (.call 8) [.tm 52, .tm 54],
 u1 51 .mov [.tm 55],
 u1 56 (.ext 0) [.tm 51],
 u1 57 (.ext 1) [.tm 51],
 u1 9 (.alloc [(.int .i64 0), (.int .i64 0)]) [],
 u0 (.store 2) [.tm 9, .tm 56],
 u1 10 .mov [.tm 57]])
 (.seq (.region [u1 58 .mov [.tm 10],
 u1 59 (.cmp .neq) [.tm 58, .cn (.int .i64 0)],
 u1 60 .mov [.tm 59],
 u2 61 60 false (.fieldAddr 0) [.tm 9],
 u2 62 60 false (.load false 1) [.tm 61],
 u2 63 60 false (.fieldAddr 0) [.tm 7],
 u2 64 60 false (.load false 1) [.tm 63],
 u2 65 60 false (.cmp .gtr) [.tm 62, .tm 64],
 u1 66 .or [.tm 60, .tm 65],
 u1 67 .mov [.tm 66],
 u2 68 67 false (.fieldAddr 1) [.tm 9],
 u2 69 67 false (.load false 1) [.tm 68],
 u2 70 67 false (.fieldAddr 1) [.tm 7],
 u2 71 67 false (.load false 1) [.tm 70],
 u2 72 67 false (.cmp .gtr) [.tm 69, .tm 71],
 u1 73 .or [.tm 67, .tm 72]])
 (.cond (.tm 73) (.seq (.region [u1 6 .mov [.cn (.bool false)]])
 .ret)
  .skip)))
  .skip))
 (.seq (.region [u1 74 (.load true 7) [.tm 3],
 u1 11 (.alloc [(.int .i64 0), (.int .i64 0), .nil, (.int .i64 0), (.int .i64 0), (.int .i64 0), (.int .i64 0)]) [],
 u0 (.store 7) [.tm 11, .tm 74]])
 (.seq (.region [u1 75 (.buildSlice 2 0 [(.int .i64 0), (.int .i64 0)] []) [],
 u1 76 (.fieldAddr 2) [.tm 3],
 u1 77 (.load false 1) [.tm 76],
 u1 78 (.append 2 16 [(.int .i64 0), (.int .i64 0)]) [.tm 75, .tm 77],
 u1 79 (.fieldAddr 2) [.tm 11],
 u0 (.store 1) [.tm 79, .tm 78]])
 (.seq (.draw [] [w1 80 (.fieldAddr 2) [.tm 11],
 w1 81 (.load false 1) [.tm 80],
 w1 82 (.fieldAddr 2) [.tm 11],
 w1 83 (.load false 1) [.tm 82],
 w1 84 .len [.tm 83],
 w1 85 (.ari .sub) [.tm 84, .cn (.int .i64 1)],
 w1 86 (.fieldAddr 2) [.tm 11],
 w1 87 (.load false 1) [.tm 86],
 w1 88 (.fieldAddr 2) [.tm 11],
 w1 89 (.load false 1) [.tm 88],
 w1 90 .len [.tm 89],
 w1 91 (.ari .sub) [.tm 90, .cn (.int .i64 1)],
 w1 92 (.idxAddr 2) [.tm 87, .tm 91],
 w1 93 (.fieldAddr 1) [.tm 92],
 w1 94 (.load false 1) [.tm 93],
 w1 95 (.ari .add) [.tm 94, .cn (.int .i64 1)],
 w1 96 .min [.tm 95, .cn (.int .i64 64)],
 w1 97 (.idxAddr 2) [.tm 81, .tm 85],
 w1 98 (.fieldAddr 1) [.tm 97],
 w0 (.store 1) [.tm 98, .tm 96]])
 (.seq (.region [u1 100 (.load true 7) [.tm 11],
 u1 101 .mov [.tm 2],
 u1 102 (.call 8) [.tm 100, .tm 101],
 u1 99 .mov [.tm 102],
 u1 103 (.ext 0) [.tm 99],
 u1 104 (.ext 1) [.tm 99],
 u1 12 (.alloc [(.int .i64 0), (.int .i64 0)]) [],
 u0 (.store 2) [.tm 12, .tm 103],
 u1 13 .mov [.tm 104]])
 (.seq (.seq (.region [u1 105 .mov [.tm 13],
 u1 106 (.cmp .neq) [.tm 105, .cn (.int .i64 0)],
 u1 107 .mov [.tm 106],
 u2 108 107 false (.fieldAddr 0) [.tm 12],
 u2 109 107 false (.load false 1) [.tm 108],
 u2 110 107 false (.fieldAddr 0) [.tm 7],
 u2 111 107 false (.load false 1) [.tm 110],
 u2 112 107 false (.cmp .lss) [.tm 109, .tm 111],
 u1 113 .or [.tm 107, .tm 112],
 u1 114 .mov [.tm 113],
 u2 115 114 false (.fieldAddr 1) [.tm 12],
 u2 116 114 false (.load false 1) [.tm 115],
 u2 117 114 false (.fieldAddr 1) [.tm 7],
 u2 118 114 false (.load false 1) [.tm 117],
 u2 119 114 false (.cmp .lss) [.tm 116, .tm 118],
 u1 120 .or [.tm 114, .tm 119]])
 (.cond (.tm 120) (.seq (.region [u1 6 .mov [.cn (.bool false)]])
 .ret)
  .skip))
 (.seq (.region [u1 122 (.load true 7) [.tm 3],
 u1 123 .mov [.tm 2],
 u1 124 (.call 14) [.tm 122, .tm 123],
 u1 121 .mov [.tm 124],
 u1 125 (.ext 0) [.tm 121],
 u1 126 (.ext 1) [.tm 121],
 u1 14 .mov [.tm 125],
 u1 13 .mov [.tm 126]])
 (.seq (.seq (.region [u1 127 .mov [.tm 13],
 u1 128 (.cmp .eql) [.tm 127, .cn (.int .i64 0)]])
 (.cond (.tm 128) (.seq (.region [u1 130 (.load true 7) [.tm 3],
 u1 131 .mov [.tm 14],
 u1 132 (.call 8) [.tm 130, .tm 131],
 u1 129 .mov [.tm 132],
 u1 133 (.ext 0) [.tm 129],
 u1 134 (.ext 1) [.tm 129],
 u1 15 (.alloc [(.int .i64 0), (.int .i64 0)]) [],
 u0 (.store 2) [.tm 15, .tm 133],
 u1 16 .mov [.tm 134]])
 (.seq (.region [u1 136 (.load true 7) [.tm 3],
 u1 137 .mov [.tm 14],
 u1 138 (.ari .sub) [.tm 137, .cn (.int .i64 1)],
 u1 139 (.call 8) [.tm 136, .tm 138],
 u1 135 .mov [.tm 139],
 u1 140 (.ext 0) [.tm 135],
 u1 141 (.ext 1) [.tm 135],
 u1 17 (.alloc [(.int .i64 0), (.int .i64 0)]) [],
 u0 (.store 2) [.tm 17, .tm 140],
 u1 18 .mov [.tm 141]])
 (.seq (.region [u1 142 .mov [.tm 14],
 u1 143 .mov [.tm 2],
 u1 144 (.cmp .leq) [.tm 142, .tm 143],
 u1 145 .mov [.tm 144],
 u2 146 145 false .mov [.tm 16],
 u2 147 145 false (.cmp .neq) [.tm 146, .cn (.int .i64 0)],
 u1 148 .or [.tm 145, .tm 147],
 u1 149 .mov [.tm 148],
 u2 150 149 false .mov [.tm 18],
 u2 151 149 false (.cmp .neq) [.tm 150, .cn (.int .i64 0)],
 u1 152 .or [.tm 149, .tm 151],
 u1 153 .mov [.tm 152],
 u2 154 153 false (.fieldAddr 1) [.tm 15],
 u2 155 153 false (.load false 1) [.tm 154],
 u2 156 153 false (.ari .mul) [.cn (.int .i64 2), .tm 155],
 u2 157 153 false (.fieldAddr 0) [.tm 7],
 u2 158 153 false (.load false 1) [.tm 157],
 u2 159 153 false (.cmp .gtr) [.tm 156, .tm 158],
 u1 160 .or [.tm 153, .tm 159],
 u1 161 .mov [.tm 160],
 u2 162 161 false (.fieldAddr 1) [.tm 17],
 u2 163 161 false (.load false 1) [.tm 162],
 u2 164 161 false (.ari .mul) [.cn (.int .i64 2), .tm 163],
 u2 165 161 false (.fieldAddr 0) [.tm 7],
 u2 166 161 false (.load false 1) [.tm 165],
 u2 167 161 false (.cmp .leq) [.tm 164, .tm 166],
 u1 168 .or [.tm 161, .tm 167]])
 (.cond (.tm 168) (.seq (.region [u1 6 .mov [.cn (.bool false)]])
 .ret)
  .skip))))
  .skip))
 (.seq (.region [u1 170 (.load true 7) [.tm 3],
 u1 171 (.load true 7) [.tm 4],
 u1 172 .mov [.tm 2],
 u1 173 (.call 15) [.tm 170, .tm 171, .tm 172],
 u1 169 .mov [.tm 173],
 u1 174 (.ext 0) [.tm 169],
 u1 175 (.ext 1) [.tm 169],
 u1 19 .mov [.tm 174],
 u1 13 .mov [.tm 175]])
 (.seq (.seq (.region [u1 176 .mov [.tm 13],
 u1 177 (.cmp .neq) [.tm 176, .cn (.int .i64 0)]])
 (.cond (.tm 177) (.seq (.region [u1 179 (.load true 7) [.tm 4],
 u1 180 (.call 8) [.tm 179, .cn (.int .i64 139)],
 u1 178 .mov [.tm 180],
 u1 181 (.ext 0) [.tm 178],
 u1 182 (.ext 1) [.tm 178],
 u1 20 (.alloc [(.int .i64 0), (.int .i64 0)]) [],
 u0 (.store 2) [.tm 20, .tm 181],
 u1 21 .mov [.tm 182]])
 (.seq (.region [u1 183 .mov [.tm 13],
 u1 184 (.cmp .eql) [.tm 183, .cn (.int .i64 4)],
 u1 185 .mov [.tm 184],
 u2 186 185 true .mov [.tm 21],
 u2 187 185 true (.cmp .eql) [.tm 186, .cn (.int .i64 0)],
 u1 188 .and [.tm 185, .tm 187],
 u1 189 .mov [.tm 188],
 u2 190 189 true (.fieldAddr 1) [.tm 20],
 u2 191 189 true (.load false 1) [.tm 190],
 u2 192 189 true (.fieldAddr 0) [.tm 7],
 u2 193 189 true (.load false 1) [.tm 192],
 u2 194 189 true (.cmp .gtr) [.tm 191, .tm 193],
 u1 195 .and [.tm 189, .tm 194],
 u1 196 .mov [.tm 195],
 u2 197 196 true (.call 7) [],
 u1 198 .and [.tm 196, .tm 197],
 u1 6 .mov [.tm 198]])
 .ret))
  .skip))
 (.seq (.seq (.region [u1 199 .mov [.tm 19],
 u1 200 .mov [.tm 2],
 u1 201 (.cmp .gtr) [.tm 199, .tm 200],
 u1 202 .mov [.tm 201],
 u2 203 202 false .mov [.tm 2],
 u2 204 202 false .mov [.tm 19],
 u2 205 202 false (.ari .sub) [.tm 203, .tm 204],
 u2 206 202 false (.cmp .gtr) [.tm 205, .cn (.int .i64 139)],
 u1 207 .or [.tm 202, .tm 206]])
 (.cond (.tm 207) (.seq (.region [u1 6 .mov [.cn (.bool false)]])
 .ret)
  .skip))
 (.seq (.region [u1 209 (.load true 7) [.tm 4],
 u1 210 .mov [.tm 2],
 u1 211 .mov [.tm 19],
 u1 212 (.ari .sub) [.tm 210, .tm 211],
 u1 213 (.call 8) [.tm 209, .tm 212],
 u1 208 .mov [.tm 213],
 u1 214 (.ext 0) [.tm 208],
 u1 215 (.ext 1) [.tm 208],
 u1 22 (.alloc [(.int .i64 0), (.int .i64 0)]) [],
 u0 (.store 2) [.tm 22, .tm 214],
 u1 23 .mov [.tm 215]])
 (.seq (.region [u1 217 (.load true 7) [.tm 4],
 u1 218 .mov [.tm 2],
 u1 219 .mov [.tm 19],
 u1 220 (.ari .sub) [.tm 218, .tm 219],
 u1 221 (.ari .sub) [.tm 220, .cn (.int .i64 1)],
 u1 222 (.call 8) [.tm 217, .tm 221],
 u1 216 .mov [.tm 222],
 u1 223 (.ext 0) [.tm 216],
 u1 224 (.ext 1) [.tm 216],
 u1 24 (.alloc [(.int .i64 0), (.int .i64 0)]) [],
 u0 (.store 2) [.tm 24, .tm 223],
 u1 25 .mov [.tm 224]])
 (.seq (.region [u1 225 .mov [.tm 23],
 u1 226 (.cmp .eql) [.tm 225, .cn (.int .i64 0)],
 u1 227 .mov [.tm 226],
 u2 228 227 true (.fieldAddr 1) [.tm 22],
 u2 229 227 true (.load false 1) [.tm 228],
 u2 230 227 true (.fieldAddr 0) [.tm 7],
 u2 231 227 true (.load false 1) [.tm 230],
 u2 232 227 true (.cmp .leq) [.tm 229, .tm 231],
 u1 233 .and [.tm 227, .tm 232],
 u1 234 .mov [.tm 233],
 u2 235 234 true .mov [.tm 25],
 u2 236 234 true (.cmp .neq) [.tm 235, .cn (.int .i64 0)],
 u2 237 234 true .mov [.tm 236],
 u2 238 237 false (.fieldAddr 1) [.tm 24],
 u2 239 237 false (.load false 1) [.tm 238],
 u2 240 237 false (.fieldAddr 0) [.tm 7],
 u2 241 237 false (.load false 1) [.tm 240],
 u2 242 237 false (.cmp .gtr) [.tm 239, .tm 241],
 u2 243 234 true .or [.tm 237, .tm 242],
 u1 244 .and [.tm 234, .tm 243],
 u1 245 .mov [.tm 244],
 u2 246 245 true (.call 7) [],
 u1 247 .and [.tm 245, .tm 246],
 u1 6 .mov [.tm 247]])
 .ret)))))))))))))))))) }
theorem v4_is : vfunc Try.prog Try.f4 = some v4 := by kernel_rfl
def shS : List Sh := [.int .i64, .int .i64, .slice bare2, .int .i64, .int .i64, .int .i64, .int .i64]
def lawF : List PSh := [⟨true, shS⟩, ⟨true, shS⟩, ⟨false, [.int .i64]⟩]
theorem scl_of {cs : List SV} (h : okSL shS cs) : ∃ (z : Bool) (s : Scl), s.bs.length ≤ 9223372036854775807 ∧ leXL cs [.int .i64 s.d, .int .i64 s.c, .vs false z s.bs.length 2 (fun k => enc2 (s.bs.getD k default)), .int .i64 s.mn, .int .i64 s.md, .int .i64 s.cn, .int .i64 s.cd] := by
  obtain ⟨_, _, rfl, ⟨n1, rfl, _⟩, e1⟩ := okSL_cons_inv h
  obtain ⟨_, _, rfl, ⟨n2, rfl, _⟩, e2⟩ := okSL_cons_inv e1
  obtain ⟨_, _, rfl, h3, e3⟩ := okSL_cons_inv e2
  obtain ⟨_, _, rfl, ⟨n4, rfl, _⟩, e4⟩ := okSL_cons_inv e3
  obtain ⟨_, _, rfl, ⟨n5, rfl, _⟩, e5⟩ := okSL_cons_inv e4
  obtain ⟨_, _, rfl, ⟨n6, rfl, _⟩, e6⟩ := okSL_cons_inv e5
  obtain ⟨_, _, rfl, ⟨n7, rfl, _⟩, e7⟩ := okSL_cons_inv e6
  cases okSL_nil_inv e7
  obtain ⟨z, l, hl, hle⟩ := ivs_of h3
  rw [maxLen_eq] at hl
  exact ⟨z, ⟨n1, n2, l, n4, n5, n6, n7⟩, hl, ⟨rfl, rfl⟩, ⟨rfl, rfl⟩, hle, ⟨rfl, rfl⟩, ⟨rfl, rfl⟩, ⟨rfl, rfl⟩, ⟨rfl, rfl⟩, trivial⟩
theorem diaF_is {s : Scl} {note : Int} (hs : chkS s = 0) (hh : hasS s note = true) : diaF s note = (diaS s note, 0) := by
  have e : askS s note note = 0 := by
    unfold askS
    rw [if_neg (by rw [hs]; decide), hh, if_neg (by simp)]
  rw [diaF, if_neg (by rw [e]; decide)]
theorem diaF_bad {s : Scl} {note : Int} (hs : chkS s = 0) (hh : hasS s note = false) : diaF s note = ((0, 0), 2) := by
  have e : askS s note note = 2 := by
    unfold askS
    rw [if_neg (by rw [hs]; decide), hh, if_pos (by simp)]
  rw [diaF, if_pos (by rw [e]; decide), e]
theorem up_get {bs r : List (Int × Int)} {b : Int × Int} (h : bs = r ++ [b]) (k : Nat) : (upB r b).getD k default = if k = bs.length - 1 then ((bs.getD k default).1, min ((bs.getD k default).2 + 1) 64) else bs.getD k default := by
  subst h
  unfold upB
  simp only [List.length_append, List.length_singleton, Nat.add_sub_cancel]
  rcases Nat.lt_trichotomy k r.length with hk | hk | hk
  · rw [if_neg (by omega), List.getD_eq_getElem?_getD, List.getD_eq_getElem?_getD, List.getElem?_append_left hk, List.getElem?_append_left hk]
  · subst hk
    rw [if_pos rfl, List.getD_eq_getElem?_getD, List.getD_eq_getElem?_getD, List.getElem?_append_right (Nat.le_refl _), List.getElem?_append_right (Nat.le_refl _), Nat.sub_self]
    rfl
  · rw [if_neg (by omega), List.getD_eq_getElem?_getD, List.getD_eq_getElem?_getD, List.getElem?_append_right (by omega), List.getElem?_append_right (by omega)]
    obtain ⟨j, hj⟩ : ∃ j, k - r.length = j + 1 := ⟨k - r.length - 1, by omega⟩
    rw [hj]; rfl
theorem has_of {s : Scl} {note : Int} (h0 : firstN s ≤ note) (h1 : note ≤ 139) : hasS s note = true := by
  unfold hasS
  rw [decide_eq_true h0, decide_eq_true h1]; rfl
theorem has_no {s : Scl} {note : Int} (h : note < firstN s) : hasS s note = false := by
  unfold hasS
  rw [decide_eq_false (by omega)]; rfl
theorem hal_is {s : Scl} {note : Int} (hs : chkS s = 0) (hh : hasS s note = true) (h : (halF s note).2 = 0) :
    (note < (halF s note).1 ∧ (halF s note).1 ≤ 139) ∧ IntKind.i64.wrap (2 * (diaS s (halF s note).1).2) ≤ (diaS s note).1 ∧ (diaS s note).1 < IntKind.i64.wrap (2 * (diaS s ((halF s note).1 - 1)).2) := by
  have hf := first_rng hs
  have hn := hh
  simp only [hasS, Bool.and_eq_true, decide_eq_true_eq] at hn
  have e : halF s note = fstF s (note + 1) fun x => decide (IntKind.i64.wrap (2 * x.2) ≤ (diaS s note).1) := by
    have ea : askS s note note = 0 := by
      unfold askS
      rw [if_neg (by rw [hs]; decide), hh, if_neg (by simp)]
    rw [halF, if_neg (by rw [ea]; decide)]
  rcases fstF_spec (s := s) (p := fun x => decide (IntKind.i64.wrap (2 * x.2) ≤ (diaS s note).1)) (n := note + 1) (by omega) (by omega) with ⟨k1, k2, k3, k4, k5⟩ | ⟨k1, _⟩
  · rw [← e] at k2 k3 k4 k5
    refine ⟨⟨by omega, k3⟩, of_decide_eq_true k4, ?_⟩
    by_cases c : (halF s note).1 - 1 = note
    · rw [c]
      have := dia_rng hs (note := note) (by omega)
      rw [IntWalk.i64_in _ (by omega)]
      omega
    · have := k5 ((halF s note).1 - 1) (by omega) (by omega)
      have := of_decide_eq_false this
      omega
  · rw [e, k1] at h; cases h
theorem wid_is {s t : Scl} {note : Int} (hs : chkS s = 0) (ht : chkS t = 0) (hh : hasS s note = true) :
    ((widF s t note).2 ≠ 0 → (widF s t note).2 = 4 ∧ (diaS s note).1 < (diaS t 139).2) ∧
    ((widF s t note).2 = 0 → ∃ n, (widF s t note).1 = note - n ∧ (firstN t ≤ n ∧ n ≤ 139) ∧ (diaS t n).2 ≤ (diaS s note).1 ∧ (firstN t ≤ n - 1 → (diaS s note).1 < (diaS t (n - 1)).2)) := by
  have hf := first_rng ht
  unfold widF
  rw [if_neg (by rw [hs]; decide), if_neg (by rw [ht]; decide), if_neg (by rw [hh]; decide)]
  rcases fstF_spec (s := t) (p := fun x => decide (x.2 ≤ (diaS s note).1)) (n := firstN t) (by omega) (by omega) with ⟨k1, k2, k3, k4, k5⟩ | ⟨k1, k2⟩
  · rw [if_neg (by rw [k1]; decide)]
    refine ⟨fun h => absurd rfl h, fun _ => ⟨_, rfl, ⟨k2, k3⟩, of_decide_eq_true k4, fun h => ?_⟩⟩
    have := of_decide_eq_false (k5 _ h (by omega))
    omega
  · rw [if_pos (by rw [k1]; decide), k1]
    refine ⟨fun _ => ⟨rfl, ?_⟩, fun h => by cases h⟩
    have := of_decide_eq_false (k2 139 hf.2 (by decide))
    omega
def K40 : Env := { ct := fun n => match n with | 8 => some diaFC | 14 => some halC | 15 => some widC | 5 => some chkSC | 6 => some hasC | 7 => some trueC | _ => none, fn := fun _ => none, meth := fun _ _ => none }
theorem K40_ct8 : K40.ct 8 = some diaFC := rfl
theorem K40_ct14 : K40.ct 14 = some halC := rfl
theorem K40_ct15 : K40.ct 15 = some widC := rfl
theorem K40_ct5 : K40.ct 5 = some chkSC := rfl
theorem K40_ct6 : K40.ct 6 = some hasC := rfl
theorem K40_ct7 : K40.ct 7 = some trueC := rfl
theorem K40_ok : EnvOk Try.prog K40 := by
  refine ⟨fun f c h => ?_, fun f vf h => ?_, (fun _ _ _ h => by cases h), by kernel_rfl, (fun _ h => by cases h)⟩
  · simp only [K40] at h
    split at h
    · cases h; exact ⟨diaF_c, Try.f8, Try.func8, by kernel_rfl, by kernel_rfl⟩
    · cases h; exact ⟨hal_c, Try.f14, Try.func14, by kernel_rfl, by kernel_rfl⟩
    · cases h; exact ⟨wid_c, Try.f15, Try.func15, by kernel_rfl, by kernel_rfl⟩
    · cases h; exact ⟨rchkS_c, Try.f5, Try.func5, by kernel_rfl, by kernel_rfl⟩
    · cases h; exact ⟨rhasS_c, Try.f6, Try.func6, by kernel_rfl, by kernel_rfl⟩
    · cases h; exact ⟨shown_c, Try.f7, Try.func7, by kernel_rfl, by kernel_rfl⟩
    · cases h
  · cases h
theorem lawFalls : (lawC lawF).ok Try.prog 4 := by
  refine contract Try.func4 v4_is K40_ok 800 (lawC lawF) fun args k h => ?_
  obtain ⟨ha, hk⟩ := h
  obtain ⟨_, _, rfl, h1, e1⟩ := okPL_cons_inv ha
  obtain ⟨cs, rfl, hcs⟩ := okP_agg_inv h1
  obtain ⟨_, _, rfl, h2, e2⟩ := okPL_cons_inv e1
  obtain ⟨ds, rfl, hds⟩ := okP_agg_inv h2
  obtain ⟨_, _, rfl, h3, e3⟩ := okPL_cons_inv e2
  cases okPL_nil_inv e3
  obtain ⟨note, rfl, hnote⟩ := okP_one_inv h3
  obtain ⟨z, ⟨d, c, bs, mn, md, cn, cd⟩, hl, hle⟩ := scl_of hcs
  obtain ⟨z', ⟨d', c', bt, mn', md', cn', cd'⟩, hl', hle'⟩ := scl_of hds
  simp only at hl hl' hle hle'
  refine ⟨[.agg [.int .i64 d, .int .i64 c, .vs false z bs.length 2 (fun k => enc2 (bs.getD k default)), .int .i64 mn, .int .i64 md, .int .i64 cn, .int .i64 cd], .agg [.int .i64 d', .int .i64 c', .vs false z' bt.length 2 (fun k => enc2 (bt.getD k default)), .int .i64 mn', .int .i64 md', .int .i64 cn', .int .i64 cd'], .int .i64 note], ⟨leXL_le _ _ hle (by simp only [bndL_cons, bndL_nil, bnd_vs, bnd_int, and_self]), leXL_le _ _ hle' (by simp only [bndL_cons, bndL_nil, bnd_vs, bnd_int, and_self]), ⟨rfl, rfl⟩, trivial⟩, ?_⟩
  have self : lsP 2 enc2 bs.length 2 (fun k => [SV.int IntKind.i64 (bs.getD k default).fst, SV.int IntKind.i64 (bs.getD k default).snd]) bs := ⟨rfl, rfl, fun k _ => leXL_self _⟩
  have self' : lsP 2 enc2 bt.length 2 (fun k => [SV.int IntKind.i64 (bt.getD k default).fst, SV.int IntKind.i64 (bt.getD k default).snd]) bt := ⟨rfl, rfl, fun k _ => leXL_self _⟩
  dsimp only [v4, K40_ct8, K40_ct14, K40_ct15, K40_ct5, K40_ct6, K40_ct7, diaFC, halC, widC, chkSC, hasC, trueC, enc2, go_sem, reduceIte]
  simp only [t_all, forall_const, ne_eq, implies_true, Nat.reduceAdd, Nat.reduceLeDiff, reduceCtorEq, Nat.reduceEqDiff]
  have hk' : k (.bool true) [] := hk
  have len0 : chkS ⟨d, c, bs, mn, md, cn, cd⟩ = 0 → 0 < bs.length := fun h => (okS_len h).1
  refine ⟨bs, ⟨self, hl⟩, bt, fun _ => ⟨self', hl'⟩, bs, fun hx => ⟨self, ?_, hl⟩, fun _ => ans_bool hk', fun hc => ?_⟩
  · simp only [Bool.or_eq_false_iff, Bool.not_eq_false', decide_eq_true_eq] at hx
    exact len0 hx.1
  simp only [Bool.or_eq_false_iff, Bool.not_eq_false', decide_eq_true_eq] at hc
  obtain ⟨⟨hs, ht⟩, hh⟩ := hc
  have hfs := first_rng hs
  have hft := first_rng ht
  have hnt := hh
  simp only [hasS, Bool.and_eq_true, decide_eq_true_eq] at hnt
  have E1 := diaF_is hs hh
  have hl3 : bs.length ≤ 3 := (okS_len hs).2.1
  obtain ⟨r, b, hrb⟩ : ∃ r b, bs = r ++ [b] := by
    have h0 := len0 hs
    exact ⟨bs.dropLast, bs.getLast (List.length_pos_iff.1 h0), (List.dropLast_concat_getLast _).symm⟩
  obtain ⟨UB, hUBd⟩ : ∃ UB, UB = upB r b := ⟨_, rfl⟩
  have hUB : UB.length = bs.length := by rw [hUBd, hrb]; simp [upB]
  have gUB := up_get hrb
  rw [← hUBd] at gUB
  have hw1 : IntKind.i64.wrap (note + 1) = note + 1 := IntWalk.i64_in _ (by omega)
  have hi1 : IntKind.i64.wrap (((0 + bs.length : Nat) : Int) - 1) = ((bs.length - 1 : Nat) : Int) := by have := len0 hs; rw [IntWalk.i64_in _ (by omega)]; omega
  have hlen0 := len0 hs
  have hs' := hs
  rw [hrb] at hs'
  have hsU := up_ok hs'
  have hU := dia_up hs' (note := note) (by omega)
  rw [← hUBd] at hsU hU
  rw [← hrb] at hU
  have hb2 : 8 ≤ (bs.getD (bs.length - 1) default).2 ∧ (bs.getD (bs.length - 1) default).2 ≤ 64 := by
    have h3 := (okS_len hs).2.2
    simp only [okS, Bool.and_eq_true] at h3
    have := ((benL_1 bs).1 h3.1.2 (bs.length - 1) (by omega)).1
    omega
  have hwb : IntKind.i64.wrap ((bs.getD (bs.length - 1) default).2 + 1) = (bs.getD (bs.length - 1) default).2 + 1 := IntWalk.i64_in _ (by omega)
  have EU : diaF ⟨d, c, UB, mn, md, cn, cd⟩ note = (diaS ⟨d, c, UB, mn, md, cn, cd⟩ note, 0) := diaF_is hsU (has_of (by
    have e0 : firstN ⟨d, c, UB, mn, md, cn, cd⟩ = firstN ⟨d, c, bs, mn, md, cn, cd⟩ := by
      show (UB.getD 0 default).1 = (bs.getD 0 default).1
      rw [gUB]; split <;> rfl
    rw [e0]; exact hnt.1) hnt.2)
  refine ⟨bs, ⟨self, hl⟩, by decide, by decide, fun hne => absurd (by rw [E1]) hne, fun _ => ?_⟩
  simp only [E1, hw1]
  refine ⟨fun hlt => ⟨bs, ⟨self, hl⟩, by decide, by decide, fun hbad => ?_, fun _ => ?_⟩, fun hge => ?_⟩
  · exfalso
    obtain ⟨q1, q2⟩ := dia_next hs hnt.1 hlt
    rw [diaF_is hs (by simp only [hasS, Bool.and_eq_true, decide_eq_true_eq]; omega)] at hbad
    simp only [Bool.or_eq_true, Bool.not_eq_true', decide_eq_true_eq, decide_eq_false_iff_not] at hbad
    rcases hbad with (h9 | h9) | h9
    · exact h9 trivial
    · omega
    · omega
  · refine ⟨by decide, by unfold capOk; omega, ?_⟩
    simp only [hi1, Int.toNat_natCast, Nat.not_lt_zero, if_false, Nat.sub_zero]
    dsimp only [K40_ct8, K40_ct14, K40_ct15, K40_ct5, K40_ct6, K40_ct7, diaFC, halC, widC, chkSC, hasC, trueC, enc2, go_sem, reduceIte]
    simp only [t_all, forall_const, ne_eq, implies_true, Nat.reduceAdd, Nat.reduceLeDiff, reduceCtorEq, Nat.reduceEqDiff]
    refine ⟨⟨by omega, by omega⟩, by omega, ⟨by omega, by omega⟩, by omega, UB, ⟨⟨rfl, by rw [hUB]; omega, fun k hk => ?_⟩, by omega⟩, by decide, by decide, ?_⟩
    · rw [gUB]
      simp only [Int.toNat_natCast]
      by_cases ck : k = bs.length - 1
      · subst ck
        rw [if_pos rfl, if_pos rfl, hwb]
        exact leXL_self _
      · rw [if_neg ck, if_neg ck]
        exact leXL_self _
    simp only [EU]
    refine ⟨fun hbad => ?_, fun _ => ?_⟩
    · exfalso
      simp only [Bool.or_eq_true, Bool.not_eq_true', decide_eq_true_eq, decide_eq_false_iff_not] at hbad
      rcases hbad with (h9 | h9) | h9
      · exact h9 trivial
      · omega
      · omega
    refine ⟨bs, ⟨self, hl⟩, by decide, by decide, fun hf => ⟨bs, ⟨self, hl⟩, by decide, by decide, bs, ⟨self, hl⟩, by decide, by decide, fun hbad => ?_, fun _ => ?_⟩, fun hf => ?_⟩
    · exfalso
      obtain ⟨⟨a1, a2⟩, a3, a4⟩ := hal_is hs hh hf
      rw [IntWalk.i64_in _ (by omega)] at hbad
      rw [diaF_is hs (has_of (by omega) a2), diaF_is hs (has_of (note := (halF ⟨d, c, bs, mn, md, cn, cd⟩ note).1 - 1) (by omega) (by omega))] at hbad
      simp only [Bool.or_eq_true, Bool.not_eq_true', decide_eq_true_eq, decide_eq_false_iff_not] at hbad
      rcases hbad with (((h9 | h9) | h9) | h9) | h9
      · omega
      · exact h9 trivial
      · exact h9 trivial
      · omega
      · omega
    · refine ⟨bs, bt, ⟨self, hl, self', hl'⟩, by decide, by decide, ?_⟩
      obtain ⟨w1, w2⟩ := wid_is hs ht hh
      refine ⟨fun hw => ⟨bt, ⟨self', hl'⟩, by decide, by decide, ?_⟩, fun hw => ?_⟩
      · obtain ⟨g1, g2⟩ := w1 hw
        rw [diaF_is ht (has_of hft.2 (Int.le_refl 139)), g1]
        simp only
        rw [decide_eq_true g2]
        exact ans_bool hk'
      obtain ⟨m, g1, g2, g3, g4⟩ := w2 hw
      rw [g1]
      have em : IntKind.i64.wrap (note - (note - m)) = m := by rw [IntWalk.i64_in _ (by omega)]; omega
      have em1 : IntKind.i64.wrap (m - 1) = m - 1 := IntWalk.i64_in _ (by omega)
      simp only [em, em1]
      refine ⟨fun hbad => ?_, fun _ => ⟨bt, ⟨self', hl'⟩, by decide, by decide, bt, ⟨self', hl'⟩, by decide, by decide, fun h1 h2 => by rw [h1, decide_eq_true h2]; rfl, ?_⟩⟩
      · exfalso
        simp only [Bool.or_eq_true, decide_eq_true_eq] at hbad
        omega
      rw [diaF_is ht (has_of g2.1 g2.2)]
      simp only
      rw [decide_eq_true g3]
      by_cases cm : firstN ⟨d', c', bt, mn', md', cn', cd'⟩ ≤ m - 1
      · rw [diaF_is ht (has_of cm (by omega))]
        simp only
        rw [decide_eq_true (g4 cm)]
        exact ans_bool hk'
      · rw [diaF_bad ht (has_no (by omega))]
        exact ans_bool hk'
    · refine ⟨bs, bt, ⟨self, hl, self', hl'⟩, by decide, by decide, ?_⟩
      obtain ⟨w1, w2⟩ := wid_is hs ht hh
      refine ⟨fun hw => ⟨bt, ⟨self', hl'⟩, by decide, by decide, ?_⟩, fun hw => ?_⟩
      · obtain ⟨g1, g2⟩ := w1 hw
        rw [diaF_is ht (has_of hft.2 (Int.le_refl 139)), g1]
        simp only
        rw [decide_eq_true g2]
        exact ans_bool hk'
      obtain ⟨m, g1, g2, g3, g4⟩ := w2 hw
      rw [g1]
      have em : IntKind.i64.wrap (note - (note - m)) = m := by rw [IntWalk.i64_in _ (by omega)]; omega
      have em1 : IntKind.i64.wrap (m - 1) = m - 1 := IntWalk.i64_in _ (by omega)
      simp only [em, em1]
      refine ⟨fun hbad => ?_, fun _ => ⟨bt, ⟨self', hl'⟩, by decide, by decide, bt, ⟨self', hl'⟩, by decide, by decide, fun h1 h2 => by rw [h1, decide_eq_true h2]; rfl, ?_⟩⟩
      · exfalso
        simp only [Bool.or_eq_true, decide_eq_true_eq] at hbad
        omega
      rw [diaF_is ht (has_of g2.1 g2.2)]
      simp only
      rw [decide_eq_true g3]
      by_cases cm : firstN ⟨d', c', bt, mn', md', cn', cd'⟩ ≤ m - 1
      · rw [diaF_is ht (has_of cm (by omega))]
        simp only
        rw [decide_eq_true (g4 cm)]
        exact ans_bool hk'
      · rw [diaF_bad ht (has_no (by omega))]
        exact ans_bool hk'
  · refine ⟨by decide, by unfold capOk; omega, ?_⟩
    simp only [hi1, Int.toNat_natCast, Nat.not_lt_zero, if_false, Nat.sub_zero]
    dsimp only [K40_ct8, K40_ct14, K40_ct15, K40_ct5, K40_ct6, K40_ct7, diaFC, halC, widC, chkSC, hasC, trueC, enc2, go_sem, reduceIte]
    simp only [t_all, forall_const, ne_eq, implies_true, Nat.reduceAdd, Nat.reduceLeDiff, reduceCtorEq, Nat.reduceEqDiff]
    refine ⟨⟨by omega, by omega⟩, by omega, ⟨by omega, by omega⟩, by omega, UB, ⟨⟨rfl, by rw [hUB]; omega, fun k hk => ?_⟩, by omega⟩, by decide, by decide, ?_⟩
    · rw [gUB]
      simp only [Int.toNat_natCast]
      by_cases ck : k = bs.length - 1
      · subst ck
        rw [if_pos rfl, if_pos rfl, hwb]
        exact leXL_self _
      · rw [if_neg ck, if_neg ck]
        exact leXL_self _
    simp only [EU]
    refine ⟨fun hbad => ?_, fun _ => ?_⟩
    · exfalso
      simp only [Bool.or_eq_true, Bool.not_eq_true', decide_eq_true_eq, decide_eq_false_iff_not] at hbad
      rcases hbad with (h9 | h9) | h9
      · exact h9 trivial
      · omega
      · omega
    refine ⟨bs, ⟨self, hl⟩, by decide, by decide, fun hf => ⟨bs, ⟨self, hl⟩, by decide, by decide, bs, ⟨self, hl⟩, by decide, by decide, fun hbad => ?_, fun _ => ?_⟩, fun hf => ?_⟩
    · exfalso
      obtain ⟨⟨a1, a2⟩, a3, a4⟩ := hal_is hs hh hf
      rw [IntWalk.i64_in _ (by omega)] at hbad
      rw [diaF_is hs (has_of (by omega) a2), diaF_is hs (has_of (note := (halF ⟨d, c, bs, mn, md, cn, cd⟩ note).1 - 1) (by omega) (by omega))] at hbad
      simp only [Bool.or_eq_true, Bool.not_eq_true', decide_eq_true_eq, decide_eq_false_iff_not] at hbad
      rcases hbad with (((h9 | h9) | h9) | h9) | h9
      · omega
      · exact h9 trivial
      · exact h9 trivial
      · omega
      · omega
    · refine ⟨bs, bt, ⟨self, hl, self', hl'⟩, by decide, by decide, ?_⟩
      obtain ⟨w1, w2⟩ := wid_is hs ht hh
      refine ⟨fun hw => ⟨bt, ⟨self', hl'⟩, by decide, by decide, ?_⟩, fun hw => ?_⟩
      · obtain ⟨g1, g2⟩ := w1 hw
        rw [diaF_is ht (has_of hft.2 (Int.le_refl 139)), g1]
        simp only
        rw [decide_eq_true g2]
        exact ans_bool hk'
      obtain ⟨m, g1, g2, g3, g4⟩ := w2 hw
      rw [g1]
      have em : IntKind.i64.wrap (note - (note - m)) = m := by rw [IntWalk.i64_in _ (by omega)]; omega
      have em1 : IntKind.i64.wrap (m - 1) = m - 1 := IntWalk.i64_in _ (by omega)
      simp only [em, em1]
      refine ⟨fun hbad => ?_, fun _ => ⟨bt, ⟨self', hl'⟩, by decide, by decide, bt, ⟨self', hl'⟩, by decide, by decide, fun h1 h2 => by rw [h1, decide_eq_true h2]; rfl, ?_⟩⟩
      · exfalso
        simp only [Bool.or_eq_true, decide_eq_true_eq] at hbad
        omega
      rw [diaF_is ht (has_of g2.1 g2.2)]
      simp only
      rw [decide_eq_true g3]
      by_cases cm : firstN ⟨d', c', bt, mn', md', cn', cd'⟩ ≤ m - 1
      · rw [diaF_is ht (has_of cm (by omega))]
        simp only
        rw [decide_eq_true (g4 cm)]
        exact ans_bool hk'
      · rw [diaF_bad ht (has_no (by omega))]
        exact ans_bool hk'
    · refine ⟨bs, bt, ⟨self, hl, self', hl'⟩, by decide, by decide, ?_⟩
      obtain ⟨w1, w2⟩ := wid_is hs ht hh
      refine ⟨fun hw => ⟨bt, ⟨self', hl'⟩, by decide, by decide, ?_⟩, fun hw => ?_⟩
      · obtain ⟨g1, g2⟩ := w1 hw
        rw [diaF_is ht (has_of hft.2 (Int.le_refl 139)), g1]
        simp only
        rw [decide_eq_true g2]
        exact ans_bool hk'
      obtain ⟨m, g1, g2, g3, g4⟩ := w2 hw
      rw [g1]
      have em : IntKind.i64.wrap (note - (note - m)) = m := by rw [IntWalk.i64_in _ (by omega)]; omega
      have em1 : IntKind.i64.wrap (m - 1) = m - 1 := IntWalk.i64_in _ (by omega)
      simp only [em, em1]
      refine ⟨fun hbad => ?_, fun _ => ⟨bt, ⟨self', hl'⟩, by decide, by decide, bt, ⟨self', hl'⟩, by decide, by decide, fun h1 h2 => by rw [h1, decide_eq_true h2]; rfl, ?_⟩⟩
      · exfalso
        simp only [Bool.or_eq_true, decide_eq_true_eq] at hbad
        omega
      rw [diaF_is ht (has_of g2.1 g2.2)]
      simp only
      rw [decide_eq_true g3]
      by_cases cm : firstN ⟨d', c', bt, mn', md', cn', cd'⟩ ≤ m - 1
      · rw [diaF_is ht (has_of cm (by omega))]
        simp only
        rw [decide_eq_true (g4 cm)]
        exact ans_bool hk'
      · rw [diaF_bad ht (has_no (by omega))]
        exact ans_bool hk'
end Go.Proofs.Ytmgfmkbniaepcaa
set_option linter.all false
namespace Go.Proofs.Ytmgfmkbniaepcaa
open Go Go.Vx Go.RowKit
set_option maxRecDepth 100000
theorem ownX1 : ownKnob Try.prog.godebug = none := by kernel_rfl
theorem laidX1 : laidOutB Try.prog = true := by kernel_rfl
theorem scalingFalls_lifted (os : Os) (started : os.Started) (H : Type) (enc : TypeId × Value → H) :
    ReturnsInHanded {} Try.checked os 4 .any (Rows.scalingFallsSpec.pre6 enc Try.prog Try.f4 Rows.scalingFallsRow.domain false) (Rows.scalingFallsSpec.post enc Try.prog Try.f4 false true false false) :=
  law_lifted (C := Try.checked) (tb := 4) ownX1 started (by kernel_rfl) Try.func4 laidX1
    (ChangeSpec.witness6 (enc := enc) (C := Try.checked) false ⟨#[], #[.agg #[.int .i64 0, .int .i64 0, .slice none 0 0, .int .i64 0, .int .i64 0, .int .i64 0, .int .i64 0], .agg #[.int .i64 0, .int .i64 0, .slice none 0 0, .int .i64 0, .int .i64 0, .int .i64 0, .int .i64 0], .int .i64 0], []⟩ 8 (by kernel_rfl) (by kernel_rfl) (by kernel_rfl) (by kernel_rfl))
    (by kernel_rfl) (by kernel_rfl) (by kernel_rfl) (by kernel_rfl) rfl (fun ds h => match ds, h with | [_, _, _], _ => ⟨rfl, rfl, rfl⟩) lawFalls
theorem scalingFalls_holds : Rows.ScalingFallsSaid :=
  OpenClaim.holds_of_wide 4 Try.f4 rfl rfl rfl rfl rfl rfl rfl ⟨rfl, rfl, rfl, rfl, rfl⟩ rfl rfl rfl rfl rfl (by kernel_rfl) Try.func4 (by kernel_rfl)
    (of_decide_eq_true (by kernel_rfl)) (by unfold Func.isWrapper; first | (rw [if_pos (by decide +kernel)]; kernel_rfl) | (rw [if_neg (by decide +kernel)]; exact ⟨rfl, rfl⟩))
    (fun os started H enc _ => scalingFalls_lifted os started H enc)
end Go.Proofs.Ytmgfmkbniaepcaa
