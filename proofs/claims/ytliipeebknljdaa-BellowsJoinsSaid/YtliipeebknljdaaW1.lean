/- Bellows: what is wrong with intervals, reservoirs and demands. -/
import Derived.Test.YtliipeebknljdaaS
import Derived.Test.YtliipeebknljdaaProg
set_option linter.all false
namespace Go.Proofs.Ytliipeebknljdaa
open Go Go.Vx
set_option maxRecDepth 100000
set_option maxHeartbeats 4000000

def v50 : VF := { ntmps := 9, res := [.tmp 2], body :=
 (.seq (.region [⟨(some 2), none, .mov, [.cn (.bool false)]⟩])
 (.seq (.region [⟨(some 3), none, .mov, [.tm 0]⟩,
  ⟨(some 4), none, (.cmp .geq), [.tm 3, .cn (.int .i64 (-4611686018427387904))]⟩,
  ⟨(some 5), none, .mov, [.tm 4]⟩,
  ⟨(some 6), (some (5, true)), .mov, [.tm 0]⟩,
  ⟨(some 7), (some (5, true)), (.cmp .leq), [.tm 6, .cn (.int .i64 4611686018427387904)]⟩,
  ⟨(some 8), none, .and, [.tm 5, .tm 7]⟩,
  ⟨(some 2), none, .mov, [.tm 8]⟩])
 .ret)) }
theorem v50_is : vfunc Try.prog Try.f50 = some v50 := by kernel_rfl
def v46 : VF := { ntmps := 36, res := [.tmp 2], body :=
 (.seq (.region [⟨(some 2), none, .mov, [.cn (.int .i64 0)]⟩])
 (.seq (.seq (.region [⟨(some 7), none, .mov, [.tm 0]⟩,
  ⟨(some 8), none, .len, [.tm 7]⟩,
  ⟨(some 9), none, .mov, [.cn (.int .i64 0)]⟩])
 (.block 0 (.loop (.seq (.region [⟨(some 10), none, (.cmp .lss), [.tm 9, .tm 8]⟩])
 (.seq (.cond (.tm 10) .skip
  (.exit 0))
 (.seq (.block 1 (.seq (.region [⟨(some 11), none, (.idxAddr 2), [.tm 7, .tm 9]⟩,
  ⟨(some 12), none, (.load true 2), [.tm 11]⟩,
  ⟨(some 4), none, (.alloc [(.int .i64 0), (.int .i64 0)]), []⟩,
  ⟨none, none, (.store 2), [.tm 4, .tm 12]⟩])
 (.seq (.region [⟨(some 13), none, (.fieldAddr 0), [.tm 4]⟩,
  ⟨(some 14), none, (.load false 1), [.tm 13]⟩,
  ⟨(some 15), none, (.call 50), [.tm 14]⟩,
  ⟨(some 16), none, .not, [.tm 15]⟩,
  ⟨(some 17), none, .mov, [.tm 16]⟩,
  ⟨(some 18), (some (17, false)), (.fieldAddr 1), [.tm 4]⟩,
  ⟨(some 19), (some (17, false)), (.load false 1), [.tm 18]⟩,
  ⟨(some 20), (some (17, false)), (.call 50), [.tm 19]⟩,
  ⟨(some 21), (some (17, false)), .not, [.tm 20]⟩,
  ⟨(some 22), none, .or, [.tm 17, .tm 21]⟩])
 (.cond (.tm 22) (.seq (.region [⟨(some 2), none, .mov, [.cn (.int .i64 7)]⟩])
 .ret)
  .skip))))
 (.region [⟨(some 23), none, (.ari .add), [.tm 9, .cn (.int .i64 1)]⟩,
  ⟨(some 9), none, .mov, [.tm 23]⟩])))))))
 (.seq (.seq (.region [⟨(some 24), none, .mov, [.tm 0]⟩,
  ⟨(some 25), none, .len, [.tm 24]⟩,
  ⟨(some 26), none, .mov, [.cn (.int .i64 0)]⟩])
 (.block 2 (.loop (.seq (.region [⟨(some 27), none, (.cmp .lss), [.tm 26, .tm 25]⟩])
 (.seq (.cond (.tm 27) .skip
  (.exit 2))
 (.seq (.block 3 (.seq (.region [⟨(some 28), none, (.idxAddr 2), [.tm 24, .tm 26]⟩,
  ⟨(some 29), none, (.load true 2), [.tm 28]⟩,
  ⟨(some 6), none, (.alloc [(.int .i64 0), (.int .i64 0)]), []⟩,
  ⟨none, none, (.store 2), [.tm 6, .tm 29]⟩])
 (.seq (.region [⟨(some 30), none, (.fieldAddr 0), [.tm 6]⟩,
  ⟨(some 31), none, (.load false 1), [.tm 30]⟩,
  ⟨(some 32), none, (.fieldAddr 1), [.tm 6]⟩,
  ⟨(some 33), none, (.load false 1), [.tm 32]⟩,
  ⟨(some 34), none, (.cmp .gtr), [.tm 31, .tm 33]⟩])
 (.cond (.tm 34) (.seq (.region [⟨(some 2), none, .mov, [.cn (.int .i64 2)]⟩])
 .ret)
  .skip))))
 (.region [⟨(some 35), none, (.ari .add), [.tm 26, .cn (.int .i64 1)]⟩,
  ⟨(some 26), none, .mov, [.tm 35]⟩])))))))
 (.seq (.region [⟨(some 2), none, .mov, [.cn (.int .i64 0)]⟩])
 .ret)))) }
theorem v46_is : vfunc Try.prog Try.f46 = some v46 := by kernel_rfl
def v47 : VF := { ntmps := 58, res := [.tmp 2], body :=
 (.seq (.region [⟨(some 2), none, .mov, [.cn (.int .i64 0)]⟩])
 (.seq (.seq (.region [⟨(some 3), none, .mov, [.cn (.int .i64 0)]⟩])
 (.block 0 (.loop (.seq (.seq (.region [⟨(some 5), none, .mov, [.tm 3]⟩,
  ⟨(some 6), none, .mov, [.tm 0]⟩,
  ⟨(some 7), none, .len, [.tm 6]⟩,
  ⟨(some 8), none, (.cmp .lss), [.tm 5, .tm 7]⟩])
 (.cond (.tm 8) .skip
  (.exit 0)))
 (.seq (.block 1 (.seq (.region [⟨(some 11), none, .mov, [.tm 0]⟩,
  ⟨(some 12), none, .mov, [.tm 3]⟩,
  ⟨(some 13), none, (.idxAddr 2), [.tm 11, .tm 12]⟩,
  ⟨(some 14), none, (.fieldAddr 0), [.tm 13]⟩,
  ⟨(some 15), none, (.load false 1), [.tm 14]⟩,
  ⟨(some 16), none, (.cmp .lss), [.tm 15, .cn (.int .i64 (-4611686018427387904))]⟩,
  ⟨(some 17), none, .mov, [.tm 16]⟩,
  ⟨(some 18), (some (17, false)), .mov, [.tm 0]⟩,
  ⟨(some 19), (some (17, false)), .mov, [.tm 3]⟩,
  ⟨(some 20), (some (17, false)), (.idxAddr 2), [.tm 18, .tm 19]⟩,
  ⟨(some 21), (some (17, false)), (.fieldAddr 0), [.tm 20]⟩,
  ⟨(some 22), (some (17, false)), (.load false 1), [.tm 21]⟩,
  ⟨(some 23), (some (17, false)), (.cmp .gtr), [.tm 22, .cn (.int .i64 4611686018427387904)]⟩,
  ⟨(some 24), none, .or, [.tm 17, .tm 23]⟩,
  ⟨(some 25), none, .mov, [.tm 24]⟩,
  ⟨(some 26), (some (25, false)), .mov, [.tm 0]⟩,
  ⟨(some 27), (some (25, false)), .mov, [.tm 3]⟩,
  ⟨(some 28), (some (25, false)), (.idxAddr 2), [.tm 26, .tm 27]⟩,
  ⟨(some 29), (some (25, false)), (.fieldAddr 1), [.tm 28]⟩,
  ⟨(some 30), (some (25, false)), (.load false 1), [.tm 29]⟩,
  ⟨(some 31), (some (25, false)), (.cmp .lss), [.tm 30, .cn (.int .i64 (-4611686018427387904))]⟩,
  ⟨(some 32), none, .or, [.tm 25, .tm 31]⟩,
  ⟨(some 33), none, .mov, [.tm 32]⟩,
  ⟨(some 34), (some (33, false)), .mov, [.tm 0]⟩,
  ⟨(some 35), (some (33, false)), .mov, [.tm 3]⟩,
  ⟨(some 36), (some (33, false)), (.idxAddr 2), [.tm 34, .tm 35]⟩,
  ⟨(some 37), (some (33, false)), (.fieldAddr 1), [.tm 36]⟩,
  ⟨(some 38), (some (33, false)), (.load false 1), [.tm 37]⟩,
  ⟨(some 39), (some (33, false)), (.cmp .gtr), [.tm 38, .cn (.int .i64 4611686018427387904)]⟩,
  ⟨(some 40), none, .or, [.tm 33, .tm 39]⟩])
 (.cond (.tm 40) (.seq (.region [⟨(some 2), none, .mov, [.cn (.int .i64 7)]⟩])
 .ret)
  .skip)))
 (.region [⟨(some 9), none, .mov, [.tm 3]⟩,
  ⟨(some 10), none, (.ari .add), [.tm 9, .cn (.int .i64 1)]⟩,
  ⟨(some 3), none, .mov, [.tm 10]⟩]))))))
 (.seq (.seq (.region [⟨(some 4), none, .mov, [.cn (.int .i64 0)]⟩])
 (.block 2 (.loop (.seq (.seq (.region [⟨(some 41), none, .mov, [.tm 4]⟩,
  ⟨(some 42), none, .mov, [.tm 0]⟩,
  ⟨(some 43), none, .len, [.tm 42]⟩,
  ⟨(some 44), none, (.cmp .lss), [.tm 41, .tm 43]⟩])
 (.cond (.tm 44) .skip
  (.exit 2)))
 (.seq (.block 3 (.seq (.draw [] [⟨⟨(some 47), none, .mov, [.tm 0]⟩, []⟩,
  ⟨⟨(some 48), none, .mov, [.tm 4]⟩, []⟩,
  ⟨⟨(some 49), none, (.idxAddr 2), [.tm 47, .tm 48]⟩, []⟩,
  ⟨⟨(some 50), none, (.fieldAddr 0), [.tm 49]⟩, []⟩,
  ⟨⟨(some 51), none, (.load false 1), [.tm 50]⟩, []⟩,
  ⟨⟨(some 52), none, .mov, [.tm 0]⟩, []⟩,
  ⟨⟨(some 53), none, .mov, [.tm 4]⟩, []⟩,
  ⟨⟨(some 54), none, (.idxAddr 2), [.tm 52, .tm 53]⟩, []⟩,
  ⟨⟨(some 55), none, (.fieldAddr 1), [.tm 54]⟩, []⟩,
  ⟨⟨(some 56), none, (.load false 1), [.tm 55]⟩, []⟩,
  ⟨⟨(some 57), none, (.cmp .gtr), [.tm 51, .tm 56]⟩, []⟩])
 (.cond (.tm 57) (.seq (.region [⟨(some 2), none, .mov, [.cn (.int .i64 2)]⟩])
 .ret)
  .skip)))
 (.region [⟨(some 45), none, .mov, [.tm 4]⟩,
  ⟨(some 46), none, (.ari .add), [.tm 45, .cn (.int .i64 1)]⟩,
  ⟨(some 4), none, .mov, [.tm 46]⟩]))))))
 (.seq (.region [⟨(some 2), none, .mov, [.cn (.int .i64 0)]⟩])
 .ret)))) }
theorem v47_is : vfunc Try.prog Try.f47 = some v47 := by kernel_rfl
def v34 : VF := { ntmps := 6, res := [.tmp 2], body :=
 (.seq (.region [⟨(some 1), none, .box, [.tm 0]⟩,
  ⟨(some 2), none, .mov, [.cn (.int .i64 0)]⟩])
 (.seq (.region [⟨(some 3), none, (.load true 2), [.tm 1]⟩,
  ⟨(some 4), none, (.buildSlice 2 1 [(.int .i64 0), (.int .i64 0)] [(0, 2)]), [.tm 3]⟩,
  ⟨(some 5), none, (.call 46), [.tm 4]⟩,
  ⟨(some 2), none, .mov, [.tm 5]⟩])
 .ret)) }
theorem v34_is : vfunc Try.prog Try.f34 = some v34 := by kernel_rfl
def v35 : VF := { ntmps := 6, res := [.tmp 2], body :=
 (.seq (.region [⟨(some 1), none, .box, [.tm 0]⟩,
  ⟨(some 2), none, .mov, [.cn (.int .i64 0)]⟩])
 (.seq (.region [⟨(some 3), none, (.load true 2), [.tm 1]⟩,
  ⟨(some 4), none, (.buildSlice 2 1 [(.int .i64 0), (.int .i64 0)] [(0, 2)]), [.tm 3]⟩,
  ⟨(some 5), none, (.call 47), [.tm 4]⟩,
  ⟨(some 2), none, .mov, [.tm 5]⟩])
 .ret)) }
theorem v35_is : vfunc Try.prog Try.f35 = some v35 := by kernel_rfl
def v41 : VF := { ntmps := 16, res := [.tmp 2], body :=
 (.seq (.region [⟨(some 1), none, .box, [.tm 0]⟩,
  ⟨(some 2), none, .mov, [.cn (.bool false)]⟩])
 (.seq (.region [⟨(some 3), none, (.load true 2), [.tm 1]⟩,
  ⟨(some 4), none, (.call 34), [.tm 3]⟩,
  ⟨(some 5), none, (.cmp .neq), [.tm 4, .cn (.int .i64 0)]⟩,
  ⟨(some 6), none, .mov, [.tm 5]⟩,
  ⟨(some 7), (some (6, false)), (.fieldAddr 0), [.tm 1]⟩,
  ⟨(some 8), (some (6, false)), (.load false 1), [.tm 7]⟩,
  ⟨(some 9), (some (6, false)), (.cmp .lss), [.tm 8, .cn (.int .i64 0)]⟩,
  ⟨(some 10), none, .or, [.tm 6, .tm 9]⟩,
  ⟨(some 11), none, .mov, [.tm 10]⟩,
  ⟨(some 12), (some (11, false)), (.fieldAddr 1), [.tm 1]⟩,
  ⟨(some 13), (some (11, false)), (.load false 1), [.tm 12]⟩,
  ⟨(some 14), (some (11, false)), (.cmp .gtr), [.tm 13, .cn (.int .i64 4000000000)]⟩,
  ⟨(some 15), none, .or, [.tm 11, .tm 14]⟩,
  ⟨(some 2), none, .mov, [.tm 15]⟩])
 .ret)) }
theorem v41_is : vfunc Try.prog Try.f41 = some v41 := by kernel_rfl
def v48 : VF := { ntmps := 19, res := [.tmp 4], body :=
 (.seq (.region [⟨(some 4), none, .mov, [.cn (.int .i64 0)]⟩])
 (.seq (.seq (.region [⟨(some 6), none, .mov, [.tm 0]⟩,
  ⟨(some 7), none, .len, [.tm 6]⟩,
  ⟨(some 8), none, .mov, [.cn (.int .i64 0)]⟩])
 (.block 0 (.loop (.seq (.region [⟨(some 9), none, (.cmp .lss), [.tm 8, .tm 7]⟩])
 (.seq (.cond (.tm 9) .skip
  (.exit 0))
 (.seq (.block 1 (.seq (.region [⟨(some 10), none, .mov, [.tm 8]⟩,
  ⟨(some 5), none, .mov, [.tm 10]⟩])
 (.seq (.region [⟨(some 11), none, .mov, [.tm 1]⟩,
  ⟨(some 12), none, .mov, [.tm 0]⟩,
  ⟨(some 13), none, .mov, [.tm 5]⟩,
  ⟨(some 14), none, (.idxAddr 2), [.tm 12, .tm 13]⟩,
  ⟨(some 15), none, (.load true 2), [.tm 14]⟩,
  ⟨(some 16), none, .callv, [.tm 11, .tm 15]⟩])
 (.cond (.tm 16) (.seq (.region [⟨(some 17), none, .mov, [.tm 5]⟩,
  ⟨(some 4), none, .mov, [.tm 17]⟩])
 .ret)
  .skip))))
 (.region [⟨(some 18), none, (.ari .add), [.tm 8, .cn (.int .i64 1)]⟩,
  ⟨(some 8), none, .mov, [.tm 18]⟩])))))))
 (.seq (.region [⟨(some 4), none, .mov, [.cn (.int .i64 (-1))]⟩])
 .ret))) }
theorem v48_is : vfunc Try.prog Try.f48 = some v48 := by kernel_rfl
def v42 : VF := { ntmps := 9, res := [.tmp 4], body :=
 (.seq (.region [⟨(some 4), none, .mov, [.cn (.bool false)]⟩])
 (.seq (.region [⟨(some 5), none, .mov, [.tm 0]⟩,
  ⟨(some 6), none, .mov, [.tm 1]⟩,
  ⟨(some 7), none, (.call 48), [.tm 5, .tm 6]⟩,
  ⟨(some 8), none, (.cmp .geq), [.tm 7, .cn (.int .i64 0)]⟩,
  ⟨(some 4), none, .mov, [.tm 8]⟩])
 .ret)) }
theorem v42_is : vfunc Try.prog Try.f42 = some v42 := by kernel_rfl
def v16 : VF := { ntmps := 54, res := [.tmp 2], body :=
 (.seq (.region [⟨(some 1), none, .box, [.tm 0]⟩,
  ⟨(some 2), none, .mov, [.cn (.int .i64 0)]⟩])
 (.seq (.block 0 (.seq (.region [⟨(some 4), none, (.fieldAddr 1), [.tm 1]⟩,
  ⟨(some 5), none, (.load false 1), [.tm 4]⟩,
  ⟨(some 6), none, (.cmp .lss), [.tm 5, .cn (.int .i64 0)]⟩,
  ⟨(some 7), none, .mov, [.tm 6]⟩,
  ⟨(some 8), (some (7, false)), (.fieldAddr 1), [.tm 1]⟩,
  ⟨(some 9), (some (7, false)), (.load false 1), [.tm 8]⟩,
  ⟨(some 10), (some (7, false)), (.fieldAddr 2), [.tm 1]⟩,
  ⟨(some 11), (some (7, false)), (.load false 1), [.tm 10]⟩,
  ⟨(some 12), (some (7, false)), (.cmp .geq), [.tm 9, .tm 11]⟩,
  ⟨(some 13), none, .or, [.tm 7, .tm 12]⟩,
  ⟨(some 14), none, .mov, [.tm 13]⟩,
  ⟨(some 15), (some (14, false)), (.fieldAddr 2), [.tm 1]⟩,
  ⟨(some 16), (some (14, false)), (.load false 1), [.tm 15]⟩,
  ⟨(some 17), (some (14, false)), (.cmp .gtr), [.tm 16, .cn (.int .i64 4000000000)]⟩,
  ⟨(some 18), none, .or, [.tm 14, .tm 17]⟩,
  ⟨(some 19), none, .mov, [.tm 18]⟩,
  ⟨(some 20), (some (19, false)), (.fieldAddr 0), [.tm 1]⟩,
  ⟨(some 21), (some (19, false)), (.load false 1), [.tm 20]⟩,
  ⟨(some 22), (some (19, false)), (.cmp .lss), [.tm 21, .cn (.int .i64 0)]⟩,
  ⟨(some 23), none, .or, [.tm 19, .tm 22]⟩,
  ⟨(some 24), none, .mov, [.tm 23]⟩,
  ⟨(some 25), (some (24, false)), (.fieldAddr 0), [.tm 1]⟩,
  ⟨(some 26), (some (24, false)), (.load false 1), [.tm 25]⟩,
  ⟨(some 27), (some (24, false)), (.fieldAddr 2), [.tm 1]⟩,
  ⟨(some 28), (some (24, false)), (.load false 1), [.tm 27]⟩,
  ⟨(some 29), (some (24, false)), (.cmp .gtr), [.tm 26, .tm 28]⟩,
  ⟨(some 30), none, .or, [.tm 24, .tm 29]⟩,
  ⟨(some 3), none, .mov, [.tm 30]⟩])
 (.cond (.tm 3) (.seq (.region [⟨(some 2), none, .mov, [.cn (.int .i64 2)]⟩])
 .ret)
  (.seq (.region [⟨(some 32), none, (.fieldAddr 3), [.tm 1]⟩,
  ⟨(some 33), none, (.load true 2), [.tm 32]⟩,
  ⟨(some 34), none, (.call 34), [.tm 33]⟩,
  ⟨(some 35), none, (.cmp .neq), [.tm 34, .cn (.int .i64 0)]⟩,
  ⟨(some 36), none, .mov, [.tm 35]⟩,
  ⟨(some 37), (some (36, false)), (.fieldAddr 3), [.tm 1]⟩,
  ⟨(some 38), (some (36, false)), (.fieldAddr 0), [.tm 37]⟩,
  ⟨(some 39), (some (36, false)), (.load false 1), [.tm 38]⟩,
  ⟨(some 40), (some (36, false)), (.cmp .lss), [.tm 39, .cn (.int .i64 0)]⟩,
  ⟨(some 41), none, .or, [.tm 36, .tm 40]⟩,
  ⟨(some 42), none, .mov, [.tm 41]⟩,
  ⟨(some 43), (some (42, false)), (.fieldAddr 3), [.tm 1]⟩,
  ⟨(some 44), (some (42, false)), (.fieldAddr 1), [.tm 43]⟩,
  ⟨(some 45), (some (42, false)), (.load false 1), [.tm 44]⟩,
  ⟨(some 46), (some (42, false)), (.fieldAddr 2), [.tm 1]⟩,
  ⟨(some 47), (some (42, false)), (.load false 1), [.tm 46]⟩,
  ⟨(some 48), (some (42, false)), (.fieldAddr 1), [.tm 1]⟩,
  ⟨(some 49), (some (42, false)), (.load false 1), [.tm 48]⟩,
  ⟨(some 50), (some (42, false)), (.ari .sub), [.tm 47, .tm 49]⟩,
  ⟨(some 51), (some (42, false)), .min, [.cn (.int .i64 1000000000), .tm 50]⟩,
  ⟨(some 52), (some (42, false)), (.cmp .gtr), [.tm 45, .tm 51]⟩,
  ⟨(some 53), none, .or, [.tm 42, .tm 52]⟩,
  ⟨(some 31), none, .mov, [.tm 53]⟩])
 (.cond (.tm 31) (.seq (.region [⟨(some 2), none, .mov, [.cn (.int .i64 2)]⟩])
 .ret)
  .skip)))))
 (.seq (.region [⟨(some 2), none, .mov, [.cn (.int .i64 0)]⟩])
 .ret))) }
theorem v16_is : vfunc Try.prog Try.f16 = some v16 := by kernel_rfl
def v17 : VF := { ntmps := 57, res := [.tmp 2], body :=
 (.seq (.region [⟨(some 1), none, .box, [.tm 0]⟩,
  ⟨(some 2), none, .mov, [.cn (.int .i64 0)]⟩])
 (.seq (.seq (.region [⟨(some 3), none, (.fieldAddr 1), [.tm 1]⟩,
  ⟨(some 4), none, (.load false 1), [.tm 3]⟩,
  ⟨(some 5), none, (.cmp .lss), [.tm 4, .cn (.int .i64 0)]⟩,
  ⟨(some 6), none, .mov, [.tm 5]⟩,
  ⟨(some 7), (some (6, false)), (.fieldAddr 1), [.tm 1]⟩,
  ⟨(some 8), (some (6, false)), (.load false 1), [.tm 7]⟩,
  ⟨(some 9), (some (6, false)), (.fieldAddr 2), [.tm 1]⟩,
  ⟨(some 10), (some (6, false)), (.load false 1), [.tm 9]⟩,
  ⟨(some 11), (some (6, false)), (.cmp .geq), [.tm 8, .tm 10]⟩,
  ⟨(some 12), none, .or, [.tm 6, .tm 11]⟩,
  ⟨(some 13), none, .mov, [.tm 12]⟩,
  ⟨(some 14), (some (13, false)), (.fieldAddr 2), [.tm 1]⟩,
  ⟨(some 15), (some (13, false)), (.load false 1), [.tm 14]⟩,
  ⟨(some 16), (some (13, false)), (.cmp .gtr), [.tm 15, .cn (.int .i64 4000000000)]⟩,
  ⟨(some 17), none, .or, [.tm 13, .tm 16]⟩,
  ⟨(some 18), none, .mov, [.tm 17]⟩,
  ⟨(some 19), (some (18, false)), (.fieldAddr 0), [.tm 1]⟩,
  ⟨(some 20), (some (18, false)), (.load false 1), [.tm 19]⟩,
  ⟨(some 21), (some (18, false)), (.cmp .lss), [.tm 20, .cn (.int .i64 0)]⟩,
  ⟨(some 22), none, .or, [.tm 18, .tm 21]⟩,
  ⟨(some 23), none, .mov, [.tm 22]⟩,
  ⟨(some 24), (some (23, false)), (.fieldAddr 0), [.tm 1]⟩,
  ⟨(some 25), (some (23, false)), (.load false 1), [.tm 24]⟩,
  ⟨(some 26), (some (23, false)), (.fieldAddr 2), [.tm 1]⟩,
  ⟨(some 27), (some (23, false)), (.load false 1), [.tm 26]⟩,
  ⟨(some 28), (some (23, false)), (.cmp .gtr), [.tm 25, .tm 27]⟩,
  ⟨(some 29), none, .or, [.tm 23, .tm 28]⟩])
 (.cond (.tm 29) (.seq (.region [⟨(some 2), none, .mov, [.cn (.int .i64 2)]⟩])
 .ret)
  .skip))
 (.seq (.seq (.region [⟨(some 30), none, (.fieldAddr 3), [.tm 1]⟩,
  ⟨(some 31), none, (.load true 2), [.tm 30]⟩,
  ⟨(some 32), none, (.call 35), [.tm 31]⟩,
  ⟨(some 33), none, (.cmp .neq), [.tm 32, .cn (.int .i64 0)]⟩,
  ⟨(some 34), none, .mov, [.tm 33]⟩,
  ⟨(some 35), (some (34, false)), (.fieldAddr 3), [.tm 1]⟩,
  ⟨(some 36), (some (34, false)), (.fieldAddr 0), [.tm 35]⟩,
  ⟨(some 37), (some (34, false)), (.load false 1), [.tm 36]⟩,
  ⟨(some 38), (some (34, false)), (.cmp .lss), [.tm 37, .cn (.int .i64 0)]⟩,
  ⟨(some 39), none, .or, [.tm 34, .tm 38]⟩,
  ⟨(some 40), none, .mov, [.tm 39]⟩,
  ⟨(some 41), (some (40, false)), (.fieldAddr 3), [.tm 1]⟩,
  ⟨(some 42), (some (40, false)), (.fieldAddr 1), [.tm 41]⟩,
  ⟨(some 43), (some (40, false)), (.load false 1), [.tm 42]⟩,
  ⟨(some 44), (some (40, false)), (.cmp .gtr), [.tm 43, .cn (.int .i64 1000000000)]⟩,
  ⟨(some 45), none, .or, [.tm 40, .tm 44]⟩,
  ⟨(some 46), none, .mov, [.tm 45]⟩,
  ⟨(some 47), (some (46, false)), (.fieldAddr 3), [.tm 1]⟩,
  ⟨(some 48), (some (46, false)), (.fieldAddr 1), [.tm 47]⟩,
  ⟨(some 49), (some (46, false)), (.load false 1), [.tm 48]⟩,
  ⟨(some 50), (some (46, false)), (.fieldAddr 2), [.tm 1]⟩,
  ⟨(some 51), (some (46, false)), (.load false 1), [.tm 50]⟩,
  ⟨(some 52), (some (46, false)), (.fieldAddr 1), [.tm 1]⟩,
  ⟨(some 53), (some (46, false)), (.load false 1), [.tm 52]⟩,
  ⟨(some 54), (some (46, false)), (.ari .sub), [.tm 51, .tm 53]⟩,
  ⟨(some 55), (some (46, false)), (.cmp .gtr), [.tm 49, .tm 54]⟩,
  ⟨(some 56), none, .or, [.tm 46, .tm 55]⟩])
 (.cond (.tm 56) (.seq (.region [⟨(some 2), none, .mov, [.cn (.int .i64 2)]⟩])
 .ret)
  .skip))
 (.seq (.region [⟨(some 2), none, .mov, [.cn (.int .i64 0)]⟩])
 .ret)))) }
theorem v17_is : vfunc Try.prog Try.f17 = some v17 := by kernel_rfl


def numC : Ctr := { alias := false, of := fun l => match l with | [.int .i64 n] => .fin (.bool (numOk n)) [] | _ => noC }
def ivlC : Ctr := { alias := false, of := fun a => match a with
  | [.vs _ _ n sz get] => .ex (List Iv) fun l => .pre (lsP 2 enc2 n sz get l ∧ l.length ≤ 9223372036854775807) (.fin (.int .i64 (ivE l)) [])
  | _ => noC }
def iv1C : Ctr := { alias := false, of := fun a => match a with | [.agg [.int .i64 x, .int .i64 y]] => .fin (.int .i64 (ivE [(x, y)])) [] | _ => noC }
def wrC : Ctr := { alias := false, of := fun a => match a with | [.agg [.int .i64 x, .int .i64 y]] => .fin (.bool (wrongF (x, y))) [] | _ => noC }

def E0 : Env := { ct := fun _ => none, fn := fun _ => none, meth := fun _ _ => none }
theorem E0_ok : EnvOk Try.prog E0 := by
  refine ⟨fun f c h => ?_, fun f vf h => ?_, fun _ _ => rfl, by kernel_rfl⟩
  · cases h
  · cases h

theorem num50 : numC.ok Try.prog 50 := by
  refine contract Try.func50 v50_is E0_ok 100 numC fun args k h => ⟨args, ?_⟩
  simp only [numC] at h
  split at h
  · refine ⟨by simp [leL, le], ?_⟩
    dsimp only [E0, v50, r_end, r_end1, r_nil, r_op, r_opg, r_runOp, r_op0, r_yld0, r_yld1, r_y, r_rbeg, r_rend, r_rend1, r_rfrm, r_rfrm1, r_range, r_rangeK, r_rangeE, r_draw, r_dnil, r_dop, r_dopg, r_dplq, r_dplh, r_dq, r_dq0, r_dcl1, r_dcl0, r_dct1, r_dct0, r_dgd, r_dgq1, r_dgq0, r_dctG, r_op1, r_eff, r_eff0, r_call, r_call0, r_inl, r_g, r_gq, r_gc, r_effg, r_effg0, r_callg, r_callg0, r_fin, r_pre, r_imp, r_all, r_ex, r_fing, r_preg, r_exg, r_inBlock, r_inLoop, r_frame, r_frame1, r_skip, r_region, r_seq, r_cond, r_cond1, r_block, r_exit, r_exit1, r_exit2, r_ret, r_loop, s_args0, s_args1, s_xt, s_xc, padL, blankL, callee, callArgs, eff, ctOf, getL, setL, S.put, S.upd, unopts, unopt, unoptsO, unoptsB, lazyO, guardOf, gbool, eMov, eNot, eNeg, eConv, eExt, eLenArr, eLen, eLenStr, eEqb, eEqv, allEq, eNil, negIf, eBool2, eCmp, eAri, ari, eBit, eDiv, eSh, eMinMax, foldMin, foldMax, kEq, pure1, cmpB, VO.quiet, resVals, resVal, tupled, popRet, popTo, cond, Option.bind, Option.map, eNew, eBox, asCells, lenH, snocH, eFieldAddr, eField, eLoad, cellsAt, getH, setH, dropL, takeL, mkAgg, lenL, lenS, shift, shiftL, shiftH, viewN, viewL, view, andT, junks, List.append_nil, Nat.beq, eIdxAddr, eIdxArr, eIndex, eStore, storeAt, spliceL, ones, one, eSlice, eSliceArr, bounds, subLo, addLo, eMake, eAppend, readS, repL, buildCells, chunk, purgeL, purgeLL, purgeH, purge, refs, refsL, List.cons_append, List.nil_append, wrOps, wrAl, wrDops, wrC, junkAt, putAll, putHs, headOf, headK, keepG, List.append_eq, headX, chkP, apartP, apartB, blk, strip, runAl, yld, putPs, lenN, findR, notRound, jumpK, jumpPT, jcode, List.map_cons, List.map_nil, ite_self, reduceIte]
    simp only [true_and, and_true, imp_self, implies_true, decide_eq_true_eq, decide_eq_false_iff_not, Nat.reduceAdd, Nat.reduceLeDiff, Bool.not_not, reduceCtorEq, false_imp_iff, Bool.not_eq_true', Bool.not_eq_false', Bool.false_eq_true, and_self, forall_const, ne_eq, not_false_eq_true, Nat.reduceEqDiff]
    exact ans_bool h
  · exact h.1.elim

def E1 : Env := { ct := fun n => match n with | 50 => some numC | _ => none, fn := fun _ => none, meth := fun _ _ => none }
theorem E1_ct50 : E1.ct 50 = some numC := rfl
theorem E1_ok : EnvOk Try.prog E1 := by
  refine ⟨fun f c h => ?_, fun f vf h => ?_, fun _ _ => rfl, by kernel_rfl⟩
  · simp only [E1] at h
    split at h
    · cases h; exact ⟨num50, Try.f50, Try.func50, by kernel_rfl, by kernel_rfl⟩
    · cases h
  · cases h


theorem ivE_bad {l : List Iv} {i : Nat} (h : i < l.length) (hb : (numOk (l.getD i default).1 && numOk (l.getD i default).2) = false) : ivE l = 7 := by
  rw [ivE, if_neg]
  intro hall
  have := List.all_eq_true.1 hall _ (getD_mem h)
  rw [hb] at this; cases this
theorem ivE_2 {l : List Iv} (ha : ∀ j, j < l.length → (numOk (l.getD j default).1 && numOk (l.getD j default).2) = true) {i : Nat} (h : i < l.length) (hb : (l.getD i default).2 < (l.getD i default).1) : ivE l = 2 := by
  rw [ivE, if_pos, if_neg]
  · intro hall
    have := List.all_eq_true.1 hall _ (getD_mem h)
    simp only [decide_eq_true_eq] at this; omega
  · refine List.all_eq_true.2 fun x hx => ?_
    obtain ⟨j, hj, rfl⟩ := mem_getD hx
    exact ha j hj
theorem ivE_0 {l : List Iv} (ha : ∀ j, j < l.length → (numOk (l.getD j default).1 && numOk (l.getD j default).2) = true) (hb : ∀ j, j < l.length → (l.getD j default).1 ≤ (l.getD j default).2) : ivE l = 0 := by
  rw [ivE, if_pos, if_pos]
  · refine List.all_eq_true.2 fun x hx => ?_
    obtain ⟨j, hj, rfl⟩ := mem_getD hx
    simpa using hb j hj
  · refine List.all_eq_true.2 fun x hx => ?_
    obtain ⟨j, hj, rfl⟩ := mem_getD hx
    exact ha j hj

theorem num_or {a b : Int} : (decide (a < -4611686018427387904) || decide (4611686018427387904 < a) || decide (b < -4611686018427387904) || decide (4611686018427387904 < b)) = !(numOk a && numOk b) := by
  rw [Bool.eq_iff_iff]
  simp only [numOk, Bool.or_eq_true, decide_eq_true_eq, Bool.not_eq_true', Bool.and_eq_false_iff, decide_eq_false_iff_not]
  omega
theorem bel_a {st lo hi il ih : Int} (h : (decide (lo < 0) || decide (hi ≤ lo) || decide (4000000000 < hi) || decide (st < 0) || decide (hi < st)) = true) : belE ⟨st, lo, hi, il, ih⟩ = 2 := by
  rw [belE, if_neg]
  simp only [Bool.or_eq_true, decide_eq_true_eq] at h
  simp only [belOk, Bool.and_eq_true, decide_eq_true_eq]
  omega

theorem bel_b {st lo hi il ih : Int} (h : (decide (lo < 0) || decide (hi ≤ lo) || decide (4000000000 < hi) || decide (st < 0) || decide (hi < st)) = false) :
    IntKind.i64.wrap (hi - lo) = hi - lo ∧ belE ⟨st, lo, hi, il, ih⟩ = if (decide (ivE [(il, ih)] = 0) && decide (0 ≤ il) && decide (ih ≤ 1000000000) && decide (ih ≤ hi - lo)) = true then 0 else 2 := by
  simp only [Bool.or_eq_false_iff, decide_eq_false_iff_not] at h
  refine ⟨w6_raw (by omega) (by omega), ?_⟩
  have : belOk ⟨st, lo, hi, il, ih⟩ = (decide (ivE [(il, ih)] = 0) && decide (0 ≤ il) && decide (ih ≤ 1000000000) && decide (ih ≤ hi - lo)) := by
    rw [belOk, show (decide (0 ≤ lo) && decide (lo < hi) && decide (hi ≤ 4000000000) && decide (0 ≤ st) && decide (st ≤ hi)) = true by simp only [Bool.and_eq_true, decide_eq_true_eq]; omega, Bool.true_and]
  rw [belE, this]

theorem ivl46 : ivlC.ok Try.prog 46 := by
  refine contract Try.func46 v46_is E1_ok 400 ivlC fun args k h => ?_
  simp only [ivlC] at h
  split at h
  · rename_i tt z n sz get
    obtain ⟨l, ⟨⟨rfl, rfl, hg⟩, hmax⟩, h⟩ := h
    refine ⟨[.vs tt z l.length 2 (fun k => enc2 (l.getD k default))], by simpa [leL, le] using hg, ?_⟩
    dsimp only [v46, enc2, r_end, r_end1, r_nil, r_op, r_opg, r_runOp, r_op0, r_yld0, r_yld1, r_y, r_rbeg, r_rend, r_rend1, r_rfrm, r_rfrm1, r_range, r_rangeK, r_rangeE, r_draw, r_dnil, r_dop, r_dopg, r_dplq, r_dplh, r_dq, r_dq0, r_dcl1, r_dcl0, r_dct1, r_dct0, r_dgd, r_dgq1, r_dgq0, r_dctG, r_op1, r_eff, r_eff0, r_call, r_call0, r_inl, r_g, r_gq, r_gc, r_effg, r_effg0, r_callg, r_callg0, r_fin, r_pre, r_imp, r_all, r_ex, r_fing, r_preg, r_exg, r_inBlock, r_inLoop, r_frame, r_frame1, r_skip, r_region, r_seq, r_cond, r_cond1, r_block, r_exit, r_exit1, r_exit2, r_ret, r_loop, s_args0, s_args1, s_xt, s_xc, padL, blankL, callee, callArgs, eff, ctOf, getL, setL, S.put, S.upd, unopts, unopt, unoptsO, unoptsB, lazyO, guardOf, gbool, eMov, eNot, eNeg, eConv, eExt, eLenArr, eLen, eLenStr, eEqb, eEqv, allEq, eNil, negIf, eBool2, eCmp, eAri, ari, eBit, eDiv, eSh, eMinMax, foldMin, foldMax, kEq, pure1, cmpB, VO.quiet, resVals, resVal, tupled, popRet, popTo, cond, Option.bind, Option.map, eNew, eBox, asCells, lenH, snocH, eFieldAddr, eField, eLoad, cellsAt, getH, setH, dropL, takeL, mkAgg, lenL, lenS, shift, shiftL, shiftH, viewN, viewL, view, andT, junks, List.append_nil, Nat.beq, eIdxAddr, eIdxArr, eIndex, eStore, storeAt, spliceL, ones, one, eSlice, eSliceArr, bounds, subLo, addLo, eMake, eAppend, readS, repL, buildCells, chunk, purgeL, purgeLL, purgeH, purge, refs, refsL, List.cons_append, List.nil_append, wrOps, wrAl, wrDops, wrC, junkAt, putAll, putHs, headOf, headK, keepG, List.append_eq, headX, chkP, apartP, apartB, blk, strip, runAl, yld, putPs, lenN, findR, notRound, jumpK, jumpPT, jcode, List.map_cons, List.map_nil, ite_self, reduceIte]
    simp only [true_and, and_true, imp_self, implies_true, decide_eq_true_eq, decide_eq_false_iff_not, Nat.reduceAdd, Nat.reduceLeDiff, Bool.not_not, reduceCtorEq, false_imp_iff, Bool.not_eq_true', Bool.not_eq_false', Bool.false_eq_true, and_self, forall_const, ne_eq, not_false_eq_true, Nat.reduceEqDiff]
    refine Loop.keep [0, 6, 0, 0] Nat (fun i => [(9, .int .i64 i)]) (fun _ => []) [] (fun i => i ≤ l.length ∧ ∀ j, j < i → (numOk (l.getD j default).1 && numOk (l.getD j default).2) = true) (fun i => l.length - i) ?_ ?_
    · refine ⟨0, ⟨Nat.zero_le _, fun j h => by omega⟩, ?_⟩
      dsimp only [r_end, r_end1, r_nil, r_op, r_opg, r_runOp, r_op0, r_yld0, r_yld1, r_y, r_rbeg, r_rend, r_rend1, r_rfrm, r_rfrm1, r_range, r_rangeK, r_rangeE, r_draw, r_dnil, r_dop, r_dopg, r_dplq, r_dplh, r_dq, r_dq0, r_dcl1, r_dcl0, r_dct1, r_dct0, r_dgd, r_dgq1, r_dgq0, r_dctG, r_op1, r_eff, r_eff0, r_call, r_call0, r_inl, r_g, r_gq, r_gc, r_effg, r_effg0, r_callg, r_callg0, r_fin, r_pre, r_imp, r_all, r_ex, r_fing, r_preg, r_exg, r_inBlock, r_inLoop, r_frame, r_frame1, r_skip, r_region, r_seq, r_cond, r_cond1, r_block, r_exit, r_exit1, r_exit2, r_ret, r_loop, s_args0, s_args1, s_xt, s_xc, padL, blankL, callee, callArgs, eff, ctOf, getL, setL, S.put, S.upd, unopts, unopt, unoptsO, unoptsB, lazyO, guardOf, gbool, eMov, eNot, eNeg, eConv, eExt, eLenArr, eLen, eLenStr, eEqb, eEqv, allEq, eNil, negIf, eBool2, eCmp, eAri, ari, eBit, eDiv, eSh, eMinMax, foldMin, foldMax, kEq, pure1, cmpB, VO.quiet, resVals, resVal, tupled, popRet, popTo, cond, Option.bind, Option.map, eNew, eBox, asCells, lenH, snocH, eFieldAddr, eField, eLoad, cellsAt, getH, setH, dropL, takeL, mkAgg, lenL, lenS, shift, shiftL, shiftH, viewN, viewL, view, andT, junks, List.append_nil, Nat.beq, eIdxAddr, eIdxArr, eIndex, eStore, storeAt, spliceL, ones, one, eSlice, eSliceArr, bounds, subLo, addLo, eMake, eAppend, readS, repL, buildCells, chunk, purgeL, purgeLL, purgeH, purge, refs, refsL, List.cons_append, List.nil_append, wrOps, wrAl, wrDops, wrC, junkAt, putAll, putHs, headOf, headK, keepG, List.append_eq, headX, chkP, apartP, apartB, blk, strip, runAl, yld, putPs, lenN, findR, notRound, jumpK, jumpPT, jcode, List.map_cons, List.map_nil, ite_self, reduceIte]
      simp only [leS_mk, leL_cons, leL_nil, le_junk, le_int, le_bool, le_nil, leLL_nil, leLL_cons, leH_cons, leH_nil, leH1_box, leH1_own, leH1_gone, le_vs, le_agg, le_tup, le_ptr, le_own, le_xp, le_fn, le_opt, le_val, le_elem, le_nil_own, le_nil_vs, leH_ghost, leL_chunk, leXL_id, bnd_int, bnd_bool, bnd_val, bnd_nil, bnd_junk, bnd_vs, bnd_xp, bnd_agg, bnd_tup, bnd_ptr, bnd_own, bnd_elem, bnd_fn, bnd_iface, bnd_opt, bndL_nil, bndL_cons, lenH_cons, lenH_nil, imp_self, implies_true, true_and, and_true]
      simp
    · rintro i ⟨hi, ha⟩
      dsimp only [E1_ct50, numC, enc2, Int.toNat_natCast, r_end, r_end1, r_nil, r_op, r_opg, r_runOp, r_op0, r_yld0, r_yld1, r_y, r_rbeg, r_rend, r_rend1, r_rfrm, r_rfrm1, r_range, r_rangeK, r_rangeE, r_draw, r_dnil, r_dop, r_dopg, r_dplq, r_dplh, r_dq, r_dq0, r_dcl1, r_dcl0, r_dct1, r_dct0, r_dgd, r_dgq1, r_dgq0, r_dctG, r_op1, r_eff, r_eff0, r_call, r_call0, r_inl, r_g, r_gq, r_gc, r_effg, r_effg0, r_callg, r_callg0, r_fin, r_pre, r_imp, r_all, r_ex, r_fing, r_preg, r_exg, r_inBlock, r_inLoop, r_frame, r_frame1, r_skip, r_region, r_seq, r_cond, r_cond1, r_block, r_exit, r_exit1, r_exit2, r_ret, r_loop, s_args0, s_args1, s_xt, s_xc, padL, blankL, callee, callArgs, eff, ctOf, getL, setL, S.put, S.upd, unopts, unopt, unoptsO, unoptsB, lazyO, guardOf, gbool, eMov, eNot, eNeg, eConv, eExt, eLenArr, eLen, eLenStr, eEqb, eEqv, allEq, eNil, negIf, eBool2, eCmp, eAri, ari, eBit, eDiv, eSh, eMinMax, foldMin, foldMax, kEq, pure1, cmpB, VO.quiet, resVals, resVal, tupled, popRet, popTo, cond, Option.bind, Option.map, eNew, eBox, asCells, lenH, snocH, eFieldAddr, eField, eLoad, cellsAt, getH, setH, dropL, takeL, mkAgg, lenL, lenS, shift, shiftL, shiftH, viewN, viewL, view, andT, junks, List.append_nil, Nat.beq, eIdxAddr, eIdxArr, eIndex, eStore, storeAt, spliceL, ones, one, eSlice, eSliceArr, bounds, subLo, addLo, eMake, eAppend, readS, repL, buildCells, chunk, purgeL, purgeLL, purgeH, purge, refs, refsL, List.cons_append, List.nil_append, wrOps, wrAl, wrDops, wrC, junkAt, putAll, putHs, headOf, headK, keepG, List.append_eq, headX, chkP, apartP, apartB, blk, strip, runAl, yld, putPs, lenN, findR, notRound, jumpK, jumpPT, jcode, List.map_cons, List.map_nil, ite_self, reduceIte]
      simp only [true_and, and_true, imp_self, implies_true, decide_eq_true_eq, decide_eq_false_iff_not, Nat.reduceAdd, Nat.reduceLeDiff, Bool.not_not, reduceCtorEq, false_imp_iff, Bool.not_eq_true', Bool.not_eq_false', Bool.false_eq_true, and_self, forall_const, ne_eq, not_false_eq_true, Nat.reduceEqDiff]
      refine ⟨fun hlt => ⟨⟨by omega, hlt⟩, fun hb => ans_int ?_, fun hb => ?_⟩, fun hge => ?_⟩
      · have e := ivE_bad (l := l) (i := i) (by omega) (by rw [← Bool.not_and, Bool.not_eq_true'] at hb; exact hb)
        rw [e] at h; exact h
      · rw [← Bool.not_and] at hb
        refine ⟨i + 1, ⟨by omega, fun j hj => ?_⟩, by omega, ?_⟩
        · rcases Nat.lt_or_ge j i with h' | h'
          · exact ha j h'
          · obtain rfl : j = i := by omega
            simpa using hb
        · have hw := w_succ (i := i) (n := l.length) (by omega) (by omega)
          simp only [hw, leS_mk, leL_cons, leL_nil, le_junk, le_int, le_bool, le_nil, leLL_nil, leLL_cons, leH_cons, leH_nil, leH1_box, leH1_own, leH1_gone, le_vs, le_agg, le_tup, le_ptr, le_own, le_xp, le_fn, le_opt, le_val, le_elem, le_nil_own, le_nil_vs, leH_ghost, leL_chunk, leXL_id, bnd_int, bnd_bool, bnd_val, bnd_nil, bnd_junk, bnd_vs, bnd_xp, bnd_agg, bnd_tup, bnd_ptr, bnd_own, bnd_elem, bnd_fn, bnd_iface, bnd_opt, bndL_nil, bndL_cons, lenH_cons, lenH_nil, imp_self, implies_true, true_and, and_true] <;> simp
      · obtain rfl : i = l.length := by omega
        refine Loop.keep [0, 23, 0, 0] Nat (fun i => [(26, .int .i64 i)]) (fun _ => []) [] (fun i => i ≤ l.length ∧ ∀ j, j < i → (l.getD j default).1 ≤ (l.getD j default).2) (fun i => l.length - i) ?_ ?_
        · refine ⟨0, ⟨Nat.zero_le _, fun j h => by omega⟩, ?_⟩
          dsimp only [r_end, r_end1, r_nil, r_op, r_opg, r_runOp, r_op0, r_yld0, r_yld1, r_y, r_rbeg, r_rend, r_rend1, r_rfrm, r_rfrm1, r_range, r_rangeK, r_rangeE, r_draw, r_dnil, r_dop, r_dopg, r_dplq, r_dplh, r_dq, r_dq0, r_dcl1, r_dcl0, r_dct1, r_dct0, r_dgd, r_dgq1, r_dgq0, r_dctG, r_op1, r_eff, r_eff0, r_call, r_call0, r_inl, r_g, r_gq, r_gc, r_effg, r_effg0, r_callg, r_callg0, r_fin, r_pre, r_imp, r_all, r_ex, r_fing, r_preg, r_exg, r_inBlock, r_inLoop, r_frame, r_frame1, r_skip, r_region, r_seq, r_cond, r_cond1, r_block, r_exit, r_exit1, r_exit2, r_ret, r_loop, s_args0, s_args1, s_xt, s_xc, padL, blankL, callee, callArgs, eff, ctOf, getL, setL, S.put, S.upd, unopts, unopt, unoptsO, unoptsB, lazyO, guardOf, gbool, eMov, eNot, eNeg, eConv, eExt, eLenArr, eLen, eLenStr, eEqb, eEqv, allEq, eNil, negIf, eBool2, eCmp, eAri, ari, eBit, eDiv, eSh, eMinMax, foldMin, foldMax, kEq, pure1, cmpB, VO.quiet, resVals, resVal, tupled, popRet, popTo, cond, Option.bind, Option.map, eNew, eBox, asCells, lenH, snocH, eFieldAddr, eField, eLoad, cellsAt, getH, setH, dropL, takeL, mkAgg, lenL, lenS, shift, shiftL, shiftH, viewN, viewL, view, andT, junks, List.append_nil, Nat.beq, eIdxAddr, eIdxArr, eIndex, eStore, storeAt, spliceL, ones, one, eSlice, eSliceArr, bounds, subLo, addLo, eMake, eAppend, readS, repL, buildCells, chunk, purgeL, purgeLL, purgeH, purge, refs, refsL, List.cons_append, List.nil_append, wrOps, wrAl, wrDops, wrC, junkAt, putAll, putHs, headOf, headK, keepG, List.append_eq, headX, chkP, apartP, apartB, blk, strip, runAl, yld, putPs, lenN, findR, notRound, jumpK, jumpPT, jcode, List.map_cons, List.map_nil, ite_self, reduceIte]
          simp only [leS_mk, leL_cons, leL_nil, le_junk, le_int, le_bool, le_nil, leLL_nil, leLL_cons, leH_cons, leH_nil, leH1_box, leH1_own, leH1_gone, le_vs, le_agg, le_tup, le_ptr, le_own, le_xp, le_fn, le_opt, le_val, le_elem, le_nil_own, le_nil_vs, leH_ghost, leL_chunk, leXL_id, bnd_int, bnd_bool, bnd_val, bnd_nil, bnd_junk, bnd_vs, bnd_xp, bnd_agg, bnd_tup, bnd_ptr, bnd_own, bnd_elem, bnd_fn, bnd_iface, bnd_opt, bndL_nil, bndL_cons, lenH_cons, lenH_nil, imp_self, implies_true, true_and, and_true]
          simp
        · rintro i ⟨hi, hc⟩
          dsimp only [E1_ct50, numC, enc2, Int.toNat_natCast, r_end, r_end1, r_nil, r_op, r_opg, r_runOp, r_op0, r_yld0, r_yld1, r_y, r_rbeg, r_rend, r_rend1, r_rfrm, r_rfrm1, r_range, r_rangeK, r_rangeE, r_draw, r_dnil, r_dop, r_dopg, r_dplq, r_dplh, r_dq, r_dq0, r_dcl1, r_dcl0, r_dct1, r_dct0, r_dgd, r_dgq1, r_dgq0, r_dctG, r_op1, r_eff, r_eff0, r_call, r_call0, r_inl, r_g, r_gq, r_gc, r_effg, r_effg0, r_callg, r_callg0, r_fin, r_pre, r_imp, r_all, r_ex, r_fing, r_preg, r_exg, r_inBlock, r_inLoop, r_frame, r_frame1, r_skip, r_region, r_seq, r_cond, r_cond1, r_block, r_exit, r_exit1, r_exit2, r_ret, r_loop, s_args0, s_args1, s_xt, s_xc, padL, blankL, callee, callArgs, eff, ctOf, getL, setL, S.put, S.upd, unopts, unopt, unoptsO, unoptsB, lazyO, guardOf, gbool, eMov, eNot, eNeg, eConv, eExt, eLenArr, eLen, eLenStr, eEqb, eEqv, allEq, eNil, negIf, eBool2, eCmp, eAri, ari, eBit, eDiv, eSh, eMinMax, foldMin, foldMax, kEq, pure1, cmpB, VO.quiet, resVals, resVal, tupled, popRet, popTo, cond, Option.bind, Option.map, eNew, eBox, asCells, lenH, snocH, eFieldAddr, eField, eLoad, cellsAt, getH, setH, dropL, takeL, mkAgg, lenL, lenS, shift, shiftL, shiftH, viewN, viewL, view, andT, junks, List.append_nil, Nat.beq, eIdxAddr, eIdxArr, eIndex, eStore, storeAt, spliceL, ones, one, eSlice, eSliceArr, bounds, subLo, addLo, eMake, eAppend, readS, repL, buildCells, chunk, purgeL, purgeLL, purgeH, purge, refs, refsL, List.cons_append, List.nil_append, wrOps, wrAl, wrDops, wrC, junkAt, putAll, putHs, headOf, headK, keepG, List.append_eq, headX, chkP, apartP, apartB, blk, strip, runAl, yld, putPs, lenN, findR, notRound, jumpK, jumpPT, jcode, List.map_cons, List.map_nil, ite_self, reduceIte]
          simp only [true_and, and_true, imp_self, implies_true, decide_eq_true_eq, decide_eq_false_iff_not, Nat.reduceAdd, Nat.reduceLeDiff, Bool.not_not, reduceCtorEq, false_imp_iff, Bool.not_eq_true', Bool.not_eq_false', Bool.false_eq_true, and_self, forall_const, ne_eq, not_false_eq_true, Nat.reduceEqDiff]
          refine ⟨fun hlt => ⟨⟨by omega, hlt⟩, fun hb => ans_int ?_, fun hb => ?_⟩, fun hge => ?_⟩
          · have e := ivE_2 ha (i := i) (by omega) (by omega)
            rw [e] at h; exact h
          · refine ⟨i + 1, ⟨by omega, fun j hj => ?_⟩, by omega, ?_⟩
            · rcases Nat.lt_or_ge j i with h' | h'
              · exact hc j h'
              · obtain rfl : j = i := by omega
                omega
            · have hw := w_succ (i := i) (n := l.length) (by omega) (by omega)
              simp only [hw, leS_mk, leL_cons, leL_nil, le_junk, le_int, le_bool, le_nil, leLL_nil, leLL_cons, leH_cons, leH_nil, leH1_box, leH1_own, leH1_gone, le_vs, le_agg, le_tup, le_ptr, le_own, le_xp, le_fn, le_opt, le_val, le_elem, le_nil_own, le_nil_vs, leH_ghost, leL_chunk, leXL_id, bnd_int, bnd_bool, bnd_val, bnd_nil, bnd_junk, bnd_vs, bnd_xp, bnd_agg, bnd_tup, bnd_ptr, bnd_own, bnd_elem, bnd_fn, bnd_iface, bnd_opt, bndL_nil, bndL_cons, lenH_cons, lenH_nil, imp_self, implies_true, true_and, and_true] <;> simp
          · obtain rfl : i = l.length := by omega
            rw [ivE_0 ha hc] at h
            exact ans_int h
  · exact h.1.elim

theorem ivl47 : ivlC.ok Try.prog 47 := by
  refine contract Try.func47 v47_is E1_ok 400 ivlC fun args k h => ?_
  simp only [ivlC] at h
  split at h
  · rename_i tt z n sz get
    obtain ⟨l, ⟨⟨rfl, rfl, hg⟩, hmax⟩, h⟩ := h
    refine ⟨[.vs tt z l.length 2 (fun k => enc2 (l.getD k default))], by simpa [leL, le] using hg, ?_⟩
    dsimp only [v47, enc2, r_end, r_end1, r_nil, r_op, r_opg, r_runOp, r_op0, r_yld0, r_yld1, r_y, r_rbeg, r_rend, r_rend1, r_rfrm, r_rfrm1, r_range, r_rangeK, r_rangeE, r_draw, r_dnil, r_dop, r_dopg, r_dplq, r_dplh, r_dq, r_dq0, r_dcl1, r_dcl0, r_dct1, r_dct0, r_dgd, r_dgq1, r_dgq0, r_dctG, r_op1, r_eff, r_eff0, r_call, r_call0, r_inl, r_g, r_gq, r_gc, r_effg, r_effg0, r_callg, r_callg0, r_fin, r_pre, r_imp, r_all, r_ex, r_fing, r_preg, r_exg, r_inBlock, r_inLoop, r_frame, r_frame1, r_skip, r_region, r_seq, r_cond, r_cond1, r_block, r_exit, r_exit1, r_exit2, r_ret, r_loop, s_args0, s_args1, s_xt, s_xc, padL, blankL, callee, callArgs, eff, ctOf, getL, setL, S.put, S.upd, unopts, unopt, unoptsO, unoptsB, lazyO, guardOf, gbool, eMov, eNot, eNeg, eConv, eExt, eLenArr, eLen, eLenStr, eEqb, eEqv, allEq, eNil, negIf, eBool2, eCmp, eAri, ari, eBit, eDiv, eSh, eMinMax, foldMin, foldMax, kEq, pure1, cmpB, VO.quiet, resVals, resVal, tupled, popRet, popTo, cond, Option.bind, Option.map, eNew, eBox, asCells, lenH, snocH, eFieldAddr, eField, eLoad, cellsAt, getH, setH, dropL, takeL, mkAgg, lenL, lenS, shift, shiftL, shiftH, viewN, viewL, view, andT, junks, List.append_nil, Nat.beq, eIdxAddr, eIdxArr, eIndex, eStore, storeAt, spliceL, ones, one, eSlice, eSliceArr, bounds, subLo, addLo, eMake, eAppend, readS, repL, buildCells, chunk, purgeL, purgeLL, purgeH, purge, refs, refsL, List.cons_append, List.nil_append, wrOps, wrAl, wrDops, wrC, junkAt, putAll, putHs, headOf, headK, keepG, List.append_eq, headX, chkP, apartP, apartB, blk, strip, runAl, yld, putPs, lenN, findR, notRound, jumpK, jumpPT, jcode, List.map_cons, List.map_nil, ite_self, reduceIte]
    simp only [true_and, and_true, imp_self, implies_true, decide_eq_true_eq, decide_eq_false_iff_not, Nat.reduceAdd, Nat.reduceLeDiff, Bool.not_not, reduceCtorEq, false_imp_iff, Bool.not_eq_true', Bool.not_eq_false', Bool.false_eq_true, and_self, forall_const, ne_eq, not_false_eq_true, Nat.reduceEqDiff]
    refine Loop.keep [0, 2] Nat (fun i => [(3, .int .i64 i)]) (fun _ => []) [] (fun i => i ≤ l.length ∧ ∀ j, j < i → (numOk (l.getD j default).1 && numOk (l.getD j default).2) = true) (fun i => l.length - i) ?_ ?_
    · refine ⟨0, ⟨Nat.zero_le _, fun j h => by omega⟩, ?_⟩
      dsimp only [r_end, r_end1, r_nil, r_op, r_opg, r_runOp, r_op0, r_yld0, r_yld1, r_y, r_rbeg, r_rend, r_rend1, r_rfrm, r_rfrm1, r_range, r_rangeK, r_rangeE, r_draw, r_dnil, r_dop, r_dopg, r_dplq, r_dplh, r_dq, r_dq0, r_dcl1, r_dcl0, r_dct1, r_dct0, r_dgd, r_dgq1, r_dgq0, r_dctG, r_op1, r_eff, r_eff0, r_call, r_call0, r_inl, r_g, r_gq, r_gc, r_effg, r_effg0, r_callg, r_callg0, r_fin, r_pre, r_imp, r_all, r_ex, r_fing, r_preg, r_exg, r_inBlock, r_inLoop, r_frame, r_frame1, r_skip, r_region, r_seq, r_cond, r_cond1, r_block, r_exit, r_exit1, r_exit2, r_ret, r_loop, s_args0, s_args1, s_xt, s_xc, padL, blankL, callee, callArgs, eff, ctOf, getL, setL, S.put, S.upd, unopts, unopt, unoptsO, unoptsB, lazyO, guardOf, gbool, eMov, eNot, eNeg, eConv, eExt, eLenArr, eLen, eLenStr, eEqb, eEqv, allEq, eNil, negIf, eBool2, eCmp, eAri, ari, eBit, eDiv, eSh, eMinMax, foldMin, foldMax, kEq, pure1, cmpB, VO.quiet, resVals, resVal, tupled, popRet, popTo, cond, Option.bind, Option.map, eNew, eBox, asCells, lenH, snocH, eFieldAddr, eField, eLoad, cellsAt, getH, setH, dropL, takeL, mkAgg, lenL, lenS, shift, shiftL, shiftH, viewN, viewL, view, andT, junks, List.append_nil, Nat.beq, eIdxAddr, eIdxArr, eIndex, eStore, storeAt, spliceL, ones, one, eSlice, eSliceArr, bounds, subLo, addLo, eMake, eAppend, readS, repL, buildCells, chunk, purgeL, purgeLL, purgeH, purge, refs, refsL, List.cons_append, List.nil_append, wrOps, wrAl, wrDops, wrC, junkAt, putAll, putHs, headOf, headK, keepG, List.append_eq, headX, chkP, apartP, apartB, blk, strip, runAl, yld, putPs, lenN, findR, notRound, jumpK, jumpPT, jcode, List.map_cons, List.map_nil, ite_self, reduceIte]
      simp only [leS_mk, leL_cons, leL_nil, le_junk, le_int, le_bool, le_nil, leLL_nil, leLL_cons, leH_cons, leH_nil, leH1_box, leH1_own, leH1_gone, le_vs, le_agg, le_tup, le_ptr, le_own, le_xp, le_fn, le_opt, le_val, le_elem, le_nil_own, le_nil_vs, leH_ghost, leL_chunk, leXL_id, bnd_int, bnd_bool, bnd_val, bnd_nil, bnd_junk, bnd_vs, bnd_xp, bnd_agg, bnd_tup, bnd_ptr, bnd_own, bnd_elem, bnd_fn, bnd_iface, bnd_opt, bndL_nil, bndL_cons, lenH_cons, lenH_nil, imp_self, implies_true, true_and, and_true]
      simp
    · rintro i ⟨hi, ha⟩
      dsimp only [enc2, Int.toNat_natCast, r_end, r_end1, r_nil, r_op, r_opg, r_runOp, r_op0, r_yld0, r_yld1, r_y, r_rbeg, r_rend, r_rend1, r_rfrm, r_rfrm1, r_range, r_rangeK, r_rangeE, r_draw, r_dnil, r_dop, r_dopg, r_dplq, r_dplh, r_dq, r_dq0, r_dcl1, r_dcl0, r_dct1, r_dct0, r_dgd, r_dgq1, r_dgq0, r_dctG, r_op1, r_eff, r_eff0, r_call, r_call0, r_inl, r_g, r_gq, r_gc, r_effg, r_effg0, r_callg, r_callg0, r_fin, r_pre, r_imp, r_all, r_ex, r_fing, r_preg, r_exg, r_inBlock, r_inLoop, r_frame, r_frame1, r_skip, r_region, r_seq, r_cond, r_cond1, r_block, r_exit, r_exit1, r_exit2, r_ret, r_loop, s_args0, s_args1, s_xt, s_xc, padL, blankL, callee, callArgs, eff, ctOf, getL, setL, S.put, S.upd, unopts, unopt, unoptsO, unoptsB, lazyO, guardOf, gbool, eMov, eNot, eNeg, eConv, eExt, eLenArr, eLen, eLenStr, eEqb, eEqv, allEq, eNil, negIf, eBool2, eCmp, eAri, ari, eBit, eDiv, eSh, eMinMax, foldMin, foldMax, kEq, pure1, cmpB, VO.quiet, resVals, resVal, tupled, popRet, popTo, cond, Option.bind, Option.map, eNew, eBox, asCells, lenH, snocH, eFieldAddr, eField, eLoad, cellsAt, getH, setH, dropL, takeL, mkAgg, lenL, lenS, shift, shiftL, shiftH, viewN, viewL, view, andT, junks, List.append_nil, Nat.beq, eIdxAddr, eIdxArr, eIndex, eStore, storeAt, spliceL, ones, one, eSlice, eSliceArr, bounds, subLo, addLo, eMake, eAppend, readS, repL, buildCells, chunk, purgeL, purgeLL, purgeH, purge, refs, refsL, List.cons_append, List.nil_append, wrOps, wrAl, wrDops, wrC, junkAt, putAll, putHs, headOf, headK, keepG, List.append_eq, headX, chkP, apartP, apartB, blk, strip, runAl, yld, putPs, lenN, findR, notRound, jumpK, jumpPT, jcode, List.map_cons, List.map_nil, ite_self, reduceIte]
      simp only [true_and, and_true, imp_self, implies_true, decide_eq_true_eq, decide_eq_false_iff_not, Nat.reduceAdd, Nat.reduceLeDiff, Bool.not_not, reduceCtorEq, false_imp_iff, Bool.not_eq_true', Bool.not_eq_false', Bool.false_eq_true, and_self, forall_const, ne_eq, not_false_eq_true, Nat.reduceEqDiff]
      simp only [num_or]
      refine ⟨fun hlt => ⟨⟨by omega, hlt⟩, fun _ => ⟨by omega, hlt⟩, fun _ => ⟨by omega, hlt⟩, fun _ => ⟨by omega, hlt⟩, fun hb => ans_int ?_, fun hb => ?_⟩, fun hge => ?_⟩
      · have e := ivE_bad (l := l) (i := i) (by omega) (by rw [Bool.not_eq_true'] at hb; exact hb)
        rw [e] at h; exact h
      · refine ⟨i + 1, ⟨by omega, fun j hj => ?_⟩, by omega, ?_⟩
        · rcases Nat.lt_or_ge j i with h' | h'
          · exact ha j h'
          · obtain rfl : j = i := by omega
            simpa using hb
        · have hw := w_succ (i := i) (n := l.length) (by omega) (by omega)
          simp only [hw, leS_mk, leL_cons, leL_nil, le_junk, le_int, le_bool, le_nil, leLL_nil, leLL_cons, leH_cons, leH_nil, leH1_box, leH1_own, leH1_gone, le_vs, le_agg, le_tup, le_ptr, le_own, le_xp, le_fn, le_opt, le_val, le_elem, le_nil_own, le_nil_vs, leH_ghost, leL_chunk, leXL_id, bnd_int, bnd_bool, bnd_val, bnd_nil, bnd_junk, bnd_vs, bnd_xp, bnd_agg, bnd_tup, bnd_ptr, bnd_own, bnd_elem, bnd_fn, bnd_iface, bnd_opt, bndL_nil, bndL_cons, lenH_cons, lenH_nil, imp_self, implies_true, true_and, and_true] <;> simp
      · obtain rfl : i = l.length := by omega
        refine Loop.keep [0, 3] Nat (fun i => [(4, .int .i64 i)]) (fun _ => []) [] (fun i => i ≤ l.length ∧ ∀ j, j < i → (l.getD j default).1 ≤ (l.getD j default).2) (fun i => l.length - i) ?_ ?_
        · refine ⟨0, ⟨Nat.zero_le _, fun j h => by omega⟩, ?_⟩
          dsimp only [r_end, r_end1, r_nil, r_op, r_opg, r_runOp, r_op0, r_yld0, r_yld1, r_y, r_rbeg, r_rend, r_rend1, r_rfrm, r_rfrm1, r_range, r_rangeK, r_rangeE, r_draw, r_dnil, r_dop, r_dopg, r_dplq, r_dplh, r_dq, r_dq0, r_dcl1, r_dcl0, r_dct1, r_dct0, r_dgd, r_dgq1, r_dgq0, r_dctG, r_op1, r_eff, r_eff0, r_call, r_call0, r_inl, r_g, r_gq, r_gc, r_effg, r_effg0, r_callg, r_callg0, r_fin, r_pre, r_imp, r_all, r_ex, r_fing, r_preg, r_exg, r_inBlock, r_inLoop, r_frame, r_frame1, r_skip, r_region, r_seq, r_cond, r_cond1, r_block, r_exit, r_exit1, r_exit2, r_ret, r_loop, s_args0, s_args1, s_xt, s_xc, padL, blankL, callee, callArgs, eff, ctOf, getL, setL, S.put, S.upd, unopts, unopt, unoptsO, unoptsB, lazyO, guardOf, gbool, eMov, eNot, eNeg, eConv, eExt, eLenArr, eLen, eLenStr, eEqb, eEqv, allEq, eNil, negIf, eBool2, eCmp, eAri, ari, eBit, eDiv, eSh, eMinMax, foldMin, foldMax, kEq, pure1, cmpB, VO.quiet, resVals, resVal, tupled, popRet, popTo, cond, Option.bind, Option.map, eNew, eBox, asCells, lenH, snocH, eFieldAddr, eField, eLoad, cellsAt, getH, setH, dropL, takeL, mkAgg, lenL, lenS, shift, shiftL, shiftH, viewN, viewL, view, andT, junks, List.append_nil, Nat.beq, eIdxAddr, eIdxArr, eIndex, eStore, storeAt, spliceL, ones, one, eSlice, eSliceArr, bounds, subLo, addLo, eMake, eAppend, readS, repL, buildCells, chunk, purgeL, purgeLL, purgeH, purge, refs, refsL, List.cons_append, List.nil_append, wrOps, wrAl, wrDops, wrC, junkAt, putAll, putHs, headOf, headK, keepG, List.append_eq, headX, chkP, apartP, apartB, blk, strip, runAl, yld, putPs, lenN, findR, notRound, jumpK, jumpPT, jcode, List.map_cons, List.map_nil, ite_self, reduceIte]
          simp only [leS_mk, leL_cons, leL_nil, le_junk, le_int, le_bool, le_nil, leLL_nil, leLL_cons, leH_cons, leH_nil, leH1_box, leH1_own, leH1_gone, le_vs, le_agg, le_tup, le_ptr, le_own, le_xp, le_fn, le_opt, le_val, le_elem, le_nil_own, le_nil_vs, leH_ghost, leL_chunk, leXL_id, bnd_int, bnd_bool, bnd_val, bnd_nil, bnd_junk, bnd_vs, bnd_xp, bnd_agg, bnd_tup, bnd_ptr, bnd_own, bnd_elem, bnd_fn, bnd_iface, bnd_opt, bndL_nil, bndL_cons, lenH_cons, lenH_nil, imp_self, implies_true, true_and, and_true]
          simp
        · rintro i ⟨hi, hc⟩
          dsimp only [enc2, Int.toNat_natCast, r_end, r_end1, r_nil, r_op, r_opg, r_runOp, r_op0, r_yld0, r_yld1, r_y, r_rbeg, r_rend, r_rend1, r_rfrm, r_rfrm1, r_range, r_rangeK, r_rangeE, r_draw, r_dnil, r_dop, r_dopg, r_dplq, r_dplh, r_dq, r_dq0, r_dcl1, r_dcl0, r_dct1, r_dct0, r_dgd, r_dgq1, r_dgq0, r_dctG, r_op1, r_eff, r_eff0, r_call, r_call0, r_inl, r_g, r_gq, r_gc, r_effg, r_effg0, r_callg, r_callg0, r_fin, r_pre, r_imp, r_all, r_ex, r_fing, r_preg, r_exg, r_inBlock, r_inLoop, r_frame, r_frame1, r_skip, r_region, r_seq, r_cond, r_cond1, r_block, r_exit, r_exit1, r_exit2, r_ret, r_loop, s_args0, s_args1, s_xt, s_xc, padL, blankL, callee, callArgs, eff, ctOf, getL, setL, S.put, S.upd, unopts, unopt, unoptsO, unoptsB, lazyO, guardOf, gbool, eMov, eNot, eNeg, eConv, eExt, eLenArr, eLen, eLenStr, eEqb, eEqv, allEq, eNil, negIf, eBool2, eCmp, eAri, ari, eBit, eDiv, eSh, eMinMax, foldMin, foldMax, kEq, pure1, cmpB, VO.quiet, resVals, resVal, tupled, popRet, popTo, cond, Option.bind, Option.map, eNew, eBox, asCells, lenH, snocH, eFieldAddr, eField, eLoad, cellsAt, getH, setH, dropL, takeL, mkAgg, lenL, lenS, shift, shiftL, shiftH, viewN, viewL, view, andT, junks, List.append_nil, Nat.beq, eIdxAddr, eIdxArr, eIndex, eStore, storeAt, spliceL, ones, one, eSlice, eSliceArr, bounds, subLo, addLo, eMake, eAppend, readS, repL, buildCells, chunk, purgeL, purgeLL, purgeH, purge, refs, refsL, List.cons_append, List.nil_append, wrOps, wrAl, wrDops, wrC, junkAt, putAll, putHs, headOf, headK, keepG, List.append_eq, headX, chkP, apartP, apartB, blk, strip, runAl, yld, putPs, lenN, findR, notRound, jumpK, jumpPT, jcode, List.map_cons, List.map_nil, ite_self, reduceIte]
          simp only [true_and, and_true, imp_self, implies_true, decide_eq_true_eq, decide_eq_false_iff_not, Nat.reduceAdd, Nat.reduceLeDiff, Bool.not_not, reduceCtorEq, false_imp_iff, Bool.not_eq_true', Bool.not_eq_false', Bool.false_eq_true, and_self, forall_const, ne_eq, not_false_eq_true, Nat.reduceEqDiff]
          refine ⟨fun hlt => ⟨⟨by omega, hlt⟩, ⟨by omega, hlt⟩, fun hb => ans_int ?_, fun hb => ?_⟩, fun hge => ?_⟩
          · have e := ivE_2 ha (i := i) (by omega) (by omega)
            rw [e] at h; exact h
          · refine ⟨i + 1, ⟨by omega, fun j hj => ?_⟩, by omega, ?_⟩
            · rcases Nat.lt_or_ge j i with h' | h'
              · exact hc j h'
              · obtain rfl : j = i := by omega
                omega
            · have hw := w_succ (i := i) (n := l.length) (by omega) (by omega)
              simp only [hw, leS_mk, leL_cons, leL_nil, le_junk, le_int, le_bool, le_nil, leLL_nil, leLL_cons, leH_cons, leH_nil, leH1_box, leH1_own, leH1_gone, le_vs, le_agg, le_tup, le_ptr, le_own, le_xp, le_fn, le_opt, le_val, le_elem, le_nil_own, le_nil_vs, leH_ghost, leL_chunk, leXL_id, bnd_int, bnd_bool, bnd_val, bnd_nil, bnd_junk, bnd_vs, bnd_xp, bnd_agg, bnd_tup, bnd_ptr, bnd_own, bnd_elem, bnd_fn, bnd_iface, bnd_opt, bndL_nil, bndL_cons, lenH_cons, lenH_nil, imp_self, implies_true, true_and, and_true] <;> simp
          · obtain rfl : i = l.length := by omega
            rw [ivE_0 ha hc] at h
            exact ans_int h
  · exact h.1.elim

def E2 : Env := { ct := fun n => match n with | 46 => some ivlC | 47 => some ivlC | _ => none, fn := fun _ => none, meth := fun _ _ => none }
theorem E2_ct46 : E2.ct 46 = some ivlC := rfl
theorem E2_ct47 : E2.ct 47 = some ivlC := rfl
theorem E2_ok : EnvOk Try.prog E2 := by
  refine ⟨fun f c h => ?_, fun f vf h => ?_, fun _ _ => rfl, by kernel_rfl⟩
  · simp only [E2] at h
    split at h
    · cases h; exact ⟨ivl46, Try.f46, Try.func46, by kernel_rfl, by kernel_rfl⟩
    · cases h; exact ⟨ivl47, Try.f47, Try.func47, by kernel_rfl, by kernel_rfl⟩
    · cases h
  · cases h


theorem iv34 : iv1C.ok Try.prog 34 := by
  refine contract Try.func34 v34_is E2_ok 100 iv1C fun args k h => ⟨args, ?_⟩
  simp only [iv1C] at h
  split at h
  · rename_i x y
    refine ⟨by simp [leL, le], ?_⟩
    dsimp only [v34, E2_ct46, ivlC, r_end, r_end1, r_nil, r_op, r_opg, r_runOp, r_op0, r_yld0, r_yld1, r_y, r_rbeg, r_rend, r_rend1, r_rfrm, r_rfrm1, r_range, r_rangeK, r_rangeE, r_draw, r_dnil, r_dop, r_dopg, r_dplq, r_dplh, r_dq, r_dq0, r_dcl1, r_dcl0, r_dct1, r_dct0, r_dgd, r_dgq1, r_dgq0, r_dctG, r_op1, r_eff, r_eff0, r_call, r_call0, r_inl, r_g, r_gq, r_gc, r_effg, r_effg0, r_callg, r_callg0, r_fin, r_pre, r_imp, r_all, r_ex, r_fing, r_preg, r_exg, r_inBlock, r_inLoop, r_frame, r_frame1, r_skip, r_region, r_seq, r_cond, r_cond1, r_block, r_exit, r_exit1, r_exit2, r_ret, r_loop, s_args0, s_args1, s_xt, s_xc, padL, blankL, callee, callArgs, eff, ctOf, getL, setL, S.put, S.upd, unopts, unopt, unoptsO, unoptsB, lazyO, guardOf, gbool, eMov, eNot, eNeg, eConv, eExt, eLenArr, eLen, eLenStr, eEqb, eEqv, allEq, eNil, negIf, eBool2, eCmp, eAri, ari, eBit, eDiv, eSh, eMinMax, foldMin, foldMax, kEq, pure1, cmpB, VO.quiet, resVals, resVal, tupled, popRet, popTo, cond, Option.bind, Option.map, eNew, eBox, asCells, lenH, snocH, eFieldAddr, eField, eLoad, cellsAt, getH, setH, dropL, takeL, mkAgg, lenL, lenS, shift, shiftL, shiftH, viewN, viewL, view, andT, junks, List.append_nil, Nat.beq, eIdxAddr, eIdxArr, eIndex, eStore, storeAt, spliceL, ones, one, eSlice, eSliceArr, bounds, subLo, addLo, eMake, eAppend, readS, repL, buildCells, chunk, purgeL, purgeLL, purgeH, purge, refs, refsL, List.cons_append, List.nil_append, wrOps, wrAl, wrDops, wrC, junkAt, putAll, putHs, headOf, headK, keepG, List.append_eq, headX, chkP, apartP, apartB, blk, strip, runAl, yld, putPs, lenN, findR, notRound, jumpK, jumpPT, jcode, List.map_cons, List.map_nil, ite_self, reduceIte]
    simp only [true_and, and_true, imp_self, implies_true, decide_eq_true_eq, decide_eq_false_iff_not, Nat.reduceAdd, Nat.reduceLeDiff, Bool.not_not, reduceCtorEq, false_imp_iff, Bool.not_eq_true', Bool.not_eq_false', Bool.false_eq_true, and_self, forall_const, ne_eq, not_false_eq_true, Nat.reduceEqDiff]
    refine ⟨by decide, [(x, y)], ⟨⟨rfl, rfl, fun k hk => ?_⟩, by simp⟩, ans_int h⟩
    match k, hk with
    | 0, _ => exact leXL_self _
  · exact h.1.elim
theorem iv35 : iv1C.ok Try.prog 35 := by
  refine contract Try.func35 v35_is E2_ok 100 iv1C fun args k h => ⟨args, ?_⟩
  simp only [iv1C] at h
  split at h
  · rename_i x y
    refine ⟨by simp [leL, le], ?_⟩
    dsimp only [v35, E2_ct47, ivlC, r_end, r_end1, r_nil, r_op, r_opg, r_runOp, r_op0, r_yld0, r_yld1, r_y, r_rbeg, r_rend, r_rend1, r_rfrm, r_rfrm1, r_range, r_rangeK, r_rangeE, r_draw, r_dnil, r_dop, r_dopg, r_dplq, r_dplh, r_dq, r_dq0, r_dcl1, r_dcl0, r_dct1, r_dct0, r_dgd, r_dgq1, r_dgq0, r_dctG, r_op1, r_eff, r_eff0, r_call, r_call0, r_inl, r_g, r_gq, r_gc, r_effg, r_effg0, r_callg, r_callg0, r_fin, r_pre, r_imp, r_all, r_ex, r_fing, r_preg, r_exg, r_inBlock, r_inLoop, r_frame, r_frame1, r_skip, r_region, r_seq, r_cond, r_cond1, r_block, r_exit, r_exit1, r_exit2, r_ret, r_loop, s_args0, s_args1, s_xt, s_xc, padL, blankL, callee, callArgs, eff, ctOf, getL, setL, S.put, S.upd, unopts, unopt, unoptsO, unoptsB, lazyO, guardOf, gbool, eMov, eNot, eNeg, eConv, eExt, eLenArr, eLen, eLenStr, eEqb, eEqv, allEq, eNil, negIf, eBool2, eCmp, eAri, ari, eBit, eDiv, eSh, eMinMax, foldMin, foldMax, kEq, pure1, cmpB, VO.quiet, resVals, resVal, tupled, popRet, popTo, cond, Option.bind, Option.map, eNew, eBox, asCells, lenH, snocH, eFieldAddr, eField, eLoad, cellsAt, getH, setH, dropL, takeL, mkAgg, lenL, lenS, shift, shiftL, shiftH, viewN, viewL, view, andT, junks, List.append_nil, Nat.beq, eIdxAddr, eIdxArr, eIndex, eStore, storeAt, spliceL, ones, one, eSlice, eSliceArr, bounds, subLo, addLo, eMake, eAppend, readS, repL, buildCells, chunk, purgeL, purgeLL, purgeH, purge, refs, refsL, List.cons_append, List.nil_append, wrOps, wrAl, wrDops, wrC, junkAt, putAll, putHs, headOf, headK, keepG, List.append_eq, headX, chkP, apartP, apartB, blk, strip, runAl, yld, putPs, lenN, findR, notRound, jumpK, jumpPT, jcode, List.map_cons, List.map_nil, ite_self, reduceIte]
    simp only [true_and, and_true, imp_self, implies_true, decide_eq_true_eq, decide_eq_false_iff_not, Nat.reduceAdd, Nat.reduceLeDiff, Bool.not_not, reduceCtorEq, false_imp_iff, Bool.not_eq_true', Bool.not_eq_false', Bool.false_eq_true, and_self, forall_const, ne_eq, not_false_eq_true, Nat.reduceEqDiff]
    refine ⟨by decide, [(x, y)], ⟨⟨rfl, rfl, fun k hk => ?_⟩, by simp⟩, ans_int h⟩
    match k, hk with
    | 0, _ => exact leXL_self _
  · exact h.1.elim

def E3 : Env := { ct := fun n => match n with | 34 => some iv1C | 35 => some iv1C | _ => none, fn := fun _ => none, meth := fun _ _ => none }
theorem E3_ct34 : E3.ct 34 = some iv1C := rfl
theorem E3_ct35 : E3.ct 35 = some iv1C := rfl
theorem E3_ok : EnvOk Try.prog E3 := by
  refine ⟨fun f c h => ?_, fun f vf h => ?_, fun _ _ => rfl, by kernel_rfl⟩
  · simp only [E3] at h
    split at h
    · cases h; exact ⟨iv34, Try.f34, Try.func34, by kernel_rfl, by kernel_rfl⟩
    · cases h; exact ⟨iv35, Try.f35, Try.func35, by kernel_rfl, by kernel_rfl⟩
    · cases h
  · cases h


theorem wr41 : wrC.ok Try.prog 41 := by
  refine contract Try.func41 v41_is E3_ok 100 wrC fun args k h => ⟨args, ?_⟩
  simp only [wrC] at h
  split at h
  · rename_i x y
    refine ⟨by simp [leL, le], ?_⟩
    dsimp only [v41, E3_ct34, iv1C, r_end, r_end1, r_nil, r_op, r_opg, r_runOp, r_op0, r_yld0, r_yld1, r_y, r_rbeg, r_rend, r_rend1, r_rfrm, r_rfrm1, r_range, r_rangeK, r_rangeE, r_draw, r_dnil, r_dop, r_dopg, r_dplq, r_dplh, r_dq, r_dq0, r_dcl1, r_dcl0, r_dct1, r_dct0, r_dgd, r_dgq1, r_dgq0, r_dctG, r_op1, r_eff, r_eff0, r_call, r_call0, r_inl, r_g, r_gq, r_gc, r_effg, r_effg0, r_callg, r_callg0, r_fin, r_pre, r_imp, r_all, r_ex, r_fing, r_preg, r_exg, r_inBlock, r_inLoop, r_frame, r_frame1, r_skip, r_region, r_seq, r_cond, r_cond1, r_block, r_exit, r_exit1, r_exit2, r_ret, r_loop, s_args0, s_args1, s_xt, s_xc, padL, blankL, callee, callArgs, eff, ctOf, getL, setL, S.put, S.upd, unopts, unopt, unoptsO, unoptsB, lazyO, guardOf, gbool, eMov, eNot, eNeg, eConv, eExt, eLenArr, eLen, eLenStr, eEqb, eEqv, allEq, eNil, negIf, eBool2, eCmp, eAri, ari, eBit, eDiv, eSh, eMinMax, foldMin, foldMax, kEq, pure1, cmpB, VO.quiet, resVals, resVal, tupled, popRet, popTo, cond, Option.bind, Option.map, eNew, eBox, asCells, lenH, snocH, eFieldAddr, eField, eLoad, cellsAt, getH, setH, dropL, takeL, mkAgg, lenL, lenS, shift, shiftL, shiftH, viewN, viewL, view, andT, junks, List.append_nil, Nat.beq, eIdxAddr, eIdxArr, eIndex, eStore, storeAt, spliceL, ones, one, eSlice, eSliceArr, bounds, subLo, addLo, eMake, eAppend, readS, repL, buildCells, chunk, purgeL, purgeLL, purgeH, purge, refs, refsL, List.cons_append, List.nil_append, wrOps, wrAl, wrDops, wrC, junkAt, putAll, putHs, headOf, headK, keepG, List.append_eq, headX, chkP, apartP, apartB, blk, strip, runAl, yld, putPs, lenN, findR, notRound, jumpK, jumpPT, jcode, List.map_cons, List.map_nil, ite_self, reduceIte]
    simp only [true_and, and_true, imp_self, implies_true, decide_eq_true_eq, decide_eq_false_iff_not, Nat.reduceAdd, Nat.reduceLeDiff, Bool.not_not, reduceCtorEq, false_imp_iff, Bool.not_eq_true', Bool.not_eq_false', Bool.false_eq_true, and_self, forall_const, ne_eq, not_false_eq_true, Nat.reduceEqDiff]
    exact ans_bool h
  · exact h.1.elim

def belC : Ctr := { alias := false, of := fun a => match a with
  | [.agg [.int .i64 st, .int .i64 lo, .int .i64 hi, .int .i64 il, .int .i64 ih]] => .fin (.int .i64 (belE ⟨st, lo, hi, il, ih⟩)) []
  | _ => noC }

theorem bel16 : belC.ok Try.prog 16 := by
  refine contract Try.func16 v16_is E3_ok 200 belC fun args k h => ⟨args, ?_⟩
  simp only [belC] at h
  split at h
  · rename_i st lo hi il ih
    refine ⟨by simp [leL, le], ?_⟩
    dsimp only [v16, E3_ct34, iv1C, r_end, r_end1, r_nil, r_op, r_opg, r_runOp, r_op0, r_yld0, r_yld1, r_y, r_rbeg, r_rend, r_rend1, r_rfrm, r_rfrm1, r_range, r_rangeK, r_rangeE, r_draw, r_dnil, r_dop, r_dopg, r_dplq, r_dplh, r_dq, r_dq0, r_dcl1, r_dcl0, r_dct1, r_dct0, r_dgd, r_dgq1, r_dgq0, r_dctG, r_op1, r_eff, r_eff0, r_call, r_call0, r_inl, r_g, r_gq, r_gc, r_effg, r_effg0, r_callg, r_callg0, r_fin, r_pre, r_imp, r_all, r_ex, r_fing, r_preg, r_exg, r_inBlock, r_inLoop, r_frame, r_frame1, r_skip, r_region, r_seq, r_cond, r_cond1, r_block, r_exit, r_exit1, r_exit2, r_ret, r_loop, s_args0, s_args1, s_xt, s_xc, padL, blankL, callee, callArgs, eff, ctOf, getL, setL, S.put, S.upd, unopts, unopt, unoptsO, unoptsB, lazyO, guardOf, gbool, eMov, eNot, eNeg, eConv, eExt, eLenArr, eLen, eLenStr, eEqb, eEqv, allEq, eNil, negIf, eBool2, eCmp, eAri, ari, eBit, eDiv, eSh, eMinMax, foldMin, foldMax, kEq, pure1, cmpB, VO.quiet, resVals, resVal, tupled, popRet, popTo, cond, Option.bind, Option.map, eNew, eBox, asCells, lenH, snocH, eFieldAddr, eField, eLoad, cellsAt, getH, setH, dropL, takeL, mkAgg, lenL, lenS, shift, shiftL, shiftH, viewN, viewL, view, andT, junks, List.append_nil, Nat.beq, eIdxAddr, eIdxArr, eIndex, eStore, storeAt, spliceL, ones, one, eSlice, eSliceArr, bounds, subLo, addLo, eMake, eAppend, readS, repL, buildCells, chunk, purgeL, purgeLL, purgeH, purge, refs, refsL, List.cons_append, List.nil_append, wrOps, wrAl, wrDops, wrC, junkAt, putAll, putHs, headOf, headK, keepG, List.append_eq, headX, chkP, apartP, apartB, blk, strip, runAl, yld, putPs, lenN, findR, notRound, jumpK, jumpPT, jcode, List.map_cons, List.map_nil, ite_self, reduceIte]
    simp only [true_and, and_true, imp_self, implies_true, decide_eq_true_eq, decide_eq_false_iff_not, Nat.reduceAdd, Nat.reduceLeDiff, Bool.not_not, reduceCtorEq, false_imp_iff, Bool.not_eq_true', Bool.not_eq_false', Bool.false_eq_true, and_self, forall_const, ne_eq, not_false_eq_true, Nat.reduceEqDiff]
    refine ⟨fun hb => ans_int ?_, fun hb => ⟨fun hc => ans_int ?_, fun hc => ans_int ?_⟩⟩
    · rw [bel_a hb] at h; exact h
    · obtain ⟨e1, e2⟩ := bel_b (il := il) (ih := ih) hb
      rw [e1] at hc
      simp only [Bool.or_eq_true, Bool.not_eq_true', decide_eq_true_eq, decide_eq_false_iff_not] at hc
      rw [e2, if_neg (by simp only [Bool.and_eq_true, decide_eq_true_eq]; omega)] at h
      exact h
    · obtain ⟨e1, e2⟩ := bel_b (il := il) (ih := ih) hb
      rw [e1] at hc
      simp only [Bool.or_eq_false_iff, Bool.not_eq_false', decide_eq_true_eq, decide_eq_false_iff_not] at hc
      rw [e2, if_pos (by simp only [Bool.and_eq_true, decide_eq_true_eq]; omega)] at h
      exact h
  · exact h.1.elim

theorem bel17 : belC.ok Try.prog 17 := by
  refine contract Try.func17 v17_is E3_ok 200 belC fun args k h => ⟨args, ?_⟩
  simp only [belC] at h
  split at h
  · rename_i st lo hi il ih
    refine ⟨by simp [leL, le], ?_⟩
    dsimp only [v17, E3_ct35, iv1C, r_end, r_end1, r_nil, r_op, r_opg, r_runOp, r_op0, r_yld0, r_yld1, r_y, r_rbeg, r_rend, r_rend1, r_rfrm, r_rfrm1, r_range, r_rangeK, r_rangeE, r_draw, r_dnil, r_dop, r_dopg, r_dplq, r_dplh, r_dq, r_dq0, r_dcl1, r_dcl0, r_dct1, r_dct0, r_dgd, r_dgq1, r_dgq0, r_dctG, r_op1, r_eff, r_eff0, r_call, r_call0, r_inl, r_g, r_gq, r_gc, r_effg, r_effg0, r_callg, r_callg0, r_fin, r_pre, r_imp, r_all, r_ex, r_fing, r_preg, r_exg, r_inBlock, r_inLoop, r_frame, r_frame1, r_skip, r_region, r_seq, r_cond, r_cond1, r_block, r_exit, r_exit1, r_exit2, r_ret, r_loop, s_args0, s_args1, s_xt, s_xc, padL, blankL, callee, callArgs, eff, ctOf, getL, setL, S.put, S.upd, unopts, unopt, unoptsO, unoptsB, lazyO, guardOf, gbool, eMov, eNot, eNeg, eConv, eExt, eLenArr, eLen, eLenStr, eEqb, eEqv, allEq, eNil, negIf, eBool2, eCmp, eAri, ari, eBit, eDiv, eSh, eMinMax, foldMin, foldMax, kEq, pure1, cmpB, VO.quiet, resVals, resVal, tupled, popRet, popTo, cond, Option.bind, Option.map, eNew, eBox, asCells, lenH, snocH, eFieldAddr, eField, eLoad, cellsAt, getH, setH, dropL, takeL, mkAgg, lenL, lenS, shift, shiftL, shiftH, viewN, viewL, view, andT, junks, List.append_nil, Nat.beq, eIdxAddr, eIdxArr, eIndex, eStore, storeAt, spliceL, ones, one, eSlice, eSliceArr, bounds, subLo, addLo, eMake, eAppend, readS, repL, buildCells, chunk, purgeL, purgeLL, purgeH, purge, refs, refsL, List.cons_append, List.nil_append, wrOps, wrAl, wrDops, wrC, junkAt, putAll, putHs, headOf, headK, keepG, List.append_eq, headX, chkP, apartP, apartB, blk, strip, runAl, yld, putPs, lenN, findR, notRound, jumpK, jumpPT, jcode, List.map_cons, List.map_nil, ite_self, reduceIte]
    simp only [true_and, and_true, imp_self, implies_true, decide_eq_true_eq, decide_eq_false_iff_not, Nat.reduceAdd, Nat.reduceLeDiff, Bool.not_not, reduceCtorEq, false_imp_iff, Bool.not_eq_true', Bool.not_eq_false', Bool.false_eq_true, and_self, forall_const, ne_eq, not_false_eq_true, Nat.reduceEqDiff]
    refine ⟨fun hb => ans_int ?_, fun hb => ⟨fun hc => ans_int ?_, fun hc => ans_int ?_⟩⟩
    · rw [bel_a hb] at h; exact h
    · obtain ⟨e1, e2⟩ := bel_b (il := il) (ih := ih) hb
      rw [e1] at hc
      simp only [Bool.or_eq_true, Bool.not_eq_true', decide_eq_true_eq, decide_eq_false_iff_not] at hc
      rw [e2, if_neg (by simp only [Bool.and_eq_true, decide_eq_true_eq]; omega)] at h
      exact h
    · obtain ⟨e1, e2⟩ := bel_b (il := il) (ih := ih) hb
      rw [e1] at hc
      simp only [Bool.or_eq_false_iff, Bool.not_eq_false', decide_eq_true_eq, decide_eq_false_iff_not] at hc
      rw [e2, if_pos (by simp only [Bool.and_eq_true, decide_eq_true_eq]; omega)] at h
      exact h
  · exact h.1.elim

def E4 : Env := { ct := fun n => match n with | 41 => some wrC | _ => none, fn := fun n => match n with | 48 => some v48 | _ => none, meth := fun _ _ => none }
theorem E4_ct41 : E4.ct 41 = some wrC := rfl
theorem E4_ct48 : E4.ct 48 = none := rfl
theorem E4_fn48 : E4.fn 48 = some v48 := rfl
theorem E4_ok : EnvOk Try.prog E4 := by
  refine ⟨fun f c h => ?_, fun f vf h => ?_, fun _ _ => rfl, by kernel_rfl⟩
  · simp only [E4] at h
    split at h
    · cases h; exact ⟨wr41, Try.f41, Try.func41, by kernel_rfl, by kernel_rfl⟩
    · cases h
  · simp only [E4] at h
    split at h
    · cases h; exact ⟨Try.f48, Try.func48, v48_is, Try.f48, Try.func48, by kernel_rfl, by kernel_rfl⟩
    · cases h


def anyC : Ctr := { alias := false, of := fun a => match a with
  | [.vs _ _ n sz get, .fn f [] []] => .ex (List Iv) fun l => .pre (f = .func 41 ∧ lsP 2 enc2 n sz get l ∧ l.length ≤ 9223372036854775807) (.fin (.bool (l.any wrongF)) [])
  | _ => noC }

theorem any42 : anyC.ok Try.prog 42 := by
  refine contract Try.func42 v42_is E4_ok 400 anyC fun args k h => ?_
  simp only [anyC] at h
  split at h
  · rename_i tt z n sz get f
    obtain ⟨l, ⟨rfl, ⟨rfl, rfl, hg⟩, hmax⟩, h⟩ := h
    refine ⟨[.vs tt z l.length 2 (fun k => enc2 (l.getD k default)), .fn (.func 41) [] []], by simpa [leL, le, bnd_fn, bndL_nil] using hg, ?_⟩
    dsimp only [v42, E4_ct48, E4_fn48, v48, enc2, r_end, r_end1, r_nil, r_op, r_opg, r_runOp, r_op0, r_yld0, r_yld1, r_y, r_rbeg, r_rend, r_rend1, r_rfrm, r_rfrm1, r_range, r_rangeK, r_rangeE, r_draw, r_dnil, r_dop, r_dopg, r_dplq, r_dplh, r_dq, r_dq0, r_dcl1, r_dcl0, r_dct1, r_dct0, r_dgd, r_dgq1, r_dgq0, r_dctG, r_op1, r_eff, r_eff0, r_call, r_call0, r_inl, r_g, r_gq, r_gc, r_effg, r_effg0, r_callg, r_callg0, r_fin, r_pre, r_imp, r_all, r_ex, r_fing, r_preg, r_exg, r_inBlock, r_inLoop, r_frame, r_frame1, r_skip, r_region, r_seq, r_cond, r_cond1, r_block, r_exit, r_exit1, r_exit2, r_ret, r_loop, s_args0, s_args1, s_xt, s_xc, padL, blankL, callee, callArgs, eff, ctOf, getL, setL, S.put, S.upd, unopts, unopt, unoptsO, unoptsB, lazyO, guardOf, gbool, eMov, eNot, eNeg, eConv, eExt, eLenArr, eLen, eLenStr, eEqb, eEqv, allEq, eNil, negIf, eBool2, eCmp, eAri, ari, eBit, eDiv, eSh, eMinMax, foldMin, foldMax, kEq, pure1, cmpB, VO.quiet, resVals, resVal, tupled, popRet, popTo, cond, Option.bind, Option.map, eNew, eBox, asCells, lenH, snocH, eFieldAddr, eField, eLoad, cellsAt, getH, setH, dropL, takeL, mkAgg, lenL, lenS, shift, shiftL, shiftH, viewN, viewL, view, andT, junks, List.append_nil, Nat.beq, eIdxAddr, eIdxArr, eIndex, eStore, storeAt, spliceL, ones, one, eSlice, eSliceArr, bounds, subLo, addLo, eMake, eAppend, readS, repL, buildCells, chunk, purgeL, purgeLL, purgeH, purge, refs, refsL, List.cons_append, List.nil_append, wrOps, wrAl, wrDops, wrC, junkAt, putAll, putHs, headOf, headK, keepG, List.append_eq, headX, chkP, apartP, apartB, blk, strip, runAl, yld, putPs, lenN, findR, notRound, jumpK, jumpPT, jcode, List.map_cons, List.map_nil, ite_self, reduceIte]
    simp only [true_and, and_true, imp_self, implies_true, decide_eq_true_eq, decide_eq_false_iff_not, Nat.reduceAdd, Nat.reduceLeDiff, Bool.not_not, reduceCtorEq, false_imp_iff, Bool.not_eq_true', Bool.not_eq_false', Bool.false_eq_true, and_self, forall_const, ne_eq, not_false_eq_true, Nat.reduceEqDiff]
    refine Loop.keep [0, 0, 4, 0, 0] Nat (fun i => [(8, .int .i64 i)]) (fun _ => []) [] (fun i => i ≤ l.length ∧ ∀ j, j < i → wrongF (l.getD j default) = false) (fun i => l.length - i) ?_ ?_
    · refine ⟨0, ⟨Nat.zero_le _, fun j h => by omega⟩, ?_⟩
      dsimp only [r_end, r_end1, r_nil, r_op, r_opg, r_runOp, r_op0, r_yld0, r_yld1, r_y, r_rbeg, r_rend, r_rend1, r_rfrm, r_rfrm1, r_range, r_rangeK, r_rangeE, r_draw, r_dnil, r_dop, r_dopg, r_dplq, r_dplh, r_dq, r_dq0, r_dcl1, r_dcl0, r_dct1, r_dct0, r_dgd, r_dgq1, r_dgq0, r_dctG, r_op1, r_eff, r_eff0, r_call, r_call0, r_inl, r_g, r_gq, r_gc, r_effg, r_effg0, r_callg, r_callg0, r_fin, r_pre, r_imp, r_all, r_ex, r_fing, r_preg, r_exg, r_inBlock, r_inLoop, r_frame, r_frame1, r_skip, r_region, r_seq, r_cond, r_cond1, r_block, r_exit, r_exit1, r_exit2, r_ret, r_loop, s_args0, s_args1, s_xt, s_xc, padL, blankL, callee, callArgs, eff, ctOf, getL, setL, S.put, S.upd, unopts, unopt, unoptsO, unoptsB, lazyO, guardOf, gbool, eMov, eNot, eNeg, eConv, eExt, eLenArr, eLen, eLenStr, eEqb, eEqv, allEq, eNil, negIf, eBool2, eCmp, eAri, ari, eBit, eDiv, eSh, eMinMax, foldMin, foldMax, kEq, pure1, cmpB, VO.quiet, resVals, resVal, tupled, popRet, popTo, cond, Option.bind, Option.map, eNew, eBox, asCells, lenH, snocH, eFieldAddr, eField, eLoad, cellsAt, getH, setH, dropL, takeL, mkAgg, lenL, lenS, shift, shiftL, shiftH, viewN, viewL, view, andT, junks, List.append_nil, Nat.beq, eIdxAddr, eIdxArr, eIndex, eStore, storeAt, spliceL, ones, one, eSlice, eSliceArr, bounds, subLo, addLo, eMake, eAppend, readS, repL, buildCells, chunk, purgeL, purgeLL, purgeH, purge, refs, refsL, List.cons_append, List.nil_append, wrOps, wrAl, wrDops, wrC, junkAt, putAll, putHs, headOf, headK, keepG, List.append_eq, headX, chkP, apartP, apartB, blk, strip, runAl, yld, putPs, lenN, findR, notRound, jumpK, jumpPT, jcode, List.map_cons, List.map_nil, ite_self, reduceIte]
      simp only [leS_mk, leL_cons, leL_nil, le_junk, le_int, le_bool, le_nil, leLL_nil, leLL_cons, leH_cons, leH_nil, leH1_box, leH1_own, leH1_gone, le_vs, le_agg, le_tup, le_ptr, le_own, le_xp, le_fn, le_opt, le_val, le_elem, le_nil_own, le_nil_vs, leH_ghost, leL_chunk, leXL_id, bnd_int, bnd_bool, bnd_val, bnd_nil, bnd_junk, bnd_vs, bnd_xp, bnd_agg, bnd_tup, bnd_ptr, bnd_own, bnd_elem, bnd_fn, bnd_iface, bnd_opt, bndL_nil, bndL_cons, lenH_cons, lenH_nil, imp_self, implies_true, true_and, and_true] <;> simp
    · rintro i ⟨hi, ha⟩
      dsimp only [E4_ct41, wrC, enc2, Int.toNat_natCast, r_end, r_end1, r_nil, r_op, r_opg, r_runOp, r_op0, r_yld0, r_yld1, r_y, r_rbeg, r_rend, r_rend1, r_rfrm, r_rfrm1, r_range, r_rangeK, r_rangeE, r_draw, r_dnil, r_dop, r_dopg, r_dplq, r_dplh, r_dq, r_dq0, r_dcl1, r_dcl0, r_dct1, r_dct0, r_dgd, r_dgq1, r_dgq0, r_dctG, r_op1, r_eff, r_eff0, r_call, r_call0, r_inl, r_g, r_gq, r_gc, r_effg, r_effg0, r_callg, r_callg0, r_fin, r_pre, r_imp, r_all, r_ex, r_fing, r_preg, r_exg, r_inBlock, r_inLoop, r_frame, r_frame1, r_skip, r_region, r_seq, r_cond, r_cond1, r_block, r_exit, r_exit1, r_exit2, r_ret, r_loop, s_args0, s_args1, s_xt, s_xc, padL, blankL, callee, callArgs, eff, ctOf, getL, setL, S.put, S.upd, unopts, unopt, unoptsO, unoptsB, lazyO, guardOf, gbool, eMov, eNot, eNeg, eConv, eExt, eLenArr, eLen, eLenStr, eEqb, eEqv, allEq, eNil, negIf, eBool2, eCmp, eAri, ari, eBit, eDiv, eSh, eMinMax, foldMin, foldMax, kEq, pure1, cmpB, VO.quiet, resVals, resVal, tupled, popRet, popTo, cond, Option.bind, Option.map, eNew, eBox, asCells, lenH, snocH, eFieldAddr, eField, eLoad, cellsAt, getH, setH, dropL, takeL, mkAgg, lenL, lenS, shift, shiftL, shiftH, viewN, viewL, view, andT, junks, List.append_nil, Nat.beq, eIdxAddr, eIdxArr, eIndex, eStore, storeAt, spliceL, ones, one, eSlice, eSliceArr, bounds, subLo, addLo, eMake, eAppend, readS, repL, buildCells, chunk, purgeL, purgeLL, purgeH, purge, refs, refsL, List.cons_append, List.nil_append, wrOps, wrAl, wrDops, wrC, junkAt, putAll, putHs, headOf, headK, keepG, List.append_eq, headX, chkP, apartP, apartB, blk, strip, runAl, yld, putPs, lenN, findR, notRound, jumpK, jumpPT, jcode, List.map_cons, List.map_nil, ite_self, reduceIte]
      simp only [true_and, and_true, imp_self, implies_true, decide_eq_true_eq, decide_eq_false_iff_not, Nat.reduceAdd, Nat.reduceLeDiff, Bool.not_not, reduceCtorEq, false_imp_iff, Bool.not_eq_true', Bool.not_eq_false', Bool.false_eq_true, and_self, forall_const, ne_eq, not_false_eq_true, Nat.reduceEqDiff]
      refine ⟨fun hlt => ⟨⟨by omega, hlt⟩, fun hb => ans_bool ?_, fun hb => ?_⟩, fun hge => ans_bool ?_⟩
      · have e : l.any wrongF = true := List.any_eq_true.2 ⟨_, getD_mem (by omega : i < l.length), hb⟩
        rw [e] at h
        simpa using (show k (.bool true) [] from h)
      · refine ⟨i + 1, ⟨by omega, fun j hj => ?_⟩, by omega, ?_⟩
        · rcases Nat.lt_or_ge j i with h' | h'
          · exact ha j h'
          · obtain rfl : j = i := by omega
            exact hb
        · have hw := w_succ (i := i) (n := l.length) (by omega) (by omega)
          simp only [hw, leS_mk, leL_cons, leL_nil, le_junk, le_int, le_bool, le_nil, leLL_nil, leLL_cons, leH_cons, leH_nil, leH1_box, leH1_own, leH1_gone, le_vs, le_agg, le_tup, le_ptr, le_own, le_xp, le_fn, le_opt, le_val, le_elem, le_nil_own, le_nil_vs, leH_ghost, leL_chunk, leXL_id, bnd_int, bnd_bool, bnd_val, bnd_nil, bnd_junk, bnd_vs, bnd_xp, bnd_agg, bnd_tup, bnd_ptr, bnd_own, bnd_elem, bnd_fn, bnd_iface, bnd_opt, bndL_nil, bndL_cons, lenH_cons, lenH_nil, imp_self, implies_true, true_and, and_true] <;> simp
      · obtain rfl : i = l.length := by omega
        have e : l.any wrongF = false := by
          rw [Bool.eq_false_iff]
          intro hany
          obtain ⟨x, hx, hxx⟩ := List.any_eq_true.1 hany
          obtain ⟨j, hj, rfl⟩ := mem_getD hx
          rw [ha j hj] at hxx; cases hxx
        rw [e] at h
        simpa using (show k (.bool false) [] from h)
  · exact h.1.elim
end Go.Proofs.Ytliipeebknljdaa
