/- Bellows: Run, Given, Fails. -/
import Derived.Test.YtliipeebknljdaaW3
import Derived.Test.YtliipeebknljdaaS3
set_option linter.all false
namespace Go.Proofs.Ytliipeebknljdaa
open Go Go.Vx
set_option maxRecDepth 100000
set_option maxHeartbeats 4000000

def v10 : VF := { ntmps := 47, res := [.tmp 4, .tmp 5], body :=
 (.seq (.region [⟨(some 2), none, .box, [.tm 0]⟩,
  ⟨(some 4), none, .mov, [.cn .nil]⟩,
  ⟨(some 5), none, .mov, [.cn (.int .i64 0)]⟩])
 (.seq (.seq (.region [⟨(some 11), none, (.load true 5), [.tm 2]⟩,
  ⟨(some 12), none, .mov, [.tm 1]⟩,
  ⟨(some 13), none, (.call 27), [.tm 11, .tm 12]⟩,
  ⟨(some 6), none, .mov, [.tm 13]⟩])
 (.seq (.region [⟨(some 14), none, .mov, [.tm 6]⟩,
  ⟨(some 15), none, (.cmp .neq), [.tm 14, .cn (.int .i64 0)]⟩])
 (.cond (.tm 15) (.seq (.region [⟨(some 16), none, .mov, [.tm 6]⟩,
  ⟨(some 4), none, .mov, [.cn .nil]⟩,
  ⟨(some 5), none, .mov, [.tm 16]⟩])
 .ret)
  .skip)))
 (.seq (.region [⟨(some 17), none, .mov, [.tm 1]⟩,
  ⟨(some 18), none, .len, [.tm 17]⟩,
  ⟨(some 19), none, (.make 2 16 [(.int .i64 0), (.int .i64 0)]), [.tm 18, .tm 18]⟩,
  ⟨(some 7), none, .mov, [.tm 19]⟩])
 (.seq (.draw [] [⟨⟨(some 20), none, (.load true 5), [.tm 2]⟩, []⟩,
  ⟨⟨(some 22), none, .mov, [.tm 1]⟩, []⟩,
  ⟨⟨(some 24), none, (.load true 5), [.tm 2]⟩, []⟩,
  ⟨⟨(some 26), none, .mov, [.tm 1]⟩, []⟩,
  ⟨⟨(some 21), none, (.call 28), [.tm 20]⟩, []⟩,
  ⟨⟨(some 23), none, (.call 29), [.tm 21, .tm 22]⟩, []⟩,
  ⟨⟨(some 25), none, (.call 30), [.tm 24]⟩, []⟩,
  ⟨⟨(some 27), none, (.call 29), [.tm 25, .tm 26]⟩, []⟩,
  ⟨⟨(some 8), none, .mov, [.tm 23]⟩, []⟩,
  ⟨⟨(some 9), none, .mov, [.tm 27]⟩, []⟩])
 (.seq (.seq (.region [⟨(some 28), none, .mov, [.tm 7]⟩,
  ⟨(some 29), none, .len, [.tm 28]⟩,
  ⟨(some 30), none, .mov, [.cn (.int .i64 0)]⟩])
 (.block 0 (.loop (.seq (.region [⟨(some 31), none, (.cmp .lss), [.tm 30, .tm 29]⟩])
 (.seq (.cond (.tm 31) .skip
  (.exit 0))
 (.seq (.block 1 (.seq (.region [⟨(some 32), none, .mov, [.tm 30]⟩,
  ⟨(some 10), none, .mov, [.tm 32]⟩])
 (.draw [] [⟨⟨(some 33), none, .mov, [.tm 7]⟩, []⟩,
  ⟨⟨(some 34), none, .mov, [.tm 10]⟩, []⟩,
  ⟨⟨(some 35), none, .mov, [.tm 8]⟩, []⟩,
  ⟨⟨(some 36), none, .mov, [.tm 10]⟩, []⟩,
  ⟨⟨(some 37), none, (.idxAddr 1), [.tm 35, .tm 36]⟩, []⟩,
  ⟨⟨(some 38), none, (.load false 1), [.tm 37]⟩, []⟩,
  ⟨⟨(some 39), none, .mov, [.tm 9]⟩, []⟩,
  ⟨⟨(some 40), none, .mov, [.tm 10]⟩, []⟩,
  ⟨⟨(some 41), none, (.idxAddr 1), [.tm 39, .tm 40]⟩, []⟩,
  ⟨⟨(some 42), none, (.load false 1), [.tm 41]⟩, []⟩,
  ⟨⟨(some 43), none, (.build [(.int .i64 0), (.int .i64 0)] [(0, 1), (1, 1)]), [.tm 38, .tm 42]⟩, []⟩,
  ⟨⟨(some 44), none, (.idxAddr 2), [.tm 33, .tm 34]⟩, []⟩,
  ⟨⟨none, none, (.store 2), [.tm 44, .tm 43]⟩, []⟩])))
 (.region [⟨(some 45), none, (.ari .add), [.tm 30, .cn (.int .i64 1)]⟩,
  ⟨(some 30), none, .mov, [.tm 45]⟩])))))))
 (.seq (.region [⟨(some 46), none, .mov, [.tm 7]⟩,
  ⟨(some 4), none, .mov, [.tm 46]⟩,
  ⟨(some 5), none, .mov, [.cn (.int .i64 0)]⟩])
 .ret)))))) }
theorem v10_is : vfunc Try.prog Try.f10 = some v10 := by kernel_rfl
def v11 : VF := { ntmps := 66, res := [.tmp 4, .tmp 5], body :=
 (.seq (.region [⟨(some 2), none, .box, [.tm 0]⟩,
  ⟨(some 4), none, .mov, [.cn .nil]⟩,
  ⟨(some 5), none, .mov, [.cn (.int .i64 0)]⟩])
 (.seq (.region [⟨(some 10), none, (.load true 5), [.tm 2]⟩,
  ⟨(some 11), none, .mov, [.tm 1]⟩,
  ⟨(some 12), none, (.call 31), [.tm 10, .tm 11]⟩,
  ⟨(some 6), none, .mov, [.tm 12]⟩])
 (.seq (.seq (.region [⟨(some 13), none, .mov, [.tm 6]⟩,
  ⟨(some 14), none, (.cmp .neq), [.tm 13, .cn (.int .i64 0)]⟩])
 (.cond (.tm 14) (.seq (.region [⟨(some 15), none, .mov, [.tm 6]⟩,
  ⟨(some 4), none, .mov, [.cn .nil]⟩,
  ⟨(some 5), none, .mov, [.tm 15]⟩])
 .ret)
  .skip))
 (.seq (.region [⟨(some 7), none, .mov, [.cn .nil]⟩])
 (.seq (.region [⟨(some 16), none, (.fieldAddr 0), [.tm 2]⟩,
  ⟨(some 17), none, (.load false 1), [.tm 16]⟩,
  ⟨(some 18), none, (.fieldAddr 0), [.tm 2]⟩,
  ⟨(some 19), none, (.load false 1), [.tm 18]⟩,
  ⟨(some 20), none, (.build [(.int .i64 0), (.int .i64 0)] [(0, 1), (1, 1)]), [.tm 17, .tm 19]⟩,
  ⟨(some 8), none, (.alloc [(.int .i64 0), (.int .i64 0)]), []⟩,
  ⟨none, none, (.store 2), [.tm 8, .tm 20]⟩])
 (.seq (.seq (.region [⟨(some 9), none, .mov, [.cn (.int .i64 0)]⟩])
 (.block 0 (.loop (.seq (.seq (.region [⟨(some 21), none, .mov, [.tm 9]⟩,
  ⟨(some 22), none, .mov, [.tm 1]⟩,
  ⟨(some 23), none, .len, [.tm 22]⟩,
  ⟨(some 24), none, (.cmp .lss), [.tm 21, .tm 23]⟩])
 (.cond (.tm 24) .skip
  (.exit 0)))
 (.seq (.block 1 (.seq (.draw [] [⟨⟨(some 28), none, (.load true 5), [.tm 2]⟩, []⟩,
  ⟨⟨(some 29), none, (.fieldAddr 0), [.tm 8]⟩, []⟩,
  ⟨⟨(some 30), none, (.load false 1), [.tm 29]⟩, []⟩,
  ⟨⟨(some 31), none, (.fieldAddr 3), [.tm 2]⟩, []⟩,
  ⟨⟨(some 32), none, (.fieldAddr 0), [.tm 31]⟩, []⟩,
  ⟨⟨(some 33), none, (.load false 1), [.tm 32]⟩, []⟩,
  ⟨⟨(some 34), none, .mov, [.tm 1]⟩, []⟩,
  ⟨⟨(some 35), none, .mov, [.tm 9]⟩, []⟩,
  ⟨⟨(some 36), none, (.idxAddr 2), [.tm 34, .tm 35]⟩, []⟩,
  ⟨⟨(some 37), none, (.fieldAddr 1), [.tm 36]⟩, []⟩,
  ⟨⟨(some 38), none, (.load false 1), [.tm 37]⟩, []⟩,
  ⟨⟨(some 39), none, (.call 23), [.tm 28, .tm 30, .tm 33, .tm 38]⟩, []⟩,
  ⟨⟨(some 27), none, .mov, [.tm 39]⟩, []⟩,
  ⟨⟨(some 40), none, (.ext 0), [.tm 27]⟩, []⟩,
  ⟨⟨(some 41), none, (.ext 1), [.tm 27]⟩, []⟩,
  ⟨⟨(some 42), none, (.ext 2), [.tm 27]⟩, []⟩,
  ⟨⟨(some 43), none, (.fieldAddr 0), [.tm 8]⟩, []⟩,
  ⟨⟨none, none, (.store 1), [.tm 43, .tm 40]⟩, []⟩])
 (.seq (.draw [] [⟨⟨(some 45), none, (.load true 5), [.tm 2]⟩, []⟩,
  ⟨⟨(some 46), none, (.fieldAddr 1), [.tm 8]⟩, []⟩,
  ⟨⟨(some 47), none, (.load false 1), [.tm 46]⟩, []⟩,
  ⟨⟨(some 48), none, (.fieldAddr 3), [.tm 2]⟩, []⟩,
  ⟨⟨(some 49), none, (.fieldAddr 1), [.tm 48]⟩, []⟩,
  ⟨⟨(some 50), none, (.load false 1), [.tm 49]⟩, []⟩,
  ⟨⟨(some 51), none, .mov, [.tm 1]⟩, []⟩,
  ⟨⟨(some 52), none, .mov, [.tm 9]⟩, []⟩,
  ⟨⟨(some 53), none, (.idxAddr 2), [.tm 51, .tm 52]⟩, []⟩,
  ⟨⟨(some 54), none, (.fieldAddr 0), [.tm 53]⟩, []⟩,
  ⟨⟨(some 55), none, (.load false 1), [.tm 54]⟩, []⟩,
  ⟨⟨(some 56), none, (.call 23), [.tm 45, .tm 47, .tm 50, .tm 55]⟩, []⟩,
  ⟨⟨(some 44), none, .mov, [.tm 56]⟩, []⟩,
  ⟨⟨(some 57), none, (.ext 0), [.tm 44]⟩, []⟩,
  ⟨⟨(some 58), none, (.ext 1), [.tm 44]⟩, []⟩,
  ⟨⟨(some 59), none, (.ext 2), [.tm 44]⟩, []⟩,
  ⟨⟨(some 60), none, (.fieldAddr 1), [.tm 8]⟩, []⟩,
  ⟨⟨none, none, (.store 1), [.tm 60, .tm 57]⟩, []⟩])
 (.region [⟨(some 61), none, .mov, [.tm 7]⟩,
  ⟨(some 62), none, (.load true 2), [.tm 8]⟩,
  ⟨(some 63), none, (.buildSlice 2 1 [(.int .i64 0), (.int .i64 0)] [(0, 2)]), [.tm 62]⟩,
  ⟨(some 64), none, (.append 2 16 [(.int .i64 0), (.int .i64 0)]), [.tm 61, .tm 63]⟩,
  ⟨(some 7), none, .mov, [.tm 64]⟩]))))
 (.region [⟨(some 25), none, .mov, [.tm 9]⟩,
  ⟨(some 26), none, (.ari .add), [.tm 25, .cn (.int .i64 1)]⟩,
  ⟨(some 9), none, .mov, [.tm 26]⟩]))))))
 (.seq (.region [⟨(some 65), none, .mov, [.tm 7]⟩,
  ⟨(some 4), none, .mov, [.tm 65]⟩,
  ⟨(some 5), none, .mov, [.cn (.int .i64 0)]⟩])
 .ret))))))) }
theorem v11_is : vfunc Try.prog Try.f11 = some v11 := by kernel_rfl
def v12 : VF := { ntmps := 70, res := [.tmp 4, .tmp 5], body :=
 (.seq (.region [⟨(some 2), none, .box, [.tm 0]⟩,
  ⟨(some 4), none, .mov, [.cn .nil]⟩,
  ⟨(some 5), none, .mov, [.cn (.int .i64 0)]⟩])
 (.seq (.seq (.region [⟨(some 14), none, (.load true 5), [.tm 2]⟩,
  ⟨(some 15), none, .mov, [.tm 1]⟩,
  ⟨(some 16), none, (.call 27), [.tm 14, .tm 15]⟩,
  ⟨(some 6), none, .mov, [.tm 16]⟩])
 (.seq (.region [⟨(some 17), none, .mov, [.tm 6]⟩,
  ⟨(some 18), none, (.cmp .neq), [.tm 17, .cn (.int .i64 0)]⟩])
 (.cond (.tm 18) (.seq (.region [⟨(some 19), none, .mov, [.tm 6]⟩,
  ⟨(some 4), none, .mov, [.cn .nil]⟩,
  ⟨(some 5), none, .mov, [.tm 19]⟩])
 .ret)
  .skip)))
 (.seq (.region [⟨(some 20), none, .mov, [.tm 1]⟩,
  ⟨(some 21), none, .len, [.tm 20]⟩,
  ⟨(some 22), none, (.make 2 16 [(.int .i64 0), (.int .i64 0)]), [.tm 21, .tm 21]⟩,
  ⟨(some 7), none, .mov, [.tm 22]⟩])
 (.seq (.draw [(8, [(.int .i64 0), (.int .i64 0), (.int .i64 0), (.int .i64 0), (.int .i64 0), (.int .i64 0), (.val .nilFunc)]), (9, [(.int .i64 0), (.int .i64 0), (.int .i64 0), (.int .i64 0), (.int .i64 0), (.int .i64 0), (.val .nilFunc)])] [⟨⟨(some 23), none, (.load true 5), [.tm 2]⟩, []⟩,
  ⟨⟨(some 25), none, (.load true 5), [.tm 2]⟩, []⟩,
  ⟨⟨(some 24), none, (.call 28), [.tm 23]⟩, []⟩,
  ⟨⟨(some 26), none, (.call 30), [.tm 25]⟩, []⟩,
  ⟨⟨none, none, (.store 7), [.tm 8, .tm 24]⟩, []⟩,
  ⟨⟨none, none, (.store 7), [.tm 9, .tm 26]⟩, []⟩])
 (.seq (.draw [] [⟨⟨(some 27), none, (.fieldAddr 0), [.tm 2]⟩, []⟩,
  ⟨⟨(some 28), none, (.load false 1), [.tm 27]⟩, []⟩,
  ⟨⟨(some 29), none, (.fieldAddr 0), [.tm 2]⟩, []⟩,
  ⟨⟨(some 30), none, (.load false 1), [.tm 29]⟩, []⟩,
  ⟨⟨(some 10), none, .mov, [.tm 28]⟩, []⟩,
  ⟨⟨(some 11), none, .mov, [.tm 30]⟩, []⟩])
 (.seq (.seq (.region [⟨(some 31), none, .mov, [.tm 1]⟩,
  ⟨(some 32), none, .len, [.tm 31]⟩,
  ⟨(some 33), none, .mov, [.cn (.int .i64 0)]⟩])
 (.block 0 (.loop (.seq (.region [⟨(some 34), none, (.cmp .lss), [.tm 33, .tm 32]⟩])
 (.seq (.cond (.tm 34) .skip
  (.exit 0))
 (.seq (.block 1 (.seq (.region [⟨(some 35), none, .mov, [.tm 33]⟩,
  ⟨(some 36), none, (.idxAddr 2), [.tm 31, .tm 33]⟩,
  ⟨(some 37), none, (.load true 2), [.tm 36]⟩,
  ⟨(some 13), none, (.alloc [(.int .i64 0), (.int .i64 0)]), []⟩,
  ⟨(some 12), none, .mov, [.tm 35]⟩,
  ⟨none, none, (.store 2), [.tm 13, .tm 37]⟩])
 (.seq (.draw [] [⟨⟨(some 38), none, .mov, [.tm 7]⟩, []⟩,
  ⟨⟨(some 39), none, .mov, [.tm 12]⟩, []⟩,
  ⟨⟨(some 40), none, (.load true 7), [.tm 8]⟩, []⟩,
  ⟨⟨(some 41), none, .mov, [.tm 10]⟩, []⟩,
  ⟨⟨(some 43), none, (.fieldAddr 0), [.tm 13]⟩, []⟩,
  ⟨⟨(some 44), none, (.load false 1), [.tm 43]⟩, []⟩,
  ⟨⟨(some 46), none, (.load true 7), [.tm 9]⟩, []⟩,
  ⟨⟨(some 47), none, .mov, [.tm 11]⟩, []⟩,
  ⟨⟨(some 49), none, (.fieldAddr 1), [.tm 13]⟩, []⟩,
  ⟨⟨(some 50), none, (.load false 1), [.tm 49]⟩, []⟩,
  ⟨⟨(some 42), none, (.call 32), [.tm 40, .tm 41]⟩, []⟩,
  ⟨⟨(some 45), none, .min, [.tm 42, .tm 44]⟩, []⟩,
  ⟨⟨(some 48), none, (.call 32), [.tm 46, .tm 47]⟩, []⟩,
  ⟨⟨(some 51), none, .min, [.tm 48, .tm 50]⟩, []⟩,
  ⟨⟨(some 52), none, (.build [(.int .i64 0), (.int .i64 0)] [(0, 1), (1, 1)]), [.tm 45, .tm 51]⟩, []⟩,
  ⟨⟨(some 53), none, (.idxAddr 2), [.tm 38, .tm 39]⟩, []⟩,
  ⟨⟨none, none, (.store 2), [.tm 53, .tm 52]⟩, []⟩])
 (.draw [] [⟨⟨(some 54), none, (.load true 7), [.tm 8]⟩, []⟩,
  ⟨⟨(some 55), none, .mov, [.tm 10]⟩, []⟩,
  ⟨⟨(some 57), none, (.fieldAddr 1), [.tm 13]⟩, []⟩,
  ⟨⟨(some 58), none, (.load false 1), [.tm 57]⟩, []⟩,
  ⟨⟨(some 61), none, (.load true 7), [.tm 9]⟩, []⟩,
  ⟨⟨(some 62), none, .mov, [.tm 11]⟩, []⟩,
  ⟨⟨(some 64), none, (.fieldAddr 0), [.tm 13]⟩, []⟩,
  ⟨⟨(some 65), none, (.load false 1), [.tm 64]⟩, []⟩,
  ⟨⟨(some 56), none, (.call 32), [.tm 54, .tm 55]⟩, []⟩,
  ⟨⟨(some 59), none, (.ari .sub), [.tm 56, .tm 58]⟩, []⟩,
  ⟨⟨(some 60), none, .max, [.tm 59, .cn (.int .i64 0)]⟩, []⟩,
  ⟨⟨(some 63), none, (.call 32), [.tm 61, .tm 62]⟩, []⟩,
  ⟨⟨(some 66), none, (.ari .sub), [.tm 63, .tm 65]⟩, []⟩,
  ⟨⟨(some 67), none, .max, [.tm 66, .cn (.int .i64 0)]⟩, []⟩,
  ⟨⟨(some 10), none, .mov, [.tm 60]⟩, []⟩,
  ⟨⟨(some 11), none, .mov, [.tm 67]⟩, []⟩]))))
 (.region [⟨(some 68), none, (.ari .add), [.tm 33, .cn (.int .i64 1)]⟩,
  ⟨(some 33), none, .mov, [.tm 68]⟩])))))))
 (.seq (.region [⟨(some 69), none, .mov, [.tm 7]⟩,
  ⟨(some 4), none, .mov, [.tm 69]⟩,
  ⟨(some 5), none, .mov, [.cn (.int .i64 0)]⟩])
 .ret))))))) }
theorem v12_is : vfunc Try.prog Try.f12 = some v12 := by kernel_rfl
def v13 : VF := { ntmps := 80, res := [.tmp 4, .tmp 5], body :=
 (.seq (.region [⟨(some 2), none, .box, [.tm 0]⟩,
  ⟨(some 4), none, .mov, [.cn .nil]⟩,
  ⟨(some 5), none, .mov, [.cn (.int .i64 0)]⟩])
 (.seq (.region [⟨(some 18), none, (.load true 5), [.tm 2]⟩,
  ⟨(some 19), none, .mov, [.tm 1]⟩,
  ⟨(some 20), none, (.call 11), [.tm 18, .tm 19]⟩,
  ⟨(some 17), none, .mov, [.tm 20]⟩,
  ⟨(some 21), none, (.ext 0), [.tm 17]⟩,
  ⟨(some 22), none, (.ext 1), [.tm 17]⟩,
  ⟨(some 6), none, .mov, [.tm 21]⟩,
  ⟨(some 7), none, .mov, [.tm 22]⟩])
 (.seq (.seq (.region [⟨(some 23), none, .mov, [.tm 7]⟩,
  ⟨(some 24), none, (.cmp .neq), [.tm 23, .cn (.int .i64 0)]⟩])
 (.cond (.tm 24) (.seq (.region [⟨(some 25), none, .mov, [.tm 7]⟩,
  ⟨(some 4), none, .mov, [.cn .nil]⟩,
  ⟨(some 5), none, .mov, [.tm 25]⟩])
 .ret)
  .skip))
 (.seq (.region [⟨(some 8), none, .mov, [.cn .nil]⟩])
 (.seq (.region [⟨(some 26), none, (.fieldAddr 0), [.tm 2]⟩,
  ⟨(some 27), none, (.load false 1), [.tm 26]⟩,
  ⟨(some 28), none, (.fieldAddr 0), [.tm 2]⟩,
  ⟨(some 29), none, (.load false 1), [.tm 28]⟩,
  ⟨(some 30), none, (.build [(.int .i64 0), (.int .i64 0)] [(0, 1), (1, 1)]), [.tm 27, .tm 29]⟩,
  ⟨(some 9), none, (.alloc [(.int .i64 0), (.int .i64 0)]), []⟩,
  ⟨none, none, (.store 2), [.tm 9, .tm 30]⟩])
 (.seq (.seq (.region [⟨(some 10), none, .mov, [.cn (.int .i64 0)]⟩])
 (.block 0 (.loop (.seq (.seq (.region [⟨(some 31), none, .mov, [.tm 10]⟩,
  ⟨(some 32), none, .mov, [.tm 1]⟩,
  ⟨(some 33), none, .len, [.tm 32]⟩,
  ⟨(some 34), none, (.cmp .lss), [.tm 31, .tm 33]⟩])
 (.cond (.tm 34) .skip
  (.exit 0)))
 (.seq (.block 1 (.seq (.draw [] [⟨⟨(some 38), none, (.load true 5), [.tm 2]⟩, []⟩,
  ⟨⟨(some 39), none, (.fieldAddr 0), [.tm 9]⟩, []⟩,
  ⟨⟨(some 40), none, (.load false 1), [.tm 39]⟩, []⟩,
  ⟨⟨(some 41), none, (.fieldAddr 3), [.tm 2]⟩, []⟩,
  ⟨⟨(some 42), none, (.fieldAddr 0), [.tm 41]⟩, []⟩,
  ⟨⟨(some 43), none, (.load false 1), [.tm 42]⟩, []⟩,
  ⟨⟨(some 44), none, .mov, [.tm 1]⟩, []⟩,
  ⟨⟨(some 45), none, .mov, [.tm 10]⟩, []⟩,
  ⟨⟨(some 46), none, (.idxAddr 2), [.tm 44, .tm 45]⟩, []⟩,
  ⟨⟨(some 47), none, (.fieldAddr 0), [.tm 46]⟩, []⟩,
  ⟨⟨(some 48), none, (.load false 1), [.tm 47]⟩, []⟩,
  ⟨⟨(some 49), none, (.call 23), [.tm 38, .tm 40, .tm 43, .tm 48]⟩, []⟩,
  ⟨⟨(some 37), none, .mov, [.tm 49]⟩, []⟩,
  ⟨⟨(some 50), none, (.ext 0), [.tm 37]⟩, []⟩,
  ⟨⟨(some 51), none, (.ext 1), [.tm 37]⟩, []⟩,
  ⟨⟨(some 52), none, (.ext 2), [.tm 37]⟩, []⟩,
  ⟨⟨(some 11), none, .mov, [.tm 50]⟩, []⟩,
  ⟨⟨(some 12), none, .mov, [.tm 51]⟩, []⟩,
  ⟨⟨(some 13), none, .mov, [.tm 52]⟩, []⟩])
 (.seq (.draw [] [⟨⟨(some 54), none, (.load true 5), [.tm 2]⟩, []⟩,
  ⟨⟨(some 55), none, (.fieldAddr 1), [.tm 9]⟩, []⟩,
  ⟨⟨(some 56), none, (.load false 1), [.tm 55]⟩, []⟩,
  ⟨⟨(some 57), none, (.fieldAddr 3), [.tm 2]⟩, []⟩,
  ⟨⟨(some 58), none, (.fieldAddr 1), [.tm 57]⟩, []⟩,
  ⟨⟨(some 59), none, (.load false 1), [.tm 58]⟩, []⟩,
  ⟨⟨(some 60), none, .mov, [.tm 1]⟩, []⟩,
  ⟨⟨(some 61), none, .mov, [.tm 10]⟩, []⟩,
  ⟨⟨(some 62), none, (.idxAddr 2), [.tm 60, .tm 61]⟩, []⟩,
  ⟨⟨(some 63), none, (.fieldAddr 1), [.tm 62]⟩, []⟩,
  ⟨⟨(some 64), none, (.load false 1), [.tm 63]⟩, []⟩,
  ⟨⟨(some 65), none, (.call 23), [.tm 54, .tm 56, .tm 59, .tm 64]⟩, []⟩,
  ⟨⟨(some 53), none, .mov, [.tm 65]⟩, []⟩,
  ⟨⟨(some 66), none, (.ext 0), [.tm 53]⟩, []⟩,
  ⟨⟨(some 67), none, (.ext 1), [.tm 53]⟩, []⟩,
  ⟨⟨(some 68), none, (.ext 2), [.tm 53]⟩, []⟩,
  ⟨⟨(some 14), none, .mov, [.tm 66]⟩, []⟩,
  ⟨⟨(some 15), none, .mov, [.tm 67]⟩, []⟩,
  ⟨⟨(some 16), none, .mov, [.tm 68]⟩, []⟩])
 (.seq (.region [⟨(some 69), none, .mov, [.tm 8]⟩,
  ⟨(some 70), none, .mov, [.tm 12]⟩,
  ⟨(some 71), none, .mov, [.tm 15]⟩,
  ⟨(some 72), none, (.build [(.int .i64 0), (.int .i64 0)] [(0, 1), (1, 1)]), [.tm 70, .tm 71]⟩,
  ⟨(some 73), none, (.buildSlice 2 1 [(.int .i64 0), (.int .i64 0)] [(0, 2)]), [.tm 72]⟩,
  ⟨(some 74), none, (.append 2 16 [(.int .i64 0), (.int .i64 0)]), [.tm 69, .tm 73]⟩,
  ⟨(some 8), none, .mov, [.tm 74]⟩])
 (.region [⟨(some 75), none, .mov, [.tm 6]⟩,
  ⟨(some 76), none, .mov, [.tm 10]⟩,
  ⟨(some 77), none, (.idxAddr 2), [.tm 75, .tm 76]⟩,
  ⟨(some 78), none, (.load true 2), [.tm 77]⟩,
  ⟨none, none, (.store 2), [.tm 9, .tm 78]⟩])))))
 (.region [⟨(some 35), none, .mov, [.tm 10]⟩,
  ⟨(some 36), none, (.ari .add), [.tm 35, .cn (.int .i64 1)]⟩,
  ⟨(some 10), none, .mov, [.tm 36]⟩]))))))
 (.seq (.region [⟨(some 79), none, .mov, [.tm 8]⟩,
  ⟨(some 4), none, .mov, [.tm 79]⟩,
  ⟨(some 5), none, .mov, [.cn (.int .i64 0)]⟩])
 .ret))))))) }
theorem v13_is : vfunc Try.prog Try.f13 = some v13 := by kernel_rfl
def v14 : VF := { ntmps := 22, res := [.tmp 4, .tmp 5, .tmp 6], body :=
 (.seq (.region [⟨(some 2), none, .box, [.tm 0]⟩,
  ⟨(some 4), none, .mov, [.cn (.int .i64 0)]⟩,
  ⟨(some 5), none, .mov, [.cn (.int .i64 0)]⟩,
  ⟨(some 6), none, .mov, [.cn (.int .i64 0)]⟩])
 (.seq (.seq (.region [⟨(some 8), none, (.load true 5), [.tm 2]⟩,
  ⟨(some 9), none, .mov, [.tm 1]⟩,
  ⟨(some 10), none, (.call 27), [.tm 8, .tm 9]⟩,
  ⟨(some 7), none, .mov, [.tm 10]⟩])
 (.seq (.region [⟨(some 11), none, .mov, [.tm 7]⟩,
  ⟨(some 12), none, (.cmp .neq), [.tm 11, .cn (.int .i64 0)]⟩])
 (.cond (.tm 12) (.seq (.region [⟨(some 13), none, .mov, [.tm 7]⟩,
  ⟨(some 4), none, .mov, [.cn (.int .i64 0)]⟩,
  ⟨(some 5), none, .mov, [.cn (.int .i64 0)]⟩,
  ⟨(some 6), none, .mov, [.tm 13]⟩])
 .ret)
  .skip)))
 (.seq (.draw [] [⟨⟨(some 14), none, (.load true 5), [.tm 2]⟩, []⟩,
  ⟨⟨(some 16), none, .mov, [.tm 1]⟩, []⟩,
  ⟨⟨(some 18), none, (.load true 5), [.tm 2]⟩, []⟩,
  ⟨⟨(some 20), none, .mov, [.tm 1]⟩, []⟩,
  ⟨⟨(some 15), none, (.call 28), [.tm 14]⟩, []⟩,
  ⟨⟨(some 17), none, (.call 33), [.tm 15, .tm 16]⟩, []⟩,
  ⟨⟨(some 19), none, (.call 30), [.tm 18]⟩, []⟩,
  ⟨⟨(some 21), none, (.call 33), [.tm 19, .tm 20]⟩, []⟩,
  ⟨⟨(some 4), none, .mov, [.tm 17]⟩, []⟩,
  ⟨⟨(some 5), none, .mov, [.tm 21]⟩, []⟩,
  ⟨⟨(some 6), none, .mov, [.cn (.int .i64 0)]⟩, []⟩])
 .ret))) }
theorem v14_is : vfunc Try.prog Try.f14 = some v14 := by kernel_rfl
def v15 : VF := { ntmps := 81, res := [.tmp 4, .tmp 5, .tmp 6], body :=
 (.seq (.region [⟨(some 2), none, .box, [.tm 0]⟩,
  ⟨(some 4), none, .mov, [.cn (.int .i64 0)]⟩,
  ⟨(some 5), none, .mov, [.cn (.int .i64 0)]⟩,
  ⟨(some 6), none, .mov, [.cn (.int .i64 0)]⟩])
 (.seq (.region [⟨(some 19), none, (.load true 5), [.tm 2]⟩,
  ⟨(some 20), none, .mov, [.tm 1]⟩,
  ⟨(some 21), none, (.call 31), [.tm 19, .tm 20]⟩,
  ⟨(some 7), none, .mov, [.tm 21]⟩])
 (.seq (.seq (.region [⟨(some 22), none, .mov, [.tm 7]⟩,
  ⟨(some 23), none, (.cmp .neq), [.tm 22, .cn (.int .i64 0)]⟩])
 (.cond (.tm 23) (.seq (.region [⟨(some 24), none, .mov, [.tm 7]⟩,
  ⟨(some 4), none, .mov, [.cn (.int .i64 0)]⟩,
  ⟨(some 5), none, .mov, [.cn (.int .i64 0)]⟩,
  ⟨(some 6), none, .mov, [.tm 24]⟩])
 .ret)
  .skip))
 (.seq (.region [⟨(some 8), none, .mov, [.cn (.int .i64 (-1))]⟩,
  ⟨(some 9), none, .mov, [.cn (.int .i64 (-1))]⟩])
 (.seq (.draw [] [⟨⟨(some 25), none, (.fieldAddr 0), [.tm 2]⟩, []⟩,
  ⟨⟨(some 26), none, (.load false 1), [.tm 25]⟩, []⟩,
  ⟨⟨(some 27), none, (.fieldAddr 0), [.tm 2]⟩, []⟩,
  ⟨⟨(some 28), none, (.load false 1), [.tm 27]⟩, []⟩,
  ⟨⟨(some 10), none, .mov, [.tm 26]⟩, []⟩,
  ⟨⟨(some 11), none, .mov, [.tm 28]⟩, []⟩])
 (.seq (.seq (.region [⟨(some 12), none, .mov, [.cn (.int .i64 0)]⟩])
 (.block 0 (.loop (.seq (.seq (.region [⟨(some 29), none, .mov, [.tm 12]⟩,
  ⟨(some 30), none, .mov, [.tm 1]⟩,
  ⟨(some 31), none, .len, [.tm 30]⟩,
  ⟨(some 32), none, (.cmp .lss), [.tm 29, .tm 31]⟩])
 (.cond (.tm 32) .skip
  (.exit 0)))
 (.seq (.block 1 (.seq (.draw [] [⟨⟨(some 36), none, (.load true 5), [.tm 2]⟩, []⟩,
  ⟨⟨(some 37), none, .mov, [.tm 10]⟩, []⟩,
  ⟨⟨(some 38), none, (.fieldAddr 3), [.tm 2]⟩, []⟩,
  ⟨⟨(some 39), none, (.fieldAddr 0), [.tm 38]⟩, []⟩,
  ⟨⟨(some 40), none, (.load false 1), [.tm 39]⟩, []⟩,
  ⟨⟨(some 41), none, .mov, [.tm 1]⟩, []⟩,
  ⟨⟨(some 42), none, .mov, [.tm 12]⟩, []⟩,
  ⟨⟨(some 43), none, (.idxAddr 2), [.tm 41, .tm 42]⟩, []⟩,
  ⟨⟨(some 44), none, (.fieldAddr 1), [.tm 43]⟩, []⟩,
  ⟨⟨(some 45), none, (.load false 1), [.tm 44]⟩, []⟩,
  ⟨⟨(some 46), none, (.call 23), [.tm 36, .tm 37, .tm 40, .tm 45]⟩, []⟩,
  ⟨⟨(some 35), none, .mov, [.tm 46]⟩, []⟩,
  ⟨⟨(some 47), none, (.ext 0), [.tm 35]⟩, []⟩,
  ⟨⟨(some 48), none, (.ext 1), [.tm 35]⟩, []⟩,
  ⟨⟨(some 49), none, (.ext 2), [.tm 35]⟩, []⟩,
  ⟨⟨(some 13), none, .mov, [.tm 47]⟩, []⟩,
  ⟨⟨(some 14), none, .mov, [.tm 48]⟩, []⟩,
  ⟨⟨(some 15), none, .mov, [.tm 49]⟩, []⟩])
 (.seq (.draw [] [⟨⟨(some 51), none, (.load true 5), [.tm 2]⟩, []⟩,
  ⟨⟨(some 52), none, .mov, [.tm 11]⟩, []⟩,
  ⟨⟨(some 53), none, (.fieldAddr 3), [.tm 2]⟩, []⟩,
  ⟨⟨(some 54), none, (.fieldAddr 1), [.tm 53]⟩, []⟩,
  ⟨⟨(some 55), none, (.load false 1), [.tm 54]⟩, []⟩,
  ⟨⟨(some 56), none, .mov, [.tm 1]⟩, []⟩,
  ⟨⟨(some 57), none, .mov, [.tm 12]⟩, []⟩,
  ⟨⟨(some 58), none, (.idxAddr 2), [.tm 56, .tm 57]⟩, []⟩,
  ⟨⟨(some 59), none, (.fieldAddr 0), [.tm 58]⟩, []⟩,
  ⟨⟨(some 60), none, (.load false 1), [.tm 59]⟩, []⟩,
  ⟨⟨(some 61), none, (.call 23), [.tm 51, .tm 52, .tm 55, .tm 60]⟩, []⟩,
  ⟨⟨(some 50), none, .mov, [.tm 61]⟩, []⟩,
  ⟨⟨(some 62), none, (.ext 0), [.tm 50]⟩, []⟩,
  ⟨⟨(some 63), none, (.ext 1), [.tm 50]⟩, []⟩,
  ⟨⟨(some 64), none, (.ext 2), [.tm 50]⟩, []⟩,
  ⟨⟨(some 16), none, .mov, [.tm 62]⟩, []⟩,
  ⟨⟨(some 17), none, .mov, [.tm 63]⟩, []⟩,
  ⟨⟨(some 18), none, .mov, [.tm 64]⟩, []⟩])
 (.seq (.seq (.region [⟨(some 65), none, .mov, [.tm 15]⟩,
  ⟨(some 66), none, .mov, [.tm 65]⟩,
  ⟨(some 67), (some (66, true)), .mov, [.tm 8]⟩,
  ⟨(some 68), (some (66, true)), (.cmp .lss), [.tm 67, .cn (.int .i64 0)]⟩,
  ⟨(some 69), none, .and, [.tm 66, .tm 68]⟩])
 (.cond (.tm 69) (.region [⟨(some 70), none, .mov, [.tm 12]⟩,
  ⟨(some 8), none, .mov, [.tm 70]⟩])
  .skip))
 (.seq (.seq (.region [⟨(some 71), none, .mov, [.tm 18]⟩,
  ⟨(some 72), none, .mov, [.tm 71]⟩,
  ⟨(some 73), (some (72, true)), .mov, [.tm 9]⟩,
  ⟨(some 74), (some (72, true)), (.cmp .lss), [.tm 73, .cn (.int .i64 0)]⟩,
  ⟨(some 75), none, .and, [.tm 72, .tm 74]⟩])
 (.cond (.tm 75) (.region [⟨(some 76), none, .mov, [.tm 12]⟩,
  ⟨(some 9), none, .mov, [.tm 76]⟩])
  .skip))
 (.region [⟨(some 77), none, .mov, [.tm 13]⟩,
  ⟨(some 78), none, .mov, [.tm 16]⟩,
  ⟨(some 10), none, .mov, [.tm 77]⟩,
  ⟨(some 11), none, .mov, [.tm 78]⟩]))))))
 (.region [⟨(some 33), none, .mov, [.tm 12]⟩,
  ⟨(some 34), none, (.ari .add), [.tm 33, .cn (.int .i64 1)]⟩,
  ⟨(some 12), none, .mov, [.tm 34]⟩]))))))
 (.seq (.region [⟨(some 79), none, .mov, [.tm 8]⟩,
  ⟨(some 80), none, .mov, [.tm 9]⟩,
  ⟨(some 4), none, .mov, [.tm 79]⟩,
  ⟨(some 5), none, .mov, [.tm 80]⟩,
  ⟨(some 6), none, .mov, [.cn (.int .i64 0)]⟩])
 .ret))))))) }
theorem v15_is : vfunc Try.prog Try.f15 = some v15 := by kernel_rfl


def G1 : Env := { ct := fun n => match n with | 27 => some askC | 31 => some askC | 28 => some worstC | 30 => some bestC | 29 => some volsC | 33 => some failC | 23 => some tickC | 32 => some hasC | _ => none, fn := fun _ => none, meth := fun _ _ => none }
theorem G1_ct27 : G1.ct 27 = some askC := rfl
theorem G1_ct31 : G1.ct 31 = some askC := rfl
theorem G1_ct28 : G1.ct 28 = some worstC := rfl
theorem G1_ct30 : G1.ct 30 = some bestC := rfl
theorem G1_ct29 : G1.ct 29 = some volsC := rfl
theorem G1_ct33 : G1.ct 33 = some failC := rfl
theorem G1_ct23 : G1.ct 23 = some tickC := rfl
theorem G1_ct32 : G1.ct 32 = some hasC := rfl
theorem G1_ok : EnvOk Try.prog G1 := by
  refine ⟨fun f c h => ?_, fun f vf h => ?_, fun _ _ => rfl, by kernel_rfl⟩
  · simp only [G1] at h
    split at h
    · cases h; exact ⟨ask27, Try.f27, Try.func27, by kernel_rfl, by kernel_rfl⟩
    · cases h; exact ⟨ask31, Try.f31, Try.func31, by kernel_rfl, by kernel_rfl⟩
    · cases h; exact ⟨worst28, Try.f28, Try.func28, by kernel_rfl, by kernel_rfl⟩
    · cases h; exact ⟨best30, Try.f30, Try.func30, by kernel_rfl, by kernel_rfl⟩
    · cases h; exact ⟨vols29, Try.f29, Try.func29, by kernel_rfl, by kernel_rfl⟩
    · cases h; exact ⟨fail33, Try.f33, Try.func33, by kernel_rfl, by kernel_rfl⟩
    · cases h; exact ⟨tick23, Try.f23, Try.func23, by kernel_rfl, by kernel_rfl⟩
    · cases h; exact ⟨has32, Try.f32, Try.func32, by kernel_rfl, by kernel_rfl⟩
    · cases h
  · cases h


def demC (r : Bel → List Iv → SV) : Ctr := { alias := false, of := fun a => match a with
  | [.agg [.int .i64 st, .int .i64 lo, .int .i64 hi, .int .i64 il, .int .i64 ih], .vs _ _ n sz get] => .ex (List Iv) fun l => .pre (lsP 2 enc2 n sz get l ∧ l.length ≤ 9223372036854775807) (.fin (r ⟨st, lo, hi, il, ih⟩ l) [])
  | _ => noC }
def ivsR (z : Bool) (x : List Iv × Int) : SV := .tup [.vs true z x.1.length 2 (fun k => enc2 (x.1.getD k default)), .int .i64 x.2]
def runC : Ctr := demC fun b l => ivsR (decide ((runF b l).2 ≠ 0)) (runF b l)
def givC : Ctr := demC fun b l => ivsR (decide ((givF b l).2 ≠ 0)) (givF b l)
def rrunC : Ctr := demC fun b l => ivsR (decide ((runF b l).1.length = 0)) (runF b l)
def rgivC : Ctr := demC fun b l => ivsR (decide ((givF b l).1.length = 0)) (givF b l)
def failsC : Ctr := demC fun b l => .tup [.int .i64 (failsF b l).1, .int .i64 (failsF b l).2.1, .int .i64 (failsF b l).2.2]

theorem tick_vol {b : Bel} {n v : Int} {w : Bool} {l : List Iv} {i : Nat} (h : Fit b n) (h0 : 0 ≤ v) (h1 : v ≤ b.hi) (hl : ∀ i, i < l.length → 0 ≤ (l.getD i default).1 ∧ (l.getD i default).1 ≤ (l.getD i default).2 ∧ (l.getD i default).2 ≤ 4000000000) (hi : i < l.length) :
    tickF b (volAt b n w (l.take i) v) n (side w (l.getD i default)) = (volAt b n w (l.take (i + 1)) v, min (hasF b n (volAt b n w (l.take i) v)) (side w (l.getD i default)), failAt b n w l v i) := by
  obtain ⟨a1, a2⟩ := vol_ok (w := w) h h0 h1 hl i (by omega)
  obtain ⟨s1, s2⟩ := side_ok (w := w) (hl i hi)
  rw [tickF, tick_eq h a1 a2 s1 s2, vol_succ hi]
  rfl

theorem run10 : runC.ok Try.prog 10 := by
  refine contract Try.func10 v10_is G1_ok 800 runC fun args k h => ?_
  simp only [runC, demC, ivsR] at h
  split at h
  · rename_i st lo hi il ih tt z n sz get
    obtain ⟨l, ⟨⟨rfl, rfl, hg⟩, hmax⟩, h⟩ := h
    refine ⟨[.agg [.int .i64 st, .int .i64 lo, .int .i64 hi, .int .i64 il, .int .i64 ih], .vs tt z l.length 2 (fun k => enc2 (l.getD k default))], by simpa [leL, le] using hg, ?_⟩
    dsimp only [v10, G1_ct27, askC, G1_ct28, worstC, G1_ct30, bestC, crsC, G1_ct29, volsC, crsP, enc1, enc2, r_end, r_end1, r_nil, r_op, r_opg, r_runOp, r_op0, r_yld0, r_yld1, r_y, r_rbeg, r_rend, r_rend1, r_rfrm, r_rfrm1, r_range, r_rangeK, r_rangeE, r_draw, r_dnil, r_dop, r_dopg, r_dplq, r_dplh, r_dq, r_dq0, r_dcl1, r_dcl0, r_dct1, r_dct0, r_dgd, r_dgq1, r_dgq0, r_dctG, r_op1, r_eff, r_eff0, r_call, r_call0, r_inl, r_g, r_gq, r_gc, r_effg, r_effg0, r_callg, r_callg0, r_fin, r_pre, r_imp, r_all, r_ex, r_fing, r_preg, r_exg, r_inBlock, r_inLoop, r_frame, r_frame1, r_skip, r_region, r_seq, r_cond, r_cond1, r_block, r_exit, r_exit1, r_exit2, r_ret, r_loop, s_args0, s_args1, s_xt, s_xc, padL, blankL, callee, callArgs, eff, ctOf, getL, setL, S.put, S.upd, unopts, unopt, unoptsO, unoptsB, lazyO, guardOf, gbool, eMov, eNot, eNeg, eConv, eExt, eLenArr, eLen, eLenStr, eEqb, eEqv, allEq, eNil, negIf, eBool2, eCmp, eAri, ari, eBit, eDiv, eSh, eMinMax, foldMin, foldMax, kEq, pure1, cmpB, VO.quiet, resVals, resVal, tupled, popRet, popTo, cond, Option.bind, Option.map, eNew, eBox, asCells, lenH, snocH, eFieldAddr, eField, eLoad, cellsAt, getH, setH, dropL, takeL, mkAgg, lenL, lenS, shift, shiftL, shiftH, viewN, viewL, view, andT, junks, List.append_nil, Nat.beq, eIdxAddr, eIdxArr, eIndex, eStore, storeAt, spliceL, ones, one, eSlice, eSliceArr, bounds, subLo, addLo, eMake, eAppend, readS, repL, buildCells, chunk, purgeL, purgeLL, purgeH, purge, refs, refsL, List.cons_append, List.nil_append, wrOps, wrAl, wrDops, wrC, junkAt, putAll, putHs, headOf, headK, keepG, List.append_eq, headX, chkP, apartP, apartB, blk, strip, runAl, yld, putPs, lenN, findR, notRound, jumpK, jumpPT, jcode, List.map_cons, List.map_nil, ite_self, reduceIte]
    simp only [true_and, and_true, imp_self, implies_true, decide_eq_true_eq, decide_eq_false_iff_not, Nat.reduceAdd, Nat.reduceLeDiff, Bool.not_not, reduceCtorEq, false_imp_iff, Bool.not_eq_true', Bool.not_eq_false', Bool.false_eq_true, and_self, forall_const, ne_eq, not_false_eq_true, Nat.reduceEqDiff]
    refine ⟨l, ⟨lsP_self, hmax⟩, fun he => ?_, fun he => ?_⟩
    · have hr : runF ⟨st, lo, hi, il, ih⟩ l = ([], askF ⟨st, lo, hi, il, ih⟩ l) := by rw [runF, if_pos he]
      rw [hr] at h
      refine ans_le (show k _ [] from h) ?_ ?_
      · simp [expo, view, viewL, le, leL, he]
      · simp [freshS, freshL]
    · obtain ⟨hb, h1000, hd⟩ := ask_ok he
      have hne := fit_ne (fit_il hb)
      refine ⟨⟨by decide, by omega, by omega, by simp only [capOk]; omega⟩, true, l, ⟨rfl, lsP_self, h1000, hne⟩, false, l, ⟨rfl, lsP_self, h1000, hne⟩, ?_⟩
      refine Loop.keep [1, 0, 4, 0, 0, 19, 0] Nat (fun i => [(30, .int .i64 i)]) (fun i => [(1, .own false 2 l.length (fun k => enc2 (if k < i then (runL ⟨st, lo, hi, il, ih⟩ l).getD k default else (0, 0))))]) [] (fun i => i ≤ l.length) (fun i => l.length - i) ?_ ?_
      · refine ⟨0, Nat.zero_le _, ?_⟩
        dsimp only [enc2, r_end, r_end1, r_nil, r_op, r_opg, r_runOp, r_op0, r_yld0, r_yld1, r_y, r_rbeg, r_rend, r_rend1, r_rfrm, r_rfrm1, r_range, r_rangeK, r_rangeE, r_draw, r_dnil, r_dop, r_dopg, r_dplq, r_dplh, r_dq, r_dq0, r_dcl1, r_dcl0, r_dct1, r_dct0, r_dgd, r_dgq1, r_dgq0, r_dctG, r_op1, r_eff, r_eff0, r_call, r_call0, r_inl, r_g, r_gq, r_gc, r_effg, r_effg0, r_callg, r_callg0, r_fin, r_pre, r_imp, r_all, r_ex, r_fing, r_preg, r_exg, r_inBlock, r_inLoop, r_frame, r_frame1, r_skip, r_region, r_seq, r_cond, r_cond1, r_block, r_exit, r_exit1, r_exit2, r_ret, r_loop, s_args0, s_args1, s_xt, s_xc, padL, blankL, callee, callArgs, eff, ctOf, getL, setL, S.put, S.upd, unopts, unopt, unoptsO, unoptsB, lazyO, guardOf, gbool, eMov, eNot, eNeg, eConv, eExt, eLenArr, eLen, eLenStr, eEqb, eEqv, allEq, eNil, negIf, eBool2, eCmp, eAri, ari, eBit, eDiv, eSh, eMinMax, foldMin, foldMax, kEq, pure1, cmpB, VO.quiet, resVals, resVal, tupled, popRet, popTo, cond, Option.bind, Option.map, eNew, eBox, asCells, lenH, snocH, eFieldAddr, eField, eLoad, cellsAt, getH, setH, dropL, takeL, mkAgg, lenL, lenS, shift, shiftL, shiftH, viewN, viewL, view, andT, junks, List.append_nil, Nat.beq, eIdxAddr, eIdxArr, eIndex, eStore, storeAt, spliceL, ones, one, eSlice, eSliceArr, bounds, subLo, addLo, eMake, eAppend, readS, repL, buildCells, chunk, purgeL, purgeLL, purgeH, purge, refs, refsL, List.cons_append, List.nil_append, wrOps, wrAl, wrDops, wrC, junkAt, putAll, putHs, headOf, headK, keepG, List.append_eq, headX, chkP, apartP, apartB, blk, strip, runAl, yld, putPs, lenN, findR, notRound, jumpK, jumpPT, jcode, List.map_cons, List.map_nil, ite_self, reduceIte]
        simp only [leS_mk, leL_cons, leL_nil, le_junk, le_int, le_bool, le_nil, leLL_nil, leLL_cons, leH_cons, leH_nil, leH1_box, leH1_own, leH1_gone, le_vs, le_agg, le_tup, le_ptr, le_own, le_xp, le_fn, le_opt, le_val, le_elem, le_nil_own, le_nil_vs, leH_ghost, leL_chunk, leXL_id, bnd_int, bnd_bool, bnd_val, bnd_nil, bnd_junk, bnd_vs, bnd_xp, bnd_agg, bnd_tup, bnd_ptr, bnd_own, bnd_elem, bnd_fn, bnd_iface, bnd_opt, bndL_nil, bndL_cons, lenH_cons, lenH_nil, imp_self, implies_true, true_and, and_true]
        simp
      · intro i hi'
        dsimp only [enc1, enc2, Int.toNat_natCast, r_end, r_end1, r_nil, r_op, r_opg, r_runOp, r_op0, r_yld0, r_yld1, r_y, r_rbeg, r_rend, r_rend1, r_rfrm, r_rfrm1, r_range, r_rangeK, r_rangeE, r_draw, r_dnil, r_dop, r_dopg, r_dplq, r_dplh, r_dq, r_dq0, r_dcl1, r_dcl0, r_dct1, r_dct0, r_dgd, r_dgq1, r_dgq0, r_dctG, r_op1, r_eff, r_eff0, r_call, r_call0, r_inl, r_g, r_gq, r_gc, r_effg, r_effg0, r_callg, r_callg0, r_fin, r_pre, r_imp, r_all, r_ex, r_fing, r_preg, r_exg, r_inBlock, r_inLoop, r_frame, r_frame1, r_skip, r_region, r_seq, r_cond, r_cond1, r_block, r_exit, r_exit1, r_exit2, r_ret, r_loop, s_args0, s_args1, s_xt, s_xc, padL, blankL, callee, callArgs, eff, ctOf, getL, setL, S.put, S.upd, unopts, unopt, unoptsO, unoptsB, lazyO, guardOf, gbool, eMov, eNot, eNeg, eConv, eExt, eLenArr, eLen, eLenStr, eEqb, eEqv, allEq, eNil, negIf, eBool2, eCmp, eAri, ari, eBit, eDiv, eSh, eMinMax, foldMin, foldMax, kEq, pure1, cmpB, VO.quiet, resVals, resVal, tupled, popRet, popTo, cond, Option.bind, Option.map, eNew, eBox, asCells, lenH, snocH, eFieldAddr, eField, eLoad, cellsAt, getH, setH, dropL, takeL, mkAgg, lenL, lenS, shift, shiftL, shiftH, viewN, viewL, view, andT, junks, List.append_nil, Nat.beq, eIdxAddr, eIdxArr, eIndex, eStore, storeAt, spliceL, ones, one, eSlice, eSliceArr, bounds, subLo, addLo, eMake, eAppend, readS, repL, buildCells, chunk, purgeL, purgeLL, purgeH, purge, refs, refsL, List.cons_append, List.nil_append, wrOps, wrAl, wrDops, wrC, junkAt, putAll, putHs, headOf, headK, keepG, List.append_eq, headX, chkP, apartP, apartB, blk, strip, runAl, yld, putPs, lenN, findR, notRound, jumpK, jumpPT, jcode, List.map_cons, List.map_nil, ite_self, reduceIte]
        simp only [true_and, and_true, imp_self, implies_true, decide_eq_true_eq, decide_eq_false_iff_not, Nat.reduceAdd, Nat.reduceLeDiff, Bool.not_not, reduceCtorEq, false_imp_iff, Bool.not_eq_true', Bool.not_eq_false', Bool.false_eq_true, and_self, forall_const, ne_eq, not_false_eq_true, Nat.reduceEqDiff]
        refine ⟨fun hlt => ?_, fun hge => ?_⟩
        · have hil : i < l.length := by omega
          refine ⟨⟨by omega, hlt⟩, ⟨by omega, hlt⟩, ⟨by omega, hlt⟩, hil, i + 1, by omega, by omega, ?_⟩
          have hs := w_succ (i := i) (n := l.length) hil (by omega)
          rw [vols_get hil, vols_get hil]
          simp only [hs, leS_mk, leL_cons, leL_nil, le_junk, le_int, le_bool, le_nil, leLL_nil, leLL_cons, leH_cons, leH_nil, leH1_box, leH1_own, leH1_gone, le_vs, le_agg, le_tup, le_ptr, le_own, le_xp, le_fn, le_opt, le_val, le_elem, le_nil_own, le_nil_vs, leH_ghost, leL_chunk, leXL_id, bnd_int, bnd_bool, bnd_val, bnd_nil, bnd_junk, bnd_vs, bnd_xp, bnd_agg, bnd_tup, bnd_ptr, bnd_own, bnd_elem, bnd_fn, bnd_iface, bnd_opt, bndL_nil, bndL_cons, lenH_cons, lenH_nil, imp_self, implies_true, true_and, and_true]
          refine ⟨by simp, fun q hq => ?_⟩
          by_cases hqi : q = i
          · subst hqi
            rw [if_pos rfl, if_pos (by omega), run_get hil]
            exact leL_self _ ⟨trivial, trivial, trivial⟩
          · rw [if_neg hqi]
            by_cases h2 : q < i
            · rw [if_pos h2, if_pos (by omega)]; exact leL_self _ ⟨trivial, trivial, trivial⟩
            · rw [if_neg h2, if_neg (by omega)]; exact leL_self _ ⟨trivial, trivial, trivial⟩
        · obtain rfl : i = l.length := by omega
          have hr : runF ⟨st, lo, hi, il, ih⟩ l = (runL ⟨st, lo, hi, il, ih⟩ l, 0) := by rw [runF, if_neg (by rw [he]; simp)]
          rw [hr] at h
          refine ans_le (show k _ [] from h) ?_ ?_
          · dsimp only [expo, enc2, r_end, r_end1, r_nil, r_op, r_opg, r_runOp, r_op0, r_yld0, r_yld1, r_y, r_rbeg, r_rend, r_rend1, r_rfrm, r_rfrm1, r_range, r_rangeK, r_rangeE, r_draw, r_dnil, r_dop, r_dopg, r_dplq, r_dplh, r_dq, r_dq0, r_dcl1, r_dcl0, r_dct1, r_dct0, r_dgd, r_dgq1, r_dgq0, r_dctG, r_op1, r_eff, r_eff0, r_call, r_call0, r_inl, r_g, r_gq, r_gc, r_effg, r_effg0, r_callg, r_callg0, r_fin, r_pre, r_imp, r_all, r_ex, r_fing, r_preg, r_exg, r_inBlock, r_inLoop, r_frame, r_frame1, r_skip, r_region, r_seq, r_cond, r_cond1, r_block, r_exit, r_exit1, r_exit2, r_ret, r_loop, s_args0, s_args1, s_xt, s_xc, padL, blankL, callee, callArgs, eff, ctOf, getL, setL, S.put, S.upd, unopts, unopt, unoptsO, unoptsB, lazyO, guardOf, gbool, eMov, eNot, eNeg, eConv, eExt, eLenArr, eLen, eLenStr, eEqb, eEqv, allEq, eNil, negIf, eBool2, eCmp, eAri, ari, eBit, eDiv, eSh, eMinMax, foldMin, foldMax, kEq, pure1, cmpB, VO.quiet, resVals, resVal, tupled, popRet, popTo, cond, Option.bind, Option.map, eNew, eBox, asCells, lenH, snocH, eFieldAddr, eField, eLoad, cellsAt, getH, setH, dropL, takeL, mkAgg, lenL, lenS, shift, shiftL, shiftH, viewN, viewL, view, andT, junks, List.append_nil, Nat.beq, eIdxAddr, eIdxArr, eIndex, eStore, storeAt, spliceL, ones, one, eSlice, eSliceArr, bounds, subLo, addLo, eMake, eAppend, readS, repL, buildCells, chunk, purgeL, purgeLL, purgeH, purge, refs, refsL, List.cons_append, List.nil_append, wrOps, wrAl, wrDops, wrC, junkAt, putAll, putHs, headOf, headK, keepG, List.append_eq, headX, chkP, apartP, apartB, blk, strip, runAl, yld, putPs, lenN, findR, notRound, jumpK, jumpPT, jcode, List.map_cons, List.map_nil, ite_self, reduceIte]
            simp only [run_len, leS_mk, leL_cons, leL_nil, le_junk, le_int, le_bool, le_nil, leLL_nil, leLL_cons, leH_cons, leH_nil, leH1_box, leH1_own, leH1_gone, le_vs, le_agg, le_tup, le_ptr, le_own, le_xp, le_fn, le_opt, le_val, le_elem, le_nil_own, le_nil_vs, leH_ghost, leL_chunk, leXL_id, bnd_int, bnd_bool, bnd_val, bnd_nil, bnd_junk, bnd_vs, bnd_xp, bnd_agg, bnd_tup, bnd_ptr, bnd_own, bnd_elem, bnd_fn, bnd_iface, bnd_opt, bndL_nil, bndL_cons, lenH_cons, lenH_nil, imp_self, implies_true, true_and, and_true]
            exact ⟨by simp, fun q hq => by rw [if_pos hq]; exact leXL_self _⟩
          · simp [freshS, freshL, enc2]
  · exact h.1.elim

theorem run11 : rrunC.ok Try.prog 11 := by
  refine contract Try.func11 v11_is G1_ok 800 rrunC fun args k h => ?_
  simp only [rrunC, demC, ivsR] at h
  split at h
  · rename_i st lo hi il ih tt z n sz get
    obtain ⟨l, ⟨⟨rfl, rfl, hg⟩, hmax⟩, h⟩ := h
    refine ⟨[.agg [.int .i64 st, .int .i64 lo, .int .i64 hi, .int .i64 il, .int .i64 ih], .vs tt z l.length 2 (fun k => enc2 (l.getD k default))], by simpa [leL, le] using hg, ?_⟩
    dsimp only [v11, G1_ct31, askC, enc1, enc2, r_end, r_end1, r_nil, r_op, r_opg, r_runOp, r_op0, r_yld0, r_yld1, r_y, r_rbeg, r_rend, r_rend1, r_rfrm, r_rfrm1, r_range, r_rangeK, r_rangeE, r_draw, r_dnil, r_dop, r_dopg, r_dplq, r_dplh, r_dq, r_dq0, r_dcl1, r_dcl0, r_dct1, r_dct0, r_dgd, r_dgq1, r_dgq0, r_dctG, r_op1, r_eff, r_eff0, r_call, r_call0, r_inl, r_g, r_gq, r_gc, r_effg, r_effg0, r_callg, r_callg0, r_fin, r_pre, r_imp, r_all, r_ex, r_fing, r_preg, r_exg, r_inBlock, r_inLoop, r_frame, r_frame1, r_skip, r_region, r_seq, r_cond, r_cond1, r_block, r_exit, r_exit1, r_exit2, r_ret, r_loop, s_args0, s_args1, s_xt, s_xc, padL, blankL, callee, callArgs, eff, ctOf, getL, setL, S.put, S.upd, unopts, unopt, unoptsO, unoptsB, lazyO, guardOf, gbool, eMov, eNot, eNeg, eConv, eExt, eLenArr, eLen, eLenStr, eEqb, eEqv, allEq, eNil, negIf, eBool2, eCmp, eAri, ari, eBit, eDiv, eSh, eMinMax, foldMin, foldMax, kEq, pure1, cmpB, VO.quiet, resVals, resVal, tupled, popRet, popTo, cond, Option.bind, Option.map, eNew, eBox, asCells, lenH, snocH, eFieldAddr, eField, eLoad, cellsAt, getH, setH, dropL, takeL, mkAgg, lenL, lenS, shift, shiftL, shiftH, viewN, viewL, view, andT, junks, List.append_nil, Nat.beq, eIdxAddr, eIdxArr, eIndex, eStore, storeAt, spliceL, ones, one, eSlice, eSliceArr, bounds, subLo, addLo, eMake, eAppend, readS, repL, buildCells, chunk, purgeL, purgeLL, purgeH, purge, refs, refsL, List.cons_append, List.nil_append, wrOps, wrAl, wrDops, wrC, junkAt, putAll, putHs, headOf, headK, keepG, List.append_eq, headX, chkP, apartP, apartB, blk, strip, runAl, yld, putPs, lenN, findR, notRound, jumpK, jumpPT, jcode, List.map_cons, List.map_nil, ite_self, reduceIte]
    simp only [true_and, and_true, imp_self, implies_true, decide_eq_true_eq, decide_eq_false_iff_not, Nat.reduceAdd, Nat.reduceLeDiff, Bool.not_not, reduceCtorEq, false_imp_iff, Bool.not_eq_true', Bool.not_eq_false', Bool.false_eq_true, and_self, forall_const, ne_eq, not_false_eq_true, Nat.reduceEqDiff]
    refine ⟨l, ⟨lsP_self, hmax⟩, fun he => ?_, fun he => ?_⟩
    · have hr : runF ⟨st, lo, hi, il, ih⟩ l = ([], askF ⟨st, lo, hi, il, ih⟩ l) := by rw [runF, if_pos he]
      rw [hr] at h
      refine ans_le (show k _ [] from h) ?_ ?_
      · simp [expo, view, viewL, le, leL]
      · simp [freshS, freshL]
    · obtain ⟨hb, h1000, hd⟩ := ask_ok he
      have hne := fit_ne (fit_il hb)
      have hbo := bel_ok hb
      refine Loop.keep [1, 0, 4, 0, 0] Nat (fun i => [(7, .own 2 0 i 2), (9, .int .i64 i)]) (fun i => [(1, .box [.int .i64 (volAt ⟨st, lo, hi, il, ih⟩ il true (l.take i) st), .int .i64 (volAt ⟨st, lo, hi, il, ih⟩ ih false (l.take i) st)]), (2, .own (decide (i = 0)) 2 i (fun k => enc2 ((runL ⟨st, lo, hi, il, ih⟩ l).getD k default)))]) [.gone] (fun i => i ≤ l.length) (fun i => l.length - i) ?_ ?_
      · refine ⟨0, Nat.zero_le _, ?_⟩
        dsimp only [volAt, List.take_zero, List.foldl_nil, enc2, r_end, r_end1, r_nil, r_op, r_opg, r_runOp, r_op0, r_yld0, r_yld1, r_y, r_rbeg, r_rend, r_rend1, r_rfrm, r_rfrm1, r_range, r_rangeK, r_rangeE, r_draw, r_dnil, r_dop, r_dopg, r_dplq, r_dplh, r_dq, r_dq0, r_dcl1, r_dcl0, r_dct1, r_dct0, r_dgd, r_dgq1, r_dgq0, r_dctG, r_op1, r_eff, r_eff0, r_call, r_call0, r_inl, r_g, r_gq, r_gc, r_effg, r_effg0, r_callg, r_callg0, r_fin, r_pre, r_imp, r_all, r_ex, r_fing, r_preg, r_exg, r_inBlock, r_inLoop, r_frame, r_frame1, r_skip, r_region, r_seq, r_cond, r_cond1, r_block, r_exit, r_exit1, r_exit2, r_ret, r_loop, s_args0, s_args1, s_xt, s_xc, padL, blankL, callee, callArgs, eff, ctOf, getL, setL, S.put, S.upd, unopts, unopt, unoptsO, unoptsB, lazyO, guardOf, gbool, eMov, eNot, eNeg, eConv, eExt, eLenArr, eLen, eLenStr, eEqb, eEqv, allEq, eNil, negIf, eBool2, eCmp, eAri, ari, eBit, eDiv, eSh, eMinMax, foldMin, foldMax, kEq, pure1, cmpB, VO.quiet, resVals, resVal, tupled, popRet, popTo, cond, Option.bind, Option.map, eNew, eBox, asCells, lenH, snocH, eFieldAddr, eField, eLoad, cellsAt, getH, setH, dropL, takeL, mkAgg, lenL, lenS, shift, shiftL, shiftH, viewN, viewL, view, andT, junks, List.append_nil, Nat.beq, eIdxAddr, eIdxArr, eIndex, eStore, storeAt, spliceL, ones, one, eSlice, eSliceArr, bounds, subLo, addLo, eMake, eAppend, readS, repL, buildCells, chunk, purgeL, purgeLL, purgeH, purge, refs, refsL, List.cons_append, List.nil_append, wrOps, wrAl, wrDops, wrC, junkAt, putAll, putHs, headOf, headK, keepG, List.append_eq, headX, chkP, apartP, apartB, blk, strip, runAl, yld, putPs, lenN, findR, notRound, jumpK, jumpPT, jcode, List.map_cons, List.map_nil, ite_self, reduceIte]
        simp only [leS_mk, leL_cons, leL_nil, le_junk, le_int, le_bool, le_nil, leLL_nil, leLL_cons, leH_cons, leH_nil, leH1_box, leH1_own, leH1_gone, le_vs, le_agg, le_tup, le_ptr, le_own, le_xp, le_fn, le_opt, le_val, le_elem, le_nil_own, le_nil_vs, leH_ghost, leL_chunk, leXL_id, bnd_int, bnd_bool, bnd_val, bnd_nil, bnd_junk, bnd_vs, bnd_xp, bnd_agg, bnd_tup, bnd_ptr, bnd_own, bnd_elem, bnd_fn, bnd_iface, bnd_opt, bndL_nil, bndL_cons, lenH_cons, lenH_nil, imp_self, implies_true, true_and, and_true] <;> simp
      · intro i hi'
        dsimp only [G1_ct23, tickC, enc2, Int.toNat_natCast, r_end, r_end1, r_nil, r_op, r_opg, r_runOp, r_op0, r_yld0, r_yld1, r_y, r_rbeg, r_rend, r_rend1, r_rfrm, r_rfrm1, r_range, r_rangeK, r_rangeE, r_draw, r_dnil, r_dop, r_dopg, r_dplq, r_dplh, r_dq, r_dq0, r_dcl1, r_dcl0, r_dct1, r_dct0, r_dgd, r_dgq1, r_dgq0, r_dctG, r_op1, r_eff, r_eff0, r_call, r_call0, r_inl, r_g, r_gq, r_gc, r_effg, r_effg0, r_callg, r_callg0, r_fin, r_pre, r_imp, r_all, r_ex, r_fing, r_preg, r_exg, r_inBlock, r_inLoop, r_frame, r_frame1, r_skip, r_region, r_seq, r_cond, r_cond1, r_block, r_exit, r_exit1, r_exit2, r_ret, r_loop, s_args0, s_args1, s_xt, s_xc, padL, blankL, callee, callArgs, eff, ctOf, getL, setL, S.put, S.upd, unopts, unopt, unoptsO, unoptsB, lazyO, guardOf, gbool, eMov, eNot, eNeg, eConv, eExt, eLenArr, eLen, eLenStr, eEqb, eEqv, allEq, eNil, negIf, eBool2, eCmp, eAri, ari, eBit, eDiv, eSh, eMinMax, foldMin, foldMax, kEq, pure1, cmpB, VO.quiet, resVals, resVal, tupled, popRet, popTo, cond, Option.bind, Option.map, eNew, eBox, asCells, lenH, snocH, eFieldAddr, eField, eLoad, cellsAt, getH, setH, dropL, takeL, mkAgg, lenL, lenS, shift, shiftL, shiftH, viewN, viewL, view, andT, junks, List.append_nil, Nat.beq, eIdxAddr, eIdxArr, eIndex, eStore, storeAt, spliceL, ones, one, eSlice, eSliceArr, bounds, subLo, addLo, eMake, eAppend, readS, repL, buildCells, chunk, purgeL, purgeLL, purgeH, purge, refs, refsL, List.cons_append, List.nil_append, wrOps, wrAl, wrDops, wrC, junkAt, putAll, putHs, headOf, headK, keepG, List.append_eq, headX, chkP, apartP, apartB, blk, strip, runAl, yld, putPs, lenN, findR, notRound, jumpK, jumpPT, jcode, List.map_cons, List.map_nil, ite_self, reduceIte]
        simp only [true_and, and_true, imp_self, implies_true, decide_eq_true_eq, decide_eq_false_iff_not, Nat.reduceAdd, Nat.reduceLeDiff, Bool.not_not, reduceCtorEq, false_imp_iff, Bool.not_eq_true', Bool.not_eq_false', Bool.false_eq_true, and_self, forall_const, ne_eq, not_false_eq_true, Nat.reduceEqDiff]
        refine ⟨fun hlt => ?_, fun hge => ?_⟩
        · dsimp only [G1_ct23, tickC, enc2, Int.toNat_natCast, r_end, r_end1, r_nil, r_op, r_opg, r_runOp, r_op0, r_yld0, r_yld1, r_y, r_rbeg, r_rend, r_rend1, r_rfrm, r_rfrm1, r_range, r_rangeK, r_rangeE, r_draw, r_dnil, r_dop, r_dopg, r_dplq, r_dplh, r_dq, r_dq0, r_dcl1, r_dcl0, r_dct1, r_dct0, r_dgd, r_dgq1, r_dgq0, r_dctG, r_op1, r_eff, r_eff0, r_call, r_call0, r_inl, r_g, r_gq, r_gc, r_effg, r_effg0, r_callg, r_callg0, r_fin, r_pre, r_imp, r_all, r_ex, r_fing, r_preg, r_exg, r_inBlock, r_inLoop, r_frame, r_frame1, r_skip, r_region, r_seq, r_cond, r_cond1, r_block, r_exit, r_exit1, r_exit2, r_ret, r_loop, s_args0, s_args1, s_xt, s_xc, padL, blankL, callee, callArgs, eff, ctOf, getL, setL, S.put, S.upd, unopts, unopt, unoptsO, unoptsB, lazyO, guardOf, gbool, eMov, eNot, eNeg, eConv, eExt, eLenArr, eLen, eLenStr, eEqb, eEqv, allEq, eNil, negIf, eBool2, eCmp, eAri, ari, eBit, eDiv, eSh, eMinMax, foldMin, foldMax, kEq, pure1, cmpB, VO.quiet, resVals, resVal, tupled, popRet, popTo, cond, Option.bind, Option.map, eNew, eBox, asCells, lenH, snocH, eFieldAddr, eField, eLoad, cellsAt, getH, setH, dropL, takeL, mkAgg, lenL, lenS, shift, shiftL, shiftH, viewN, viewL, view, andT, junks, List.append_nil, Nat.beq, eIdxAddr, eIdxArr, eIndex, eStore, storeAt, spliceL, ones, one, eSlice, eSliceArr, bounds, subLo, addLo, eMake, eAppend, readS, repL, buildCells, chunk, purgeL, purgeLL, purgeH, purge, refs, refsL, List.cons_append, List.nil_append, wrOps, wrAl, wrDops, wrC, junkAt, putAll, putHs, headOf, headK, keepG, List.append_eq, headX, chkP, apartP, apartB, blk, strip, runAl, yld, putPs, lenN, findR, notRound, jumpK, jumpPT, jcode, List.map_cons, List.map_nil, ite_self, reduceIte]
          simp only [true_and, and_true, imp_self, implies_true, decide_eq_true_eq, decide_eq_false_iff_not, Nat.reduceAdd, Nat.reduceLeDiff, Bool.not_not, reduceCtorEq, false_imp_iff, Bool.not_eq_true', Bool.not_eq_false', Bool.false_eq_true, and_self, forall_const, ne_eq, not_false_eq_true, Nat.reduceEqDiff]
          have hil : i < l.length := by omega
          have t1 : tickF ⟨st, lo, hi, il, ih⟩ (volAt ⟨st, lo, hi, il, ih⟩ il true (l.take i) st) il (l.getD i default).2 = _ := tick_vol (w := true) (fit_il hb) hbo.2.2.2.1 hbo.2.2.2.2.1 hd hil
          have t2 : tickF ⟨st, lo, hi, il, ih⟩ (volAt ⟨st, lo, hi, il, ih⟩ ih false (l.take i) st) ih (l.getD i default).1 = _ := tick_vol (w := false) (fit_ih hb) hbo.2.2.2.1 hbo.2.2.2.2.1 hd hil
          rw [t1, t2]
          refine ⟨⟨by omega, hlt⟩, hne, by decide, by decide, by decide, ⟨by omega, hlt⟩, hne, by decide, by decide, by decide, by decide, ⟨by simp only [capOk]; omega, fun q hq => ?_⟩, i + 1, by omega, by omega, ?_⟩
          · match q, hq with
            | 0, _ => exact ⟨rfl, trivial, trivial, trivial⟩
          · have hs := w_succ (i := i) (n := l.length) (by omega) (by omega)
            have hv := run_get (b := ⟨st, lo, hi, il, ih⟩) hil
            simp only [hs, Bool.or_self, leS_mk, leL_cons, leL_nil, le_junk, le_int, le_bool, le_nil, leLL_nil, leLL_cons, leH_cons, leH_nil, leH1_box, leH1_own, leH1_gone, le_vs, le_agg, le_tup, le_ptr, le_own, le_xp, le_fn, le_opt, le_val, le_elem, le_nil_own, le_nil_vs, leH_ghost, leL_chunk, leXL_id, bnd_int, bnd_bool, bnd_val, bnd_nil, bnd_junk, bnd_vs, bnd_xp, bnd_agg, bnd_tup, bnd_ptr, bnd_own, bnd_elem, bnd_fn, bnd_iface, bnd_opt, bndL_nil, bndL_cons, lenH_cons, lenH_nil, imp_self, implies_true, true_and, and_true]
            refine ⟨by simp, by simp, fun q hq => ?_⟩
            rcases Nat.lt_or_ge q i with h' | h'
            · rw [if_pos h']; exact leL_self _ ⟨trivial, trivial, trivial⟩
            · obtain rfl : q = i := by omega
              rw [if_neg (by omega), Nat.sub_self, hv]
              exact ⟨⟨rfl, rfl⟩, ⟨rfl, rfl⟩, trivial⟩
        · obtain rfl : i = l.length := by omega
          have hr : runF ⟨st, lo, hi, il, ih⟩ l = (runL ⟨st, lo, hi, il, ih⟩ l, 0) := by rw [runF, if_neg (by rw [he]; simp)]
          rw [hr] at h
          refine ans_le (show k _ [] from h) ?_ ?_
          · dsimp only [expo, enc2, r_end, r_end1, r_nil, r_op, r_opg, r_runOp, r_op0, r_yld0, r_yld1, r_y, r_rbeg, r_rend, r_rend1, r_rfrm, r_rfrm1, r_range, r_rangeK, r_rangeE, r_draw, r_dnil, r_dop, r_dopg, r_dplq, r_dplh, r_dq, r_dq0, r_dcl1, r_dcl0, r_dct1, r_dct0, r_dgd, r_dgq1, r_dgq0, r_dctG, r_op1, r_eff, r_eff0, r_call, r_call0, r_inl, r_g, r_gq, r_gc, r_effg, r_effg0, r_callg, r_callg0, r_fin, r_pre, r_imp, r_all, r_ex, r_fing, r_preg, r_exg, r_inBlock, r_inLoop, r_frame, r_frame1, r_skip, r_region, r_seq, r_cond, r_cond1, r_block, r_exit, r_exit1, r_exit2, r_ret, r_loop, s_args0, s_args1, s_xt, s_xc, padL, blankL, callee, callArgs, eff, ctOf, getL, setL, S.put, S.upd, unopts, unopt, unoptsO, unoptsB, lazyO, guardOf, gbool, eMov, eNot, eNeg, eConv, eExt, eLenArr, eLen, eLenStr, eEqb, eEqv, allEq, eNil, negIf, eBool2, eCmp, eAri, ari, eBit, eDiv, eSh, eMinMax, foldMin, foldMax, kEq, pure1, cmpB, VO.quiet, resVals, resVal, tupled, popRet, popTo, cond, Option.bind, Option.map, eNew, eBox, asCells, lenH, snocH, eFieldAddr, eField, eLoad, cellsAt, getH, setH, dropL, takeL, mkAgg, lenL, lenS, shift, shiftL, shiftH, viewN, viewL, view, andT, junks, List.append_nil, Nat.beq, eIdxAddr, eIdxArr, eIndex, eStore, storeAt, spliceL, ones, one, eSlice, eSliceArr, bounds, subLo, addLo, eMake, eAppend, readS, repL, buildCells, chunk, purgeL, purgeLL, purgeH, purge, refs, refsL, List.cons_append, List.nil_append, wrOps, wrAl, wrDops, wrC, junkAt, putAll, putHs, headOf, headK, keepG, List.append_eq, headX, chkP, apartP, apartB, blk, strip, runAl, yld, putPs, lenN, findR, notRound, jumpK, jumpPT, jcode, List.map_cons, List.map_nil, ite_self, reduceIte]
            simp only [run_len, leS_mk, leL_cons, leL_nil, le_junk, le_int, le_bool, le_nil, leLL_nil, leLL_cons, leH_cons, leH_nil, leH1_box, leH1_own, leH1_gone, le_vs, le_agg, le_tup, le_ptr, le_own, le_xp, le_fn, le_opt, le_val, le_elem, le_nil_own, le_nil_vs, leH_ghost, leL_chunk, leXL_id, bnd_int, bnd_bool, bnd_val, bnd_nil, bnd_junk, bnd_vs, bnd_xp, bnd_agg, bnd_tup, bnd_ptr, bnd_own, bnd_elem, bnd_fn, bnd_iface, bnd_opt, bndL_nil, bndL_cons, lenH_cons, lenH_nil, imp_self, implies_true, true_and, and_true]
          · simp [freshS, freshL, enc2]
  · exact h.1.elim

theorem fails14 : failsC.ok Try.prog 14 := by
  refine contract Try.func14 v14_is G1_ok 800 failsC fun args k h => ?_
  simp only [failsC, demC] at h
  split at h
  · rename_i st lo hi il ih tt z n sz get
    obtain ⟨l, ⟨⟨rfl, rfl, hg⟩, hmax⟩, h⟩ := h
    refine ⟨[.agg [.int .i64 st, .int .i64 lo, .int .i64 hi, .int .i64 il, .int .i64 ih], .vs tt z l.length 2 (fun k => enc2 (l.getD k default))], by simpa [leL, le] using hg, ?_⟩
    dsimp only [v14, G1_ct27, askC, G1_ct28, worstC, G1_ct30, bestC, crsC, G1_ct33, failC, crsP, enc1, enc2, r_end, r_end1, r_nil, r_op, r_opg, r_runOp, r_op0, r_yld0, r_yld1, r_y, r_rbeg, r_rend, r_rend1, r_rfrm, r_rfrm1, r_range, r_rangeK, r_rangeE, r_draw, r_dnil, r_dop, r_dopg, r_dplq, r_dplh, r_dq, r_dq0, r_dcl1, r_dcl0, r_dct1, r_dct0, r_dgd, r_dgq1, r_dgq0, r_dctG, r_op1, r_eff, r_eff0, r_call, r_call0, r_inl, r_g, r_gq, r_gc, r_effg, r_effg0, r_callg, r_callg0, r_fin, r_pre, r_imp, r_all, r_ex, r_fing, r_preg, r_exg, r_inBlock, r_inLoop, r_frame, r_frame1, r_skip, r_region, r_seq, r_cond, r_cond1, r_block, r_exit, r_exit1, r_exit2, r_ret, r_loop, s_args0, s_args1, s_xt, s_xc, padL, blankL, callee, callArgs, eff, ctOf, getL, setL, S.put, S.upd, unopts, unopt, unoptsO, unoptsB, lazyO, guardOf, gbool, eMov, eNot, eNeg, eConv, eExt, eLenArr, eLen, eLenStr, eEqb, eEqv, allEq, eNil, negIf, eBool2, eCmp, eAri, ari, eBit, eDiv, eSh, eMinMax, foldMin, foldMax, kEq, pure1, cmpB, VO.quiet, resVals, resVal, tupled, popRet, popTo, cond, Option.bind, Option.map, eNew, eBox, asCells, lenH, snocH, eFieldAddr, eField, eLoad, cellsAt, getH, setH, dropL, takeL, mkAgg, lenL, lenS, shift, shiftL, shiftH, viewN, viewL, view, andT, junks, List.append_nil, Nat.beq, eIdxAddr, eIdxArr, eIndex, eStore, storeAt, spliceL, ones, one, eSlice, eSliceArr, bounds, subLo, addLo, eMake, eAppend, readS, repL, buildCells, chunk, purgeL, purgeLL, purgeH, purge, refs, refsL, List.cons_append, List.nil_append, wrOps, wrAl, wrDops, wrC, junkAt, putAll, putHs, headOf, headK, keepG, List.append_eq, headX, chkP, apartP, apartB, blk, strip, runAl, yld, putPs, lenN, findR, notRound, jumpK, jumpPT, jcode, List.map_cons, List.map_nil, ite_self, reduceIte]
    simp only [true_and, and_true, imp_self, implies_true, decide_eq_true_eq, decide_eq_false_iff_not, Nat.reduceAdd, Nat.reduceLeDiff, Bool.not_not, reduceCtorEq, false_imp_iff, Bool.not_eq_true', Bool.not_eq_false', Bool.false_eq_true, and_self, forall_const, ne_eq, not_false_eq_true, Nat.reduceEqDiff]
    refine ⟨l, ⟨lsP_self, hmax⟩, fun he => ?_, fun he => ?_⟩
    · have hr : failsF ⟨st, lo, hi, il, ih⟩ l = (0, 0, askF ⟨st, lo, hi, il, ih⟩ l) := by rw [failsF, if_pos he]
      rw [hr] at h
      exact ans_le (show k _ [] from h) (by simp [expo, view, viewL, le, leL]) (by simp [freshS, freshL])
    · obtain ⟨hb, h1000, hd⟩ := ask_ok he
      have hne := fit_ne (fit_il hb)
      have hr : failsF ⟨st, lo, hi, il, ih⟩ l = (failF ⟨st, lo, hi, il, ih⟩ il true l st, failF ⟨st, lo, hi, il, ih⟩ ih false l st, 0) := by rw [failsF, if_neg (by rw [he]; simp)]
      rw [hr] at h
      refine ⟨true, l, ⟨rfl, lsP_self, h1000, hne⟩, false, l, ⟨rfl, lsP_self, h1000, hne⟩, ?_⟩
      exact ans_le (show k _ [] from h) (by simp [expo, view, viewL, le, leL, inOf]) (by simp [freshS, freshL])
  · exact h.1.elim

theorem fails15 : failsC.ok Try.prog 15 := by
  refine contract Try.func15 v15_is G1_ok 800 failsC fun args k h => ?_
  simp only [failsC, demC] at h
  split at h
  · rename_i st lo hi il ih tt z n sz get
    obtain ⟨l, ⟨⟨rfl, rfl, hg⟩, hmax⟩, h⟩ := h
    refine ⟨[.agg [.int .i64 st, .int .i64 lo, .int .i64 hi, .int .i64 il, .int .i64 ih], .vs tt z l.length 2 (fun k => enc2 (l.getD k default))], by simpa [leL, le] using hg, ?_⟩
    dsimp only [v15, G1_ct31, askC, enc1, enc2, r_end, r_end1, r_nil, r_op, r_opg, r_runOp, r_op0, r_yld0, r_yld1, r_y, r_rbeg, r_rend, r_rend1, r_rfrm, r_rfrm1, r_range, r_rangeK, r_rangeE, r_draw, r_dnil, r_dop, r_dopg, r_dplq, r_dplh, r_dq, r_dq0, r_dcl1, r_dcl0, r_dct1, r_dct0, r_dgd, r_dgq1, r_dgq0, r_dctG, r_op1, r_eff, r_eff0, r_call, r_call0, r_inl, r_g, r_gq, r_gc, r_effg, r_effg0, r_callg, r_callg0, r_fin, r_pre, r_imp, r_all, r_ex, r_fing, r_preg, r_exg, r_inBlock, r_inLoop, r_frame, r_frame1, r_skip, r_region, r_seq, r_cond, r_cond1, r_block, r_exit, r_exit1, r_exit2, r_ret, r_loop, s_args0, s_args1, s_xt, s_xc, padL, blankL, callee, callArgs, eff, ctOf, getL, setL, S.put, S.upd, unopts, unopt, unoptsO, unoptsB, lazyO, guardOf, gbool, eMov, eNot, eNeg, eConv, eExt, eLenArr, eLen, eLenStr, eEqb, eEqv, allEq, eNil, negIf, eBool2, eCmp, eAri, ari, eBit, eDiv, eSh, eMinMax, foldMin, foldMax, kEq, pure1, cmpB, VO.quiet, resVals, resVal, tupled, popRet, popTo, cond, Option.bind, Option.map, eNew, eBox, asCells, lenH, snocH, eFieldAddr, eField, eLoad, cellsAt, getH, setH, dropL, takeL, mkAgg, lenL, lenS, shift, shiftL, shiftH, viewN, viewL, view, andT, junks, List.append_nil, Nat.beq, eIdxAddr, eIdxArr, eIndex, eStore, storeAt, spliceL, ones, one, eSlice, eSliceArr, bounds, subLo, addLo, eMake, eAppend, readS, repL, buildCells, chunk, purgeL, purgeLL, purgeH, purge, refs, refsL, List.cons_append, List.nil_append, wrOps, wrAl, wrDops, wrC, junkAt, putAll, putHs, headOf, headK, keepG, List.append_eq, headX, chkP, apartP, apartB, blk, strip, runAl, yld, putPs, lenN, findR, notRound, jumpK, jumpPT, jcode, List.map_cons, List.map_nil, ite_self, reduceIte]
    simp only [true_and, and_true, imp_self, implies_true, decide_eq_true_eq, decide_eq_false_iff_not, Nat.reduceAdd, Nat.reduceLeDiff, Bool.not_not, reduceCtorEq, false_imp_iff, Bool.not_eq_true', Bool.not_eq_false', Bool.false_eq_true, and_self, forall_const, ne_eq, not_false_eq_true, Nat.reduceEqDiff]
    refine ⟨l, ⟨lsP_self, hmax⟩, fun he => ?_, fun he => ?_⟩
    · have hr : failsF ⟨st, lo, hi, il, ih⟩ l = (0, 0, askF ⟨st, lo, hi, il, ih⟩ l) := by rw [failsF, if_pos he]
      rw [hr] at h
      exact ans_le (show k _ [] from h) (by simp [expo, view, viewL, le, leL]) (by simp [freshS, freshL])
    · obtain ⟨hb, h1000, hd⟩ := ask_ok he
      have hne := fit_ne (fit_il hb)
      have hbo := bel_ok hb
      refine Loop.keep [1, 0, 5, 0, 0, 0, 0] Nat (fun i => [(8, .int .i64 (failT ⟨st, lo, hi, il, ih⟩ il true l st i)), (9, .int .i64 (failT ⟨st, lo, hi, il, ih⟩ ih false l st i)), (10, .int .i64 (volAt ⟨st, lo, hi, il, ih⟩ il true (l.take i) st)), (11, .int .i64 (volAt ⟨st, lo, hi, il, ih⟩ ih false (l.take i) st)), (12, .int .i64 i)]) (fun _ => []) [] (fun i => i ≤ l.length) (fun i => l.length - i) ?_ ?_
      · refine ⟨0, Nat.zero_le _, ?_⟩
        dsimp only [volAt, failT, List.take_zero, List.foldl_nil, enc2, r_end, r_end1, r_nil, r_op, r_opg, r_runOp, r_op0, r_yld0, r_yld1, r_y, r_rbeg, r_rend, r_rend1, r_rfrm, r_rfrm1, r_range, r_rangeK, r_rangeE, r_draw, r_dnil, r_dop, r_dopg, r_dplq, r_dplh, r_dq, r_dq0, r_dcl1, r_dcl0, r_dct1, r_dct0, r_dgd, r_dgq1, r_dgq0, r_dctG, r_op1, r_eff, r_eff0, r_call, r_call0, r_inl, r_g, r_gq, r_gc, r_effg, r_effg0, r_callg, r_callg0, r_fin, r_pre, r_imp, r_all, r_ex, r_fing, r_preg, r_exg, r_inBlock, r_inLoop, r_frame, r_frame1, r_skip, r_region, r_seq, r_cond, r_cond1, r_block, r_exit, r_exit1, r_exit2, r_ret, r_loop, s_args0, s_args1, s_xt, s_xc, padL, blankL, callee, callArgs, eff, ctOf, getL, setL, S.put, S.upd, unopts, unopt, unoptsO, unoptsB, lazyO, guardOf, gbool, eMov, eNot, eNeg, eConv, eExt, eLenArr, eLen, eLenStr, eEqb, eEqv, allEq, eNil, negIf, eBool2, eCmp, eAri, ari, eBit, eDiv, eSh, eMinMax, foldMin, foldMax, kEq, pure1, cmpB, VO.quiet, resVals, resVal, tupled, popRet, popTo, cond, Option.bind, Option.map, eNew, eBox, asCells, lenH, snocH, eFieldAddr, eField, eLoad, cellsAt, getH, setH, dropL, takeL, mkAgg, lenL, lenS, shift, shiftL, shiftH, viewN, viewL, view, andT, junks, List.append_nil, Nat.beq, eIdxAddr, eIdxArr, eIndex, eStore, storeAt, spliceL, ones, one, eSlice, eSliceArr, bounds, subLo, addLo, eMake, eAppend, readS, repL, buildCells, chunk, purgeL, purgeLL, purgeH, purge, refs, refsL, List.cons_append, List.nil_append, wrOps, wrAl, wrDops, wrC, junkAt, putAll, putHs, headOf, headK, keepG, List.append_eq, headX, chkP, apartP, apartB, blk, strip, runAl, yld, putPs, lenN, findR, notRound, jumpK, jumpPT, jcode, List.map_cons, List.map_nil, ite_self, reduceIte]
        simp only [leS_mk, leL_cons, leL_nil, le_junk, le_int, le_bool, le_nil, leLL_nil, leLL_cons, leH_cons, leH_nil, leH1_box, leH1_own, leH1_gone, le_vs, le_agg, le_tup, le_ptr, le_own, le_xp, le_fn, le_opt, le_val, le_elem, le_nil_own, le_nil_vs, leH_ghost, leL_chunk, leXL_id, bnd_int, bnd_bool, bnd_val, bnd_nil, bnd_junk, bnd_vs, bnd_xp, bnd_agg, bnd_tup, bnd_ptr, bnd_own, bnd_elem, bnd_fn, bnd_iface, bnd_opt, bndL_nil, bndL_cons, lenH_cons, lenH_nil, imp_self, implies_true, true_and, and_true] <;> simp
      · intro i hi'
        dsimp only [G1_ct23, tickC, enc2, Int.toNat_natCast, r_end, r_end1, r_nil, r_op, r_opg, r_runOp, r_op0, r_yld0, r_yld1, r_y, r_rbeg, r_rend, r_rend1, r_rfrm, r_rfrm1, r_range, r_rangeK, r_rangeE, r_draw, r_dnil, r_dop, r_dopg, r_dplq, r_dplh, r_dq, r_dq0, r_dcl1, r_dcl0, r_dct1, r_dct0, r_dgd, r_dgq1, r_dgq0, r_dctG, r_op1, r_eff, r_eff0, r_call, r_call0, r_inl, r_g, r_gq, r_gc, r_effg, r_effg0, r_callg, r_callg0, r_fin, r_pre, r_imp, r_all, r_ex, r_fing, r_preg, r_exg, r_inBlock, r_inLoop, r_frame, r_frame1, r_skip, r_region, r_seq, r_cond, r_cond1, r_block, r_exit, r_exit1, r_exit2, r_ret, r_loop, s_args0, s_args1, s_xt, s_xc, padL, blankL, callee, callArgs, eff, ctOf, getL, setL, S.put, S.upd, unopts, unopt, unoptsO, unoptsB, lazyO, guardOf, gbool, eMov, eNot, eNeg, eConv, eExt, eLenArr, eLen, eLenStr, eEqb, eEqv, allEq, eNil, negIf, eBool2, eCmp, eAri, ari, eBit, eDiv, eSh, eMinMax, foldMin, foldMax, kEq, pure1, cmpB, VO.quiet, resVals, resVal, tupled, popRet, popTo, cond, Option.bind, Option.map, eNew, eBox, asCells, lenH, snocH, eFieldAddr, eField, eLoad, cellsAt, getH, setH, dropL, takeL, mkAgg, lenL, lenS, shift, shiftL, shiftH, viewN, viewL, view, andT, junks, List.append_nil, Nat.beq, eIdxAddr, eIdxArr, eIndex, eStore, storeAt, spliceL, ones, one, eSlice, eSliceArr, bounds, subLo, addLo, eMake, eAppend, readS, repL, buildCells, chunk, purgeL, purgeLL, purgeH, purge, refs, refsL, List.cons_append, List.nil_append, wrOps, wrAl, wrDops, wrC, junkAt, putAll, putHs, headOf, headK, keepG, List.append_eq, headX, chkP, apartP, apartB, blk, strip, runAl, yld, putPs, lenN, findR, notRound, jumpK, jumpPT, jcode, List.map_cons, List.map_nil, ite_self, reduceIte]
        simp only [true_and, and_true, imp_self, implies_true, decide_eq_true_eq, decide_eq_false_iff_not, Nat.reduceAdd, Nat.reduceLeDiff, Bool.not_not, reduceCtorEq, false_imp_iff, Bool.not_eq_true', Bool.not_eq_false', Bool.false_eq_true, and_self, forall_const, ne_eq, not_false_eq_true, Nat.reduceEqDiff]
        refine ⟨fun hlt => ?_, fun hge => ?_⟩
        · have hil : i < l.length := by omega
          have t1 : tickF ⟨st, lo, hi, il, ih⟩ (volAt ⟨st, lo, hi, il, ih⟩ il true (l.take i) st) il (l.getD i default).2 = _ := tick_vol (w := true) (fit_il hb) hbo.2.2.2.1 hbo.2.2.2.2.1 hd hil
          have t2 : tickF ⟨st, lo, hi, il, ih⟩ (volAt ⟨st, lo, hi, il, ih⟩ ih false (l.take i) st) ih (l.getD i default).1 = _ := tick_vol (w := false) (fit_ih hb) hbo.2.2.2.1 hbo.2.2.2.2.1 hd hil
          rw [t1, t2]
          have hs := w_succ (i := i) (n := l.length) (by omega) (by omega)
          refine ⟨⟨by omega, hlt⟩, hne, by decide, by decide, by decide, ⟨by omega, hlt⟩, hne, by decide, by decide, by decide, fun c1 => ⟨fun c2 => ?_, fun c2 => ?_⟩, fun c1 => ⟨fun c2 => ?_, fun c2 => ?_⟩⟩ <;>
          · refine ⟨i + 1, by omega, by omega, ?_⟩
            rw [failT_succ, failT_succ, c1, c2]
            simp only [hs, Bool.or_self, if_true, if_false, Bool.false_eq_true, leS_mk, leL_cons, leL_nil, le_junk, le_int, le_bool, le_nil, leLL_nil, leLL_cons, leH_cons, leH_nil, leH1_box, leH1_own, leH1_gone, le_vs, le_agg, le_tup, le_ptr, le_own, le_xp, le_fn, le_opt, le_val, le_elem, le_nil_own, le_nil_vs, leH_ghost, leL_chunk, leXL_id, bnd_int, bnd_bool, bnd_val, bnd_nil, bnd_junk, bnd_vs, bnd_xp, bnd_agg, bnd_tup, bnd_ptr, bnd_own, bnd_elem, bnd_fn, bnd_iface, bnd_opt, bndL_nil, bndL_cons, lenH_cons, lenH_nil, imp_self, implies_true, true_and, and_true]
            try simp
        · obtain rfl : i = l.length := by omega
          have hr : failsF ⟨st, lo, hi, il, ih⟩ l = (failF ⟨st, lo, hi, il, ih⟩ il true l st, failF ⟨st, lo, hi, il, ih⟩ ih false l st, 0) := by rw [failsF, if_neg (by rw [he]; simp)]
          rw [hr] at h
          exact ans_le (show k _ [] from h) (by simp [expo, view, viewL, le, leL, failT_all]) (by simp [freshS, freshL])
  · exact h.1.elim
end Go.Proofs.Ytliipeebknljdaa
