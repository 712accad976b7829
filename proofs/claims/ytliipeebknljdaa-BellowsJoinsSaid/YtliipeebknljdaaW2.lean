/- Bellows: demands, ticks and courses. -/
import Derived.Test.YtliipeebknljdaaW1
set_option linter.all false
namespace Go.Proofs.Ytliipeebknljdaa
open Go Go.Vx
set_option maxRecDepth 100000
set_option maxHeartbeats 4000000

def v27 : VF := { ntmps := 21, res := [.tmp 4], body :=
 (.seq (.region [⟨(some 2), none, .box, [.tm 0]⟩,
  ⟨(some 4), none, .mov, [.cn (.int .i64 0)]⟩])
 (.seq (.region [⟨(some 5), none, .mov, [.cn (.fn (.func 41) [] [])]⟩])
 (.seq (.region [⟨(some 7), none, (.load true 5), [.tm 2]⟩,
  ⟨(some 8), none, (.call 16), [.tm 7]⟩,
  ⟨(some 6), none, .mov, [.tm 8]⟩])
 (.seq (.block 0 (.seq (.region [⟨(some 10), none, .mov, [.tm 6]⟩,
  ⟨(some 11), none, (.cmp .neq), [.tm 10, .cn (.int .i64 0)]⟩,
  ⟨(some 9), none, .mov, [.tm 11]⟩])
 (.cond (.tm 9) (.seq (.region [⟨(some 12), none, .mov, [.tm 6]⟩,
  ⟨(some 4), none, .mov, [.tm 12]⟩])
 .ret)
  (.seq (.region [⟨(some 14), none, .mov, [.tm 1]⟩,
  ⟨(some 15), none, .len, [.tm 14]⟩,
  ⟨(some 16), none, (.cmp .gtr), [.tm 15, .cn (.int .i64 1000)]⟩,
  ⟨(some 13), none, .mov, [.tm 16]⟩])
 (.cond (.tm 13) (.seq (.region [⟨(some 4), none, .mov, [.cn (.int .i64 3)]⟩])
 .ret)
  (.seq (.region [⟨(some 18), none, .mov, [.tm 1]⟩,
  ⟨(some 19), none, .mov, [.tm 5]⟩,
  ⟨(some 20), none, (.call 42), [.tm 18, .tm 19]⟩,
  ⟨(some 17), none, .mov, [.tm 20]⟩])
 (.cond (.tm 17) (.seq (.region [⟨(some 4), none, .mov, [.cn (.int .i64 2)]⟩])
 .ret)
  .skip)))))))
 (.seq (.region [⟨(some 4), none, .mov, [.cn (.int .i64 0)]⟩])
 .ret))))) }
theorem v27_is : vfunc Try.prog Try.f27 = some v27 := by kernel_rfl
def v31 : VF := { ntmps := 49, res := [.tmp 4], body :=
 (.seq (.region [⟨(some 2), none, .box, [.tm 0]⟩,
  ⟨(some 4), none, .mov, [.cn (.int .i64 0)]⟩])
 (.seq (.region [⟨(some 7), none, (.load true 5), [.tm 2]⟩,
  ⟨(some 8), none, (.call 17), [.tm 7]⟩,
  ⟨(some 5), none, .mov, [.tm 8]⟩])
 (.seq (.seq (.region [⟨(some 9), none, .mov, [.tm 5]⟩,
  ⟨(some 10), none, (.cmp .eql), [.tm 9, .cn (.int .i64 0)]⟩,
  ⟨(some 11), none, .mov, [.tm 10]⟩,
  ⟨(some 12), (some (11, true)), .mov, [.tm 1]⟩,
  ⟨(some 13), (some (11, true)), .len, [.tm 12]⟩,
  ⟨(some 14), (some (11, true)), (.cmp .gtr), [.tm 13, .cn (.int .i64 1000)]⟩,
  ⟨(some 15), none, .and, [.tm 11, .tm 14]⟩])
 (.cond (.tm 15) (.region [⟨(some 5), none, .mov, [.cn (.int .i64 3)]⟩])
  .skip))
 (.seq (.seq (.region [⟨(some 6), none, .mov, [.cn (.int .i64 0)]⟩])
 (.block 0 (.loop (.seq (.seq (.region [⟨(some 16), none, .mov, [.tm 6]⟩,
  ⟨(some 17), none, .mov, [.tm 1]⟩,
  ⟨(some 18), none, .len, [.tm 17]⟩,
  ⟨(some 19), none, (.cmp .lss), [.tm 16, .tm 18]⟩,
  ⟨(some 20), none, .mov, [.tm 19]⟩,
  ⟨(some 21), (some (20, true)), .mov, [.tm 5]⟩,
  ⟨(some 22), (some (20, true)), (.cmp .eql), [.tm 21, .cn (.int .i64 0)]⟩,
  ⟨(some 23), none, .and, [.tm 20, .tm 22]⟩])
 (.cond (.tm 23) .skip
  (.exit 0)))
 (.seq (.block 1 (.seq (.region [⟨(some 26), none, .mov, [.tm 1]⟩,
  ⟨(some 27), none, .mov, [.tm 6]⟩,
  ⟨(some 28), none, (.idxAddr 2), [.tm 26, .tm 27]⟩,
  ⟨(some 29), none, (.load true 2), [.tm 28]⟩,
  ⟨(some 30), none, (.call 35), [.tm 29]⟩,
  ⟨(some 31), none, (.cmp .neq), [.tm 30, .cn (.int .i64 0)]⟩,
  ⟨(some 32), none, .mov, [.tm 31]⟩,
  ⟨(some 33), (some (32, false)), .mov, [.tm 1]⟩,
  ⟨(some 34), (some (32, false)), .mov, [.tm 6]⟩,
  ⟨(some 35), (some (32, false)), (.idxAddr 2), [.tm 33, .tm 34]⟩,
  ⟨(some 36), (some (32, false)), (.fieldAddr 0), [.tm 35]⟩,
  ⟨(some 37), (some (32, false)), (.load false 1), [.tm 36]⟩,
  ⟨(some 38), (some (32, false)), (.cmp .lss), [.tm 37, .cn (.int .i64 0)]⟩,
  ⟨(some 39), none, .or, [.tm 32, .tm 38]⟩,
  ⟨(some 40), none, .mov, [.tm 39]⟩,
  ⟨(some 41), (some (40, false)), .mov, [.tm 1]⟩,
  ⟨(some 42), (some (40, false)), .mov, [.tm 6]⟩,
  ⟨(some 43), (some (40, false)), (.idxAddr 2), [.tm 41, .tm 42]⟩,
  ⟨(some 44), (some (40, false)), (.fieldAddr 1), [.tm 43]⟩,
  ⟨(some 45), (some (40, false)), (.load false 1), [.tm 44]⟩,
  ⟨(some 46), (some (40, false)), (.cmp .gtr), [.tm 45, .cn (.int .i64 4000000000)]⟩,
  ⟨(some 47), none, .or, [.tm 40, .tm 46]⟩])
 (.cond (.tm 47) (.region [⟨(some 5), none, .mov, [.cn (.int .i64 2)]⟩])
  .skip)))
 (.region [⟨(some 24), none, .mov, [.tm 6]⟩,
  ⟨(some 25), none, (.ari .add), [.tm 24, .cn (.int .i64 1)]⟩,
  ⟨(some 6), none, .mov, [.tm 25]⟩]))))))
 (.seq (.region [⟨(some 48), none, .mov, [.tm 5]⟩,
  ⟨(some 4), none, .mov, [.tm 48]⟩])
 .ret))))) }
theorem v31_is : vfunc Try.prog Try.f31 = some v31 := by kernel_rfl
def v40 : VF := { ntmps := 28, res := [.tmp 6], body :=
 (.seq (.region [⟨(some 3), none, .box, [.tm 0]⟩,
  ⟨(some 6), none, .mov, [.cn (.int .i64 0)]⟩])
 (.seq (.seq (.region [⟨(some 7), none, .mov, [.tm 1]⟩,
  ⟨(some 8), none, (.fieldAddr 1), [.tm 3]⟩,
  ⟨(some 9), none, (.load false 1), [.tm 8]⟩,
  ⟨(some 10), none, (.cmp .leq), [.tm 7, .tm 9]⟩])
 (.cond (.tm 10) (.seq (.region [⟨(some 11), none, .mov, [.tm 2]⟩,
  ⟨(some 6), none, .mov, [.tm 11]⟩])
 .ret)
  .skip))
 (.seq (.seq (.region [⟨(some 12), none, .mov, [.tm 1]⟩,
  ⟨(some 13), none, (.fieldAddr 2), [.tm 3]⟩,
  ⟨(some 14), none, (.load false 1), [.tm 13]⟩,
  ⟨(some 15), none, (.cmp .geq), [.tm 12, .tm 14]⟩])
 (.cond (.tm 15) (.seq (.region [⟨(some 6), none, .mov, [.cn (.int .i64 0)]⟩])
 .ret)
  .skip))
 (.seq (.region [⟨(some 16), none, .mov, [.tm 2]⟩,
  ⟨(some 17), none, (.fieldAddr 2), [.tm 3]⟩,
  ⟨(some 18), none, (.load false 1), [.tm 17]⟩,
  ⟨(some 19), none, .mov, [.tm 1]⟩,
  ⟨(some 20), none, (.ari .sub), [.tm 18, .tm 19]⟩,
  ⟨(some 21), none, (.ari .mul), [.tm 16, .tm 20]⟩,
  ⟨(some 22), none, (.fieldAddr 2), [.tm 3]⟩,
  ⟨(some 23), none, (.load false 1), [.tm 22]⟩,
  ⟨(some 24), none, (.fieldAddr 1), [.tm 3]⟩,
  ⟨(some 25), none, (.load false 1), [.tm 24]⟩,
  ⟨(some 26), none, (.ari .sub), [.tm 23, .tm 25]⟩,
  ⟨(some 27), none, .quo, [.tm 21, .tm 26]⟩,
  ⟨(some 6), none, .mov, [.tm 27]⟩])
 .ret)))) }
theorem v40_is : vfunc Try.prog Try.f40 = some v40 := by kernel_rfl
def v23 : VF := { ntmps := 25, res := [.tmp 8, .tmp 9, .tmp 10], body :=
 (.seq (.region [⟨(some 4), none, .box, [.tm 0]⟩,
  ⟨(some 8), none, .mov, [.cn (.int .i64 0)]⟩,
  ⟨(some 9), none, .mov, [.cn (.int .i64 0)]⟩,
  ⟨(some 10), none, .mov, [.cn (.bool false)]⟩])
 (.seq (.region [⟨(some 11), none, .mov, [.tm 1]⟩,
  ⟨(some 12), none, (.load true 5), [.tm 4]⟩,
  ⟨(some 13), none, .mov, [.tm 1]⟩,
  ⟨(some 14), none, .mov, [.tm 2]⟩,
  ⟨(some 15), none, (.call 40), [.tm 12, .tm 13, .tm 14]⟩,
  ⟨(some 16), none, (.ari .add), [.tm 11, .tm 15]⟩,
  ⟨(some 1), none, .mov, [.tm 16]⟩])
 (.seq (.seq (.region [⟨(some 17), none, .mov, [.tm 1]⟩,
  ⟨(some 18), none, .mov, [.tm 3]⟩,
  ⟨(some 19), none, (.cmp .lss), [.tm 17, .tm 18]⟩])
 (.cond (.tm 19) (.seq (.region [⟨(some 20), none, .mov, [.tm 1]⟩,
  ⟨(some 8), none, .mov, [.cn (.int .i64 0)]⟩,
  ⟨(some 9), none, .mov, [.tm 20]⟩,
  ⟨(some 10), none, .mov, [.cn (.bool true)]⟩])
 .ret)
  .skip))
 (.seq (.region [⟨(some 21), none, .mov, [.tm 1]⟩,
  ⟨(some 22), none, .mov, [.tm 3]⟩,
  ⟨(some 23), none, (.ari .sub), [.tm 21, .tm 22]⟩,
  ⟨(some 24), none, .mov, [.tm 3]⟩,
  ⟨(some 8), none, .mov, [.tm 23]⟩,
  ⟨(some 9), none, .mov, [.tm 24]⟩,
  ⟨(some 10), none, .mov, [.cn (.bool false)]⟩])
 .ret)))) }
theorem v23_is : vfunc Try.prog Try.f23 = some v23 := by kernel_rfl
def v32 : VF := { ntmps := 38, res := [.tmp 4], body :=
 (.seq (.region [⟨(some 2), none, .box, [.tm 0]⟩,
  ⟨(some 4), none, .mov, [.cn (.int .i64 0)]⟩])
 (.seq (.region [⟨(some 6), none, (.fieldAddr 0), [.tm 2]⟩,
  ⟨(some 7), none, (.load true 5), [.tm 6]⟩,
  ⟨(some 5), none, (.alloc [(.int .i64 0), (.int .i64 0), (.int .i64 0), (.int .i64 0), (.int .i64 0)]), []⟩,
  ⟨none, none, (.store 5), [.tm 5, .tm 7]⟩])
 (.block 0 (.seq (.region [⟨(some 24), none, .mov, [.tm 1]⟩,
  ⟨(some 25), none, (.fieldAddr 1), [.tm 5]⟩,
  ⟨(some 26), none, (.load false 1), [.tm 25]⟩,
  ⟨(some 27), none, (.cmp .leq), [.tm 24, .tm 26]⟩,
  ⟨(some 23), none, .mov, [.tm 27]⟩])
 (.cond (.tm 23) (.seq (.region [⟨(some 28), none, .mov, [.tm 1]⟩,
  ⟨(some 29), none, (.fieldAddr 5), [.tm 2]⟩,
  ⟨(some 30), none, (.load false 1), [.tm 29]⟩,
  ⟨(some 31), none, (.ari .add), [.tm 28, .tm 30]⟩,
  ⟨(some 4), none, .mov, [.tm 31]⟩])
 .ret)
  (.seq (.region [⟨(some 33), none, .mov, [.tm 1]⟩,
  ⟨(some 34), none, (.fieldAddr 2), [.tm 5]⟩,
  ⟨(some 35), none, (.load false 1), [.tm 34]⟩,
  ⟨(some 36), none, (.cmp .geq), [.tm 33, .tm 35]⟩,
  ⟨(some 32), none, .mov, [.tm 36]⟩])
 (.cond (.tm 32) (.seq (.region [⟨(some 37), none, .mov, [.tm 1]⟩,
  ⟨(some 4), none, .mov, [.tm 37]⟩])
 .ret)
  (.seq (.region [⟨(some 8), none, .mov, [.tm 1]⟩,
  ⟨(some 9), none, (.fieldAddr 5), [.tm 2]⟩,
  ⟨(some 10), none, (.load false 1), [.tm 9]⟩,
  ⟨(some 11), none, (.fieldAddr 2), [.tm 5]⟩,
  ⟨(some 12), none, (.load false 1), [.tm 11]⟩,
  ⟨(some 13), none, .mov, [.tm 1]⟩,
  ⟨(some 14), none, (.ari .sub), [.tm 12, .tm 13]⟩,
  ⟨(some 15), none, (.ari .mul), [.tm 10, .tm 14]⟩,
  ⟨(some 16), none, (.fieldAddr 2), [.tm 5]⟩,
  ⟨(some 17), none, (.load false 1), [.tm 16]⟩,
  ⟨(some 18), none, (.fieldAddr 1), [.tm 5]⟩,
  ⟨(some 19), none, (.load false 1), [.tm 18]⟩,
  ⟨(some 20), none, (.ari .sub), [.tm 17, .tm 19]⟩,
  ⟨(some 21), none, .quo, [.tm 15, .tm 20]⟩,
  ⟨(some 22), none, (.ari .add), [.tm 8, .tm 21]⟩,
  ⟨(some 4), none, .mov, [.tm 22]⟩])
 .ret)))))))) }
theorem v32_is : vfunc Try.prog Try.f32 = some v32 := by kernel_rfl
def v43 : VF := { ntmps := 5, res := [.tmp 2], body :=
 (.seq (.region [⟨(some 1), none, .box, [.tm 0]⟩,
  ⟨(some 2), none, .mov, [.cn (.int .i64 0)]⟩])
 (.seq (.region [⟨(some 3), none, (.fieldAddr 1), [.tm 1]⟩,
  ⟨(some 4), none, (.load false 1), [.tm 3]⟩,
  ⟨(some 2), none, .mov, [.tm 4]⟩])
 .ret)) }
theorem v43_is : vfunc Try.prog Try.f43 = some v43 := by kernel_rfl
def v45 : VF := { ntmps := 5, res := [.tmp 2], body :=
 (.seq (.region [⟨(some 1), none, .box, [.tm 0]⟩,
  ⟨(some 2), none, .mov, [.cn (.int .i64 0)]⟩])
 (.seq (.region [⟨(some 3), none, (.fieldAddr 0), [.tm 1]⟩,
  ⟨(some 4), none, (.load false 1), [.tm 3]⟩,
  ⟨(some 2), none, .mov, [.tm 4]⟩])
 .ret)) }
theorem v45_is : vfunc Try.prog Try.f45 = some v45 := by kernel_rfl
def v28 : VF := { ntmps := 8, res := [.cell 2 true 7], body :=
 (.seq (.region [⟨(some 1), none, .box, [.tm 0]⟩,
  ⟨(some 2), none, (.alloc [(.int .i64 0), (.int .i64 0), (.int .i64 0), (.int .i64 0), (.int .i64 0), (.int .i64 0), (.val .nilFunc)]), []⟩])
 (.seq (.region [⟨(some 3), none, (.load true 5), [.tm 1]⟩,
  ⟨(some 4), none, (.fieldAddr 3), [.tm 1]⟩,
  ⟨(some 5), none, (.fieldAddr 0), [.tm 4]⟩,
  ⟨(some 6), none, (.load false 1), [.tm 5]⟩,
  ⟨(some 7), none, (.build [(.int .i64 0), (.int .i64 0), (.int .i64 0), (.int .i64 0), (.int .i64 0), (.int .i64 0), (.val .nilFunc)] [(0, 5), (5, 1), (6, 1)]), [.tm 3, .tm 6, .cn (.fn (.func 43) [] [])]⟩,
  ⟨none, none, (.store 7), [.tm 2, .tm 7]⟩])
 .ret)) }
theorem v28_is : vfunc Try.prog Try.f28 = some v28 := by kernel_rfl
def v30 : VF := { ntmps := 8, res := [.cell 2 true 7], body :=
 (.seq (.region [⟨(some 1), none, .box, [.tm 0]⟩,
  ⟨(some 2), none, (.alloc [(.int .i64 0), (.int .i64 0), (.int .i64 0), (.int .i64 0), (.int .i64 0), (.int .i64 0), (.val .nilFunc)]), []⟩])
 (.seq (.region [⟨(some 3), none, (.load true 5), [.tm 1]⟩,
  ⟨(some 4), none, (.fieldAddr 3), [.tm 1]⟩,
  ⟨(some 5), none, (.fieldAddr 1), [.tm 4]⟩,
  ⟨(some 6), none, (.load false 1), [.tm 5]⟩,
  ⟨(some 7), none, (.build [(.int .i64 0), (.int .i64 0), (.int .i64 0), (.int .i64 0), (.int .i64 0), (.int .i64 0), (.val .nilFunc)] [(0, 5), (5, 1), (6, 1)]), [.tm 3, .tm 6, .cn (.fn (.func 45) [] [])]⟩,
  ⟨none, none, (.store 7), [.tm 2, .tm 7]⟩])
 .ret)) }
theorem v30_is : vfunc Try.prog Try.f30 = some v30 := by kernel_rfl
def v29 : VF := { ntmps := 21, res := [.tmp 4], body :=
 (.seq (.region [⟨(some 2), none, .box, [.tm 0]⟩,
  ⟨(some 4), none, .mov, [.cn .nil]⟩])
 (.seq (.region [⟨(some 5), none, (.alloc [.nil]), []⟩])
 (.seq (.seq (.region [⟨(some 8), none, (.load true 7), [.tm 2]⟩,
  ⟨(some 9), none, .mov, [.tm 1]⟩,
  ⟨(some 10), none, (.call 44), [.tm 8, .tm 9]⟩])
 (.block 0 (.rangeFn (.tm 10) [11, 12] (.seq (.region [⟨(some 6), none, .mov, [.tm 11]⟩])
 (.region [⟨(some 7), none, .mov, [.tm 12]⟩]))
 (.block 1 (.region [⟨(some 13), none, (.load false 1), [.tm 5]⟩,
  ⟨(some 14), none, .mov, [.tm 6]⟩,
  ⟨(some 15), none, .mov, [.tm 7]⟩,
  ⟨(some 16), none, (.ari .sub), [.tm 14, .tm 15]⟩,
  ⟨(some 17), none, .max, [.tm 16, .cn (.int .i64 0)]⟩,
  ⟨(some 18), none, (.buildSlice 1 1 [(.int .i64 0)] [(0, 1)]), [.tm 17]⟩,
  ⟨(some 19), none, (.append 1 8 [(.int .i64 0)]), [.tm 13, .tm 18]⟩,
  ⟨none, none, (.store 1), [.tm 5, .tm 19]⟩])))))
 (.seq (.region [⟨(some 20), none, (.load false 1), [.tm 5]⟩,
  ⟨(some 4), none, .mov, [.tm 20]⟩])
 .ret)))) }
theorem v29_is : vfunc Try.prog Try.f29 = some v29 := by kernel_rfl
def v33 : VF := { ntmps := 19, res := [.cell 4 false 1], body :=
 (.seq (.region [⟨(some 2), none, .box, [.tm 0]⟩,
  ⟨(some 4), none, (.alloc [(.int .i64 0)]), []⟩])
 (.seq (.region [⟨(some 5), none, (.alloc [(.int .i64 0)]), []⟩,
  ⟨none, none, (.store 1), [.tm 5, .cn (.int .i64 0)]⟩])
 (.seq (.seq (.region [⟨(some 8), none, (.load true 7), [.tm 2]⟩,
  ⟨(some 9), none, .mov, [.tm 1]⟩,
  ⟨(some 10), none, (.call 44), [.tm 8, .tm 9]⟩])
 (.block 0 (.rangeFn (.tm 10) [11, 12] (.seq (.region [⟨(some 6), none, .mov, [.tm 11]⟩])
 (.region [⟨(some 7), none, .mov, [.tm 12]⟩]))
 (.block 1 (.seq (.seq (.region [⟨(some 13), none, .mov, [.tm 6]⟩,
  ⟨(some 14), none, .mov, [.tm 7]⟩,
  ⟨(some 15), none, (.cmp .lss), [.tm 13, .tm 14]⟩])
 (.cond (.tm 15) (.seq (.region [⟨(some 16), none, (.load false 1), [.tm 5]⟩,
  ⟨none, none, (.store 1), [.tm 4, .tm 16]⟩])
 .ret)
  .skip))
 (.region [⟨(some 17), none, (.load false 1), [.tm 5]⟩,
  ⟨(some 18), none, (.ari .add), [.tm 17, .cn (.int .i64 1)]⟩,
  ⟨none, none, (.store 1), [.tm 5, .tm 18]⟩]))))))
 (.seq (.region [⟨none, none, (.store 1), [.tm 4, .cn (.int .i64 (-1))]⟩])
 .ret)))) }
theorem v33_is : vfunc Try.prog Try.f33 = some v33 := by kernel_rfl
def v44 : VF := { ntmps := 6, res := [.tmp 4], body :=
 (.seq (.region [⟨(some 2), none, .box, [.tm 0]⟩,
  ⟨(some 3), none, .box, [.tm 1]⟩,
  ⟨(some 4), none, .mov, [.cn (.val .nilFunc)]⟩])
 (.seq (.region [⟨(some 5), none, (.mkfn (.func 49) 0), [.tm 2, .tm 3]⟩,
  ⟨(some 4), none, .mov, [.tm 5]⟩])
 .ret)) }
theorem v44_is : vfunc Try.prog Try.f44 = some v44 := by kernel_rfl
def v49 : VF := { ntmps := 35, res := [], body :=
 (.seq (.region [⟨(some 9), none, (.fieldAddr 0), [.tm 1]⟩,
  ⟨(some 10), none, (.fieldAddr 0), [.tm 9]⟩,
  ⟨(some 11), none, (.load false 1), [.tm 10]⟩,
  ⟨(some 4), none, .mov, [.tm 11]⟩])
 (.seq (.region [⟨(some 12), none, (.load false 1), [.tm 2]⟩,
  ⟨(some 13), none, .len, [.tm 12]⟩,
  ⟨(some 14), none, .mov, [.cn (.int .i64 0)]⟩])
 (.block 0 (.loop (.seq (.region [⟨(some 15), none, (.cmp .lss), [.tm 14, .tm 13]⟩])
 (.seq (.cond (.tm 15) .skip
  (.exit 0))
 (.seq (.block 1 (.seq (.region [⟨(some 16), none, (.idxAddr 2), [.tm 12, .tm 14]⟩,
  ⟨(some 17), none, (.load true 2), [.tm 16]⟩,
  ⟨(some 6), none, (.alloc [(.int .i64 0), (.int .i64 0)]), []⟩,
  ⟨none, none, (.store 2), [.tm 6, .tm 17]⟩])
 (.seq (.draw [] [⟨⟨(some 18), none, (.load true 7), [.tm 1]⟩, []⟩,
  ⟨⟨(some 19), none, .mov, [.tm 4]⟩, []⟩,
  ⟨⟨(some 21), none, (.fieldAddr 6), [.tm 1]⟩, []⟩,
  ⟨⟨(some 22), none, (.load false 1), [.tm 21]⟩, []⟩,
  ⟨⟨(some 23), none, (.load true 2), [.tm 6]⟩, []⟩,
  ⟨⟨(some 20), none, (.call 32), [.tm 18, .tm 19]⟩, []⟩,
  ⟨⟨(some 24), none, .callv, [.tm 22, .tm 23]⟩, []⟩,
  ⟨⟨(some 7), none, .mov, [.tm 20]⟩, []⟩,
  ⟨⟨(some 8), none, .mov, [.tm 24]⟩, []⟩])
 (.seq (.seq (.region [⟨(some 25), none, .mov, [.tm 0]⟩,
  ⟨(some 26), none, .mov, [.tm 7]⟩,
  ⟨(some 27), none, .mov, [.tm 8]⟩,
  ⟨(some 28), none, .callv, [.tm 25, .tm 26, .tm 27]⟩,
  ⟨(some 29), none, .not, [.tm 28]⟩])
 (.cond (.tm 29) .ret
  .skip))
 (.region [⟨(some 30), none, .mov, [.tm 7]⟩,
  ⟨(some 31), none, .mov, [.tm 8]⟩,
  ⟨(some 32), none, (.ari .sub), [.tm 30, .tm 31]⟩,
  ⟨(some 33), none, .max, [.tm 32, .cn (.int .i64 0)]⟩,
  ⟨(some 4), none, .mov, [.tm 33]⟩])))))
 (.region [⟨(some 34), none, (.ari .add), [.tm 14, .cn (.int .i64 1)]⟩,
  ⟨(some 14), none, .mov, [.tm 34]⟩])))))))) }
theorem v49_is : vfunc Try.prog Try.f49 = some v49 := by kernel_rfl


def askC : Ctr := { alias := false, of := fun a => match a with
  | [.agg [.int .i64 st, .int .i64 lo, .int .i64 hi, .int .i64 il, .int .i64 ih], .vs _ _ n sz get] => .ex (List Iv) fun l => .pre (lsP 2 enc2 n sz get l ∧ l.length ≤ 9223372036854775807) (.fin (.int .i64 (askF ⟨st, lo, hi, il, ih⟩ l)) [])
  | _ => noC }

def F1 : Env := { ct := fun n => match n with | 16 => some belC | 17 => some belC | 42 => some anyC | 35 => some iv1C | _ => none, fn := fun _ => none, meth := fun _ _ => none }
theorem F1_ct16 : F1.ct 16 = some belC := rfl
theorem F1_ct17 : F1.ct 17 = some belC := rfl
theorem F1_ct42 : F1.ct 42 = some anyC := rfl
theorem F1_ct35 : F1.ct 35 = some iv1C := rfl
theorem F1_ok : EnvOk Try.prog F1 := by
  refine ⟨fun f c h => ?_, fun f vf h => ?_, fun _ _ => rfl, by kernel_rfl⟩
  · simp only [F1] at h
    split at h
    · cases h; exact ⟨bel16, Try.f16, Try.func16, by kernel_rfl, by kernel_rfl⟩
    · cases h; exact ⟨bel17, Try.f17, Try.func17, by kernel_rfl, by kernel_rfl⟩
    · cases h; exact ⟨any42, Try.f42, Try.func42, by kernel_rfl, by kernel_rfl⟩
    · cases h; exact ⟨iv35, Try.f35, Try.func35, by kernel_rfl, by kernel_rfl⟩
    · cases h
  · cases h


theorem ask27 : askC.ok Try.prog 27 := by
  refine contract Try.func27 v27_is F1_ok 400 askC fun args k h => ?_
  simp only [askC] at h
  split at h
  · rename_i st lo hi il ih tt z n sz get
    obtain ⟨l, ⟨⟨rfl, rfl, hg⟩, hmax⟩, h⟩ := h
    refine ⟨[.agg [.int .i64 st, .int .i64 lo, .int .i64 hi, .int .i64 il, .int .i64 ih], .vs tt z l.length 2 (fun k => enc2 (l.getD k default))], by simpa [leL, le] using hg, ?_⟩
    dsimp only [v27, F1_ct16, belC, F1_ct42, anyC, enc2, r_end, r_end1, r_nil, r_op, r_opg, r_runOp, r_op0, r_yld0, r_yld1, r_y, r_rbeg, r_rend, r_rend1, r_rfrm, r_rfrm1, r_range, r_rangeK, r_rangeE, r_draw, r_dnil, r_dop, r_dopg, r_dplq, r_dplh, r_dq, r_dq0, r_dcl1, r_dcl0, r_dct1, r_dct0, r_dgd, r_dgq1, r_dgq0, r_dctG, r_op1, r_eff, r_eff0, r_call, r_call0, r_inl, r_g, r_gq, r_gc, r_effg, r_effg0, r_callg, r_callg0, r_fin, r_pre, r_imp, r_all, r_ex, r_fing, r_preg, r_exg, r_inBlock, r_inLoop, r_frame, r_frame1, r_skip, r_region, r_seq, r_cond, r_cond1, r_block, r_exit, r_exit1, r_exit2, r_ret, r_loop, s_args0, s_args1, s_xt, s_xc, padL, blankL, callee, callArgs, eff, ctOf, getL, setL, S.put, S.upd, unopts, unopt, unoptsO, unoptsB, lazyO, guardOf, gbool, eMov, eNot, eNeg, eConv, eExt, eLenArr, eLen, eLenStr, eEqb, eEqv, allEq, eNil, negIf, eBool2, eCmp, eAri, ari, eBit, eDiv, eSh, eMinMax, foldMin, foldMax, kEq, pure1, cmpB, VO.quiet, resVals, resVal, tupled, popRet, popTo, cond, Option.bind, Option.map, eNew, eBox, asCells, lenH, snocH, eFieldAddr, eField, eLoad, cellsAt, getH, setH, dropL, takeL, mkAgg, lenL, lenS, shift, shiftL, shiftH, viewN, viewL, view, andT, junks, List.append_nil, Nat.beq, eIdxAddr, eIdxArr, eIndex, eStore, storeAt, spliceL, ones, one, eSlice, eSliceArr, bounds, subLo, addLo, eMake, eAppend, readS, repL, buildCells, chunk, purgeL, purgeLL, purgeH, purge, refs, refsL, List.cons_append, List.nil_append, wrOps, wrAl, wrDops, wrC, junkAt, putAll, putHs, headOf, headK, keepG, List.append_eq, headX, chkP, apartP, apartB, blk, strip, runAl, yld, putPs, lenN, findR, notRound, jumpK, jumpPT, jcode, List.map_cons, List.map_nil, ite_self, reduceIte]
    simp only [true_and, and_true, imp_self, implies_true, decide_eq_true_eq, decide_eq_false_iff_not, Nat.reduceAdd, Nat.reduceLeDiff, Bool.not_not, reduceCtorEq, false_imp_iff, Bool.not_eq_true', Bool.not_eq_false', Bool.false_eq_true, and_self, forall_const, ne_eq, not_false_eq_true, Nat.reduceEqDiff]
    refine ⟨fun hb => ans_int ?_, fun hb => ⟨fun hc => ans_int ?_, fun hc => ⟨l, ⟨lsP_self, hmax⟩, fun hd => ans_int ?_, fun hd => ans_int ?_⟩⟩⟩
    · rw [askF, if_pos hb] at h; exact h
    · rw [askF, if_neg (by rw [hb]; simp), if_pos (by omega)] at h; exact h
    · rw [askF, if_neg (by rw [hb]; simp), if_neg (by omega), if_pos hd] at h; exact h
    · rw [askF, if_neg (by rw [hb]; simp), if_neg (by omega), if_neg (by rw [hd]; simp)] at h; exact h
  · exact h.1.elim

theorem ask31 : askC.ok Try.prog 31 := by
  refine contract Try.func31 v31_is F1_ok 400 askC fun args k h => ?_
  simp only [askC] at h
  split at h
  · rename_i st lo hi il ih tt z n sz get
    obtain ⟨l, ⟨⟨rfl, rfl, hg⟩, hmax⟩, h⟩ := h
    refine ⟨[.agg [.int .i64 st, .int .i64 lo, .int .i64 hi, .int .i64 il, .int .i64 ih], .vs tt z l.length 2 (fun k => enc2 (l.getD k default))], by simpa [leL, le] using hg, ?_⟩
    dsimp only [v31, F1_ct17, belC, enc2, r_end, r_end1, r_nil, r_op, r_opg, r_runOp, r_op0, r_yld0, r_yld1, r_y, r_rbeg, r_rend, r_rend1, r_rfrm, r_rfrm1, r_range, r_rangeK, r_rangeE, r_draw, r_dnil, r_dop, r_dopg, r_dplq, r_dplh, r_dq, r_dq0, r_dcl1, r_dcl0, r_dct1, r_dct0, r_dgd, r_dgq1, r_dgq0, r_dctG, r_op1, r_eff, r_eff0, r_call, r_call0, r_inl, r_g, r_gq, r_gc, r_effg, r_effg0, r_callg, r_callg0, r_fin, r_pre, r_imp, r_all, r_ex, r_fing, r_preg, r_exg, r_inBlock, r_inLoop, r_frame, r_frame1, r_skip, r_region, r_seq, r_cond, r_cond1, r_block, r_exit, r_exit1, r_exit2, r_ret, r_loop, s_args0, s_args1, s_xt, s_xc, padL, blankL, callee, callArgs, eff, ctOf, getL, setL, S.put, S.upd, unopts, unopt, unoptsO, unoptsB, lazyO, guardOf, gbool, eMov, eNot, eNeg, eConv, eExt, eLenArr, eLen, eLenStr, eEqb, eEqv, allEq, eNil, negIf, eBool2, eCmp, eAri, ari, eBit, eDiv, eSh, eMinMax, foldMin, foldMax, kEq, pure1, cmpB, VO.quiet, resVals, resVal, tupled, popRet, popTo, cond, Option.bind, Option.map, eNew, eBox, asCells, lenH, snocH, eFieldAddr, eField, eLoad, cellsAt, getH, setH, dropL, takeL, mkAgg, lenL, lenS, shift, shiftL, shiftH, viewN, viewL, view, andT, junks, List.append_nil, Nat.beq, eIdxAddr, eIdxArr, eIndex, eStore, storeAt, spliceL, ones, one, eSlice, eSliceArr, bounds, subLo, addLo, eMake, eAppend, readS, repL, buildCells, chunk, purgeL, purgeLL, purgeH, purge, refs, refsL, List.cons_append, List.nil_append, wrOps, wrAl, wrDops, wrC, junkAt, putAll, putHs, headOf, headK, keepG, List.append_eq, headX, chkP, apartP, apartB, blk, strip, runAl, yld, putPs, lenN, findR, notRound, jumpK, jumpPT, jcode, List.map_cons, List.map_nil, ite_self, reduceIte]
    simp only [true_and, and_true, imp_self, implies_true, decide_eq_true_eq, decide_eq_false_iff_not, Nat.reduceAdd, Nat.reduceLeDiff, Bool.not_not, reduceCtorEq, false_imp_iff, Bool.not_eq_true', Bool.not_eq_false', Bool.false_eq_true, and_self, forall_const, ne_eq, not_false_eq_true, Nat.reduceEqDiff]
    refine ⟨fun hb => ?_, fun hb => ?_⟩
    · rw [Bool.and_eq_true, decide_eq_true_eq, decide_eq_true_eq] at hb
      refine Loop.keep [1, 0, 2, 0] (Nat × Int) (fun x => [(5, .int .i64 x.2), (6, .int .i64 x.1)]) (fun _ => []) [] (fun x => x.1 ≤ l.length ∧ ((x.2 = 0 ∧ belE ⟨st, lo, hi, il, ih⟩ = 0 ∧ l.length ≤ 1000 ∧ ∀ j, j < x.1 → wrongF (l.getD j default) = false) ∨ (x.2 ≠ 0 ∧ askF ⟨st, lo, hi, il, ih⟩ l = x.2))) (fun x => l.length - x.1) ?_ ?_
      · refine ⟨(0, 3), ⟨Nat.zero_le _, ?_⟩, ?_⟩
        · exact .inr ⟨by simp, by rw [askF, if_neg (by rw [hb.1]; simp), if_pos (by omega)]⟩
        · dsimp only [r_end, r_end1, r_nil, r_op, r_opg, r_runOp, r_op0, r_yld0, r_yld1, r_y, r_rbeg, r_rend, r_rend1, r_rfrm, r_rfrm1, r_range, r_rangeK, r_rangeE, r_draw, r_dnil, r_dop, r_dopg, r_dplq, r_dplh, r_dq, r_dq0, r_dcl1, r_dcl0, r_dct1, r_dct0, r_dgd, r_dgq1, r_dgq0, r_dctG, r_op1, r_eff, r_eff0, r_call, r_call0, r_inl, r_g, r_gq, r_gc, r_effg, r_effg0, r_callg, r_callg0, r_fin, r_pre, r_imp, r_all, r_ex, r_fing, r_preg, r_exg, r_inBlock, r_inLoop, r_frame, r_frame1, r_skip, r_region, r_seq, r_cond, r_cond1, r_block, r_exit, r_exit1, r_exit2, r_ret, r_loop, s_args0, s_args1, s_xt, s_xc, padL, blankL, callee, callArgs, eff, ctOf, getL, setL, S.put, S.upd, unopts, unopt, unoptsO, unoptsB, lazyO, guardOf, gbool, eMov, eNot, eNeg, eConv, eExt, eLenArr, eLen, eLenStr, eEqb, eEqv, allEq, eNil, negIf, eBool2, eCmp, eAri, ari, eBit, eDiv, eSh, eMinMax, foldMin, foldMax, kEq, pure1, cmpB, VO.quiet, resVals, resVal, tupled, popRet, popTo, cond, Option.bind, Option.map, eNew, eBox, asCells, lenH, snocH, eFieldAddr, eField, eLoad, cellsAt, getH, setH, dropL, takeL, mkAgg, lenL, lenS, shift, shiftL, shiftH, viewN, viewL, view, andT, junks, List.append_nil, Nat.beq, eIdxAddr, eIdxArr, eIndex, eStore, storeAt, spliceL, ones, one, eSlice, eSliceArr, bounds, subLo, addLo, eMake, eAppend, readS, repL, buildCells, chunk, purgeL, purgeLL, purgeH, purge, refs, refsL, List.cons_append, List.nil_append, wrOps, wrAl, wrDops, wrC, junkAt, putAll, putHs, headOf, headK, keepG, List.append_eq, headX, chkP, apartP, apartB, blk, strip, runAl, yld, putPs, lenN, findR, notRound, jumpK, jumpPT, jcode, List.map_cons, List.map_nil, ite_self, reduceIte]
          simp only [leS_mk, leL_cons, leL_nil, le_junk, le_int, le_bool, le_nil, leLL_nil, leLL_cons, leH_cons, leH_nil, leH1_box, leH1_own, leH1_gone, le_vs, le_agg, le_tup, le_ptr, le_own, le_xp, le_fn, le_opt, le_val, le_elem, le_nil_own, le_nil_vs, leH_ghost, leL_chunk, leXL_id, bnd_int, bnd_bool, bnd_val, bnd_nil, bnd_junk, bnd_vs, bnd_xp, bnd_agg, bnd_tup, bnd_ptr, bnd_own, bnd_elem, bnd_fn, bnd_iface, bnd_opt, bndL_nil, bndL_cons, lenH_cons, lenH_nil, imp_self, implies_true, true_and, and_true] <;> simp
      · rintro ⟨i, e⟩ ⟨hi', ha⟩
        dsimp only [F1_ct35, iv1C, enc2, Int.toNat_natCast, r_end, r_end1, r_nil, r_op, r_opg, r_runOp, r_op0, r_yld0, r_yld1, r_y, r_rbeg, r_rend, r_rend1, r_rfrm, r_rfrm1, r_range, r_rangeK, r_rangeE, r_draw, r_dnil, r_dop, r_dopg, r_dplq, r_dplh, r_dq, r_dq0, r_dcl1, r_dcl0, r_dct1, r_dct0, r_dgd, r_dgq1, r_dgq0, r_dctG, r_op1, r_eff, r_eff0, r_call, r_call0, r_inl, r_g, r_gq, r_gc, r_effg, r_effg0, r_callg, r_callg0, r_fin, r_pre, r_imp, r_all, r_ex, r_fing, r_preg, r_exg, r_inBlock, r_inLoop, r_frame, r_frame1, r_skip, r_region, r_seq, r_cond, r_cond1, r_block, r_exit, r_exit1, r_exit2, r_ret, r_loop, s_args0, s_args1, s_xt, s_xc, padL, blankL, callee, callArgs, eff, ctOf, getL, setL, S.put, S.upd, unopts, unopt, unoptsO, unoptsB, lazyO, guardOf, gbool, eMov, eNot, eNeg, eConv, eExt, eLenArr, eLen, eLenStr, eEqb, eEqv, allEq, eNil, negIf, eBool2, eCmp, eAri, ari, eBit, eDiv, eSh, eMinMax, foldMin, foldMax, kEq, pure1, cmpB, VO.quiet, resVals, resVal, tupled, popRet, popTo, cond, Option.bind, Option.map, eNew, eBox, asCells, lenH, snocH, eFieldAddr, eField, eLoad, cellsAt, getH, setH, dropL, takeL, mkAgg, lenL, lenS, shift, shiftL, shiftH, viewN, viewL, view, andT, junks, List.append_nil, Nat.beq, eIdxAddr, eIdxArr, eIndex, eStore, storeAt, spliceL, ones, one, eSlice, eSliceArr, bounds, subLo, addLo, eMake, eAppend, readS, repL, buildCells, chunk, purgeL, purgeLL, purgeH, purge, refs, refsL, List.cons_append, List.nil_append, wrOps, wrAl, wrDops, wrC, junkAt, putAll, putHs, headOf, headK, keepG, List.append_eq, headX, chkP, apartP, apartB, blk, strip, runAl, yld, putPs, lenN, findR, notRound, jumpK, jumpPT, jcode, List.map_cons, List.map_nil, ite_self, reduceIte]
        simp only [true_and, and_true, imp_self, implies_true, decide_eq_true_eq, decide_eq_false_iff_not, Nat.reduceAdd, Nat.reduceLeDiff, Bool.not_not, reduceCtorEq, false_imp_iff, Bool.not_eq_true', Bool.not_eq_false', Bool.false_eq_true, and_self, forall_const, ne_eq, not_false_eq_true, Nat.reduceEqDiff]
        simp only at hi' ha
        refine ⟨fun hlt => ?_, fun hge => ans_int ?_⟩
        · rw [Bool.and_eq_true, decide_eq_true_eq, decide_eq_true_eq] at hlt
          obtain ⟨hlt, rfl⟩ := hlt
          obtain ⟨_, hb0, h1000, hall⟩ := ha.resolve_right (fun hh => hh.1 rfl)
          refine ⟨⟨by omega, hlt⟩, fun _ => ⟨by omega, hlt⟩, fun _ => ⟨by omega, hlt⟩, fun hw => ?_, fun hw => ?_⟩
          · refine ⟨(i + 1, 2), ⟨by simp only; omega, .inr ⟨by simp, ?_⟩⟩, by simp only; omega, ?_⟩
            · rw [askF, if_neg (by rw [hb0]; simp), if_neg (by omega), if_pos]
              exact List.any_eq_true.2 ⟨_, getD_mem (by omega : i < l.length), hw⟩
            · have hs := w_succ (i := i) (n := l.length) (by omega) (by omega)
              simp only [hs, leS_mk, leL_cons, leL_nil, le_junk, le_int, le_bool, le_nil, leLL_nil, leLL_cons, leH_cons, leH_nil, leH1_box, leH1_own, leH1_gone, le_vs, le_agg, le_tup, le_ptr, le_own, le_xp, le_fn, le_opt, le_val, le_elem, le_nil_own, le_nil_vs, leH_ghost, leL_chunk, leXL_id, bnd_int, bnd_bool, bnd_val, bnd_nil, bnd_junk, bnd_vs, bnd_xp, bnd_agg, bnd_tup, bnd_ptr, bnd_own, bnd_elem, bnd_fn, bnd_iface, bnd_opt, bndL_nil, bndL_cons, lenH_cons, lenH_nil, imp_self, implies_true, true_and, and_true] <;> simp
          · refine ⟨(i + 1, 0), ⟨by simp only; omega, .inl ⟨rfl, hb0, h1000, fun j hj => ?_⟩⟩, by simp only; omega, ?_⟩
            · rcases Nat.lt_or_ge j i with h' | h'
              · exact hall j h'
              · obtain rfl : j = i := by simp only at hj; omega
                exact hw
            · have hs := w_succ (i := i) (n := l.length) (by omega) (by omega)
              simp only [hs, leS_mk, leL_cons, leL_nil, le_junk, le_int, le_bool, le_nil, leLL_nil, leLL_cons, leH_cons, leH_nil, leH1_box, leH1_own, leH1_gone, le_vs, le_agg, le_tup, le_ptr, le_own, le_xp, le_fn, le_opt, le_val, le_elem, le_nil_own, le_nil_vs, leH_ghost, leL_chunk, leXL_id, bnd_int, bnd_bool, bnd_val, bnd_nil, bnd_junk, bnd_vs, bnd_xp, bnd_agg, bnd_tup, bnd_ptr, bnd_own, bnd_elem, bnd_fn, bnd_iface, bnd_opt, bndL_nil, bndL_cons, lenH_cons, lenH_nil, imp_self, implies_true, true_and, and_true] <;> simp
        · rcases ha with ⟨rfl, hb0, h1000, hall⟩ | ⟨h0, he⟩
          · have hil : i = l.length := by
              simp at hge; omega
            subst hil
            have e : l.any wrongF = false := by
              rw [Bool.eq_false_iff]
              intro hany
              obtain ⟨x, hx, hxx⟩ := List.any_eq_true.1 hany
              obtain ⟨j, hj, rfl⟩ := mem_getD hx
              rw [hall j hj] at hxx; cases hxx
            rw [askF, if_neg (by rw [hb0]; simp), if_neg (by omega), if_neg (by rw [e]; simp)] at h
            exact h
          · rw [he] at h; exact h
    · rw [Bool.and_eq_false_iff, decide_eq_false_iff_not, decide_eq_false_iff_not] at hb
      refine Loop.keep [1, 0, 2, 0] (Nat × Int) (fun x => [(5, .int .i64 x.2), (6, .int .i64 x.1)]) (fun _ => []) [] (fun x => x.1 ≤ l.length ∧ ((x.2 = 0 ∧ belE ⟨st, lo, hi, il, ih⟩ = 0 ∧ l.length ≤ 1000 ∧ ∀ j, j < x.1 → wrongF (l.getD j default) = false) ∨ (x.2 ≠ 0 ∧ askF ⟨st, lo, hi, il, ih⟩ l = x.2))) (fun x => l.length - x.1) ?_ ?_
      · refine ⟨(0, belE ⟨st, lo, hi, il, ih⟩), ⟨Nat.zero_le _, ?_⟩, ?_⟩
        · by_cases h0 : belE ⟨st, lo, hi, il, ih⟩ = 0
          · exact .inl ⟨h0, h0, by omega, fun j hj => by simp only at hj; omega⟩
          · exact .inr ⟨h0, by rw [askF, if_pos h0]⟩
        · dsimp only [r_end, r_end1, r_nil, r_op, r_opg, r_runOp, r_op0, r_yld0, r_yld1, r_y, r_rbeg, r_rend, r_rend1, r_rfrm, r_rfrm1, r_range, r_rangeK, r_rangeE, r_draw, r_dnil, r_dop, r_dopg, r_dplq, r_dplh, r_dq, r_dq0, r_dcl1, r_dcl0, r_dct1, r_dct0, r_dgd, r_dgq1, r_dgq0, r_dctG, r_op1, r_eff, r_eff0, r_call, r_call0, r_inl, r_g, r_gq, r_gc, r_effg, r_effg0, r_callg, r_callg0, r_fin, r_pre, r_imp, r_all, r_ex, r_fing, r_preg, r_exg, r_inBlock, r_inLoop, r_frame, r_frame1, r_skip, r_region, r_seq, r_cond, r_cond1, r_block, r_exit, r_exit1, r_exit2, r_ret, r_loop, s_args0, s_args1, s_xt, s_xc, padL, blankL, callee, callArgs, eff, ctOf, getL, setL, S.put, S.upd, unopts, unopt, unoptsO, unoptsB, lazyO, guardOf, gbool, eMov, eNot, eNeg, eConv, eExt, eLenArr, eLen, eLenStr, eEqb, eEqv, allEq, eNil, negIf, eBool2, eCmp, eAri, ari, eBit, eDiv, eSh, eMinMax, foldMin, foldMax, kEq, pure1, cmpB, VO.quiet, resVals, resVal, tupled, popRet, popTo, cond, Option.bind, Option.map, eNew, eBox, asCells, lenH, snocH, eFieldAddr, eField, eLoad, cellsAt, getH, setH, dropL, takeL, mkAgg, lenL, lenS, shift, shiftL, shiftH, viewN, viewL, view, andT, junks, List.append_nil, Nat.beq, eIdxAddr, eIdxArr, eIndex, eStore, storeAt, spliceL, ones, one, eSlice, eSliceArr, bounds, subLo, addLo, eMake, eAppend, readS, repL, buildCells, chunk, purgeL, purgeLL, purgeH, purge, refs, refsL, List.cons_append, List.nil_append, wrOps, wrAl, wrDops, wrC, junkAt, putAll, putHs, headOf, headK, keepG, List.append_eq, headX, chkP, apartP, apartB, blk, strip, runAl, yld, putPs, lenN, findR, notRound, jumpK, jumpPT, jcode, List.map_cons, List.map_nil, ite_self, reduceIte]
          simp only [leS_mk, leL_cons, leL_nil, le_junk, le_int, le_bool, le_nil, leLL_nil, leLL_cons, leH_cons, leH_nil, leH1_box, leH1_own, leH1_gone, le_vs, le_agg, le_tup, le_ptr, le_own, le_xp, le_fn, le_opt, le_val, le_elem, le_nil_own, le_nil_vs, leH_ghost, leL_chunk, leXL_id, bnd_int, bnd_bool, bnd_val, bnd_nil, bnd_junk, bnd_vs, bnd_xp, bnd_agg, bnd_tup, bnd_ptr, bnd_own, bnd_elem, bnd_fn, bnd_iface, bnd_opt, bndL_nil, bndL_cons, lenH_cons, lenH_nil, imp_self, implies_true, true_and, and_true] <;> simp
      · rintro ⟨i, e⟩ ⟨hi', ha⟩
        dsimp only [F1_ct35, iv1C, enc2, Int.toNat_natCast, r_end, r_end1, r_nil, r_op, r_opg, r_runOp, r_op0, r_yld0, r_yld1, r_y, r_rbeg, r_rend, r_rend1, r_rfrm, r_rfrm1, r_range, r_rangeK, r_rangeE, r_draw, r_dnil, r_dop, r_dopg, r_dplq, r_dplh, r_dq, r_dq0, r_dcl1, r_dcl0, r_dct1, r_dct0, r_dgd, r_dgq1, r_dgq0, r_dctG, r_op1, r_eff, r_eff0, r_call, r_call0, r_inl, r_g, r_gq, r_gc, r_effg, r_effg0, r_callg, r_callg0, r_fin, r_pre, r_imp, r_all, r_ex, r_fing, r_preg, r_exg, r_inBlock, r_inLoop, r_frame, r_frame1, r_skip, r_region, r_seq, r_cond, r_cond1, r_block, r_exit, r_exit1, r_exit2, r_ret, r_loop, s_args0, s_args1, s_xt, s_xc, padL, blankL, callee, callArgs, eff, ctOf, getL, setL, S.put, S.upd, unopts, unopt, unoptsO, unoptsB, lazyO, guardOf, gbool, eMov, eNot, eNeg, eConv, eExt, eLenArr, eLen, eLenStr, eEqb, eEqv, allEq, eNil, negIf, eBool2, eCmp, eAri, ari, eBit, eDiv, eSh, eMinMax, foldMin, foldMax, kEq, pure1, cmpB, VO.quiet, resVals, resVal, tupled, popRet, popTo, cond, Option.bind, Option.map, eNew, eBox, asCells, lenH, snocH, eFieldAddr, eField, eLoad, cellsAt, getH, setH, dropL, takeL, mkAgg, lenL, lenS, shift, shiftL, shiftH, viewN, viewL, view, andT, junks, List.append_nil, Nat.beq, eIdxAddr, eIdxArr, eIndex, eStore, storeAt, spliceL, ones, one, eSlice, eSliceArr, bounds, subLo, addLo, eMake, eAppend, readS, repL, buildCells, chunk, purgeL, purgeLL, purgeH, purge, refs, refsL, List.cons_append, List.nil_append, wrOps, wrAl, wrDops, wrC, junkAt, putAll, putHs, headOf, headK, keepG, List.append_eq, headX, chkP, apartP, apartB, blk, strip, runAl, yld, putPs, lenN, findR, notRound, jumpK, jumpPT, jcode, List.map_cons, List.map_nil, ite_self, reduceIte]
        simp only [true_and, and_true, imp_self, implies_true, decide_eq_true_eq, decide_eq_false_iff_not, Nat.reduceAdd, Nat.reduceLeDiff, Bool.not_not, reduceCtorEq, false_imp_iff, Bool.not_eq_true', Bool.not_eq_false', Bool.false_eq_true, and_self, forall_const, ne_eq, not_false_eq_true, Nat.reduceEqDiff]
        simp only at hi' ha
        refine ⟨fun hlt => ?_, fun hge => ans_int ?_⟩
        · rw [Bool.and_eq_true, decide_eq_true_eq, decide_eq_true_eq] at hlt
          obtain ⟨hlt, rfl⟩ := hlt
          obtain ⟨_, hb0, h1000, hall⟩ := ha.resolve_right (fun hh => hh.1 rfl)
          refine ⟨⟨by omega, hlt⟩, fun _ => ⟨by omega, hlt⟩, fun _ => ⟨by omega, hlt⟩, fun hw => ?_, fun hw => ?_⟩
          · refine ⟨(i + 1, 2), ⟨by simp only; omega, .inr ⟨by simp, ?_⟩⟩, by simp only; omega, ?_⟩
            · rw [askF, if_neg (by rw [hb0]; simp), if_neg (by omega), if_pos]
              exact List.any_eq_true.2 ⟨_, getD_mem (by omega : i < l.length), hw⟩
            · have hs := w_succ (i := i) (n := l.length) (by omega) (by omega)
              simp only [hs, leS_mk, leL_cons, leL_nil, le_junk, le_int, le_bool, le_nil, leLL_nil, leLL_cons, leH_cons, leH_nil, leH1_box, leH1_own, leH1_gone, le_vs, le_agg, le_tup, le_ptr, le_own, le_xp, le_fn, le_opt, le_val, le_elem, le_nil_own, le_nil_vs, leH_ghost, leL_chunk, leXL_id, bnd_int, bnd_bool, bnd_val, bnd_nil, bnd_junk, bnd_vs, bnd_xp, bnd_agg, bnd_tup, bnd_ptr, bnd_own, bnd_elem, bnd_fn, bnd_iface, bnd_opt, bndL_nil, bndL_cons, lenH_cons, lenH_nil, imp_self, implies_true, true_and, and_true] <;> simp
          · refine ⟨(i + 1, 0), ⟨by simp only; omega, .inl ⟨rfl, hb0, h1000, fun j hj => ?_⟩⟩, by simp only; omega, ?_⟩
            · rcases Nat.lt_or_ge j i with h' | h'
              · exact hall j h'
              · obtain rfl : j = i := by simp only at hj; omega
                exact hw
            · have hs := w_succ (i := i) (n := l.length) (by omega) (by omega)
              simp only [hs, leS_mk, leL_cons, leL_nil, le_junk, le_int, le_bool, le_nil, leLL_nil, leLL_cons, leH_cons, leH_nil, leH1_box, leH1_own, leH1_gone, le_vs, le_agg, le_tup, le_ptr, le_own, le_xp, le_fn, le_opt, le_val, le_elem, le_nil_own, le_nil_vs, leH_ghost, leL_chunk, leXL_id, bnd_int, bnd_bool, bnd_val, bnd_nil, bnd_junk, bnd_vs, bnd_xp, bnd_agg, bnd_tup, bnd_ptr, bnd_own, bnd_elem, bnd_fn, bnd_iface, bnd_opt, bndL_nil, bndL_cons, lenH_cons, lenH_nil, imp_self, implies_true, true_and, and_true] <;> simp
        · rcases ha with ⟨rfl, hb0, h1000, hall⟩ | ⟨h0, he⟩
          · have hil : i = l.length := by
              simp at hge; omega
            subst hil
            have e : l.any wrongF = false := by
              rw [Bool.eq_false_iff]
              intro hany
              obtain ⟨x, hx, hxx⟩ := List.any_eq_true.1 hany
              obtain ⟨j, hj, rfl⟩ := mem_getD hx
              rw [hall j hj] at hxx; cases hxx
            rw [askF, if_neg (by rw [hb0]; simp), if_neg (by omega), if_neg (by rw [e]; simp)] at h
            exact h
          · rw [he] at h; exact h
  · exact h.1.elim

/-! ### Ticks -/

def infC : Ctr := { alias := false, of := fun a => match a with
  | [.agg [.int .i64 st, .int .i64 lo, .int .i64 hi, .int .i64 il, .int .i64 ih], .int .i64 v, .int .i64 n] => .pre (w6 (hi - lo) ≠ 0) (.fin (.int .i64 (inflow ⟨st, lo, hi, il, ih⟩ n v)) [])
  | _ => noC }

def F0 : Env := { ct := fun _ => none, fn := fun _ => none, meth := fun _ _ => none }
theorem F0_ok : EnvOk Try.prog F0 := by
  refine ⟨fun f c h => ?_, fun f vf h => ?_, fun _ _ => rfl, by kernel_rfl⟩
  · cases h
  · cases h


theorem inf40 : infC.ok Try.prog 40 := by
  refine contract Try.func40 v40_is F0_ok 200 infC fun args k h => ⟨args, ?_⟩
  simp only [infC] at h
  split at h
  · rename_i st lo hi il ih v n
    obtain ⟨hn, h⟩ := h
    refine ⟨by simp [leL, le], ?_⟩
    dsimp only [v40, r_end, r_end1, r_nil, r_op, r_opg, r_runOp, r_op0, r_yld0, r_yld1, r_y, r_rbeg, r_rend, r_rend1, r_rfrm, r_rfrm1, r_range, r_rangeK, r_rangeE, r_draw, r_dnil, r_dop, r_dopg, r_dplq, r_dplh, r_dq, r_dq0, r_dcl1, r_dcl0, r_dct1, r_dct0, r_dgd, r_dgq1, r_dgq0, r_dctG, r_op1, r_eff, r_eff0, r_call, r_call0, r_inl, r_g, r_gq, r_gc, r_effg, r_effg0, r_callg, r_callg0, r_fin, r_pre, r_imp, r_all, r_ex, r_fing, r_preg, r_exg, r_inBlock, r_inLoop, r_frame, r_frame1, r_skip, r_region, r_seq, r_cond, r_cond1, r_block, r_exit, r_exit1, r_exit2, r_ret, r_loop, s_args0, s_args1, s_xt, s_xc, padL, blankL, callee, callArgs, eff, ctOf, getL, setL, S.put, S.upd, unopts, unopt, unoptsO, unoptsB, lazyO, guardOf, gbool, eMov, eNot, eNeg, eConv, eExt, eLenArr, eLen, eLenStr, eEqb, eEqv, allEq, eNil, negIf, eBool2, eCmp, eAri, ari, eBit, eDiv, eSh, eMinMax, foldMin, foldMax, kEq, pure1, cmpB, VO.quiet, resVals, resVal, tupled, popRet, popTo, cond, Option.bind, Option.map, eNew, eBox, asCells, lenH, snocH, eFieldAddr, eField, eLoad, cellsAt, getH, setH, dropL, takeL, mkAgg, lenL, lenS, shift, shiftL, shiftH, viewN, viewL, view, andT, junks, List.append_nil, Nat.beq, eIdxAddr, eIdxArr, eIndex, eStore, storeAt, spliceL, ones, one, eSlice, eSliceArr, bounds, subLo, addLo, eMake, eAppend, readS, repL, buildCells, chunk, purgeL, purgeLL, purgeH, purge, refs, refsL, List.cons_append, List.nil_append, wrOps, wrAl, wrDops, wrC, junkAt, putAll, putHs, headOf, headK, keepG, List.append_eq, headX, chkP, apartP, apartB, blk, strip, runAl, yld, putPs, lenN, findR, notRound, jumpK, jumpPT, jcode, List.map_cons, List.map_nil, ite_self, reduceIte]
    simp only [true_and, and_true, imp_self, implies_true, decide_eq_true_eq, decide_eq_false_iff_not, Nat.reduceAdd, Nat.reduceLeDiff, Bool.not_not, reduceCtorEq, false_imp_iff, Bool.not_eq_true', Bool.not_eq_false', Bool.false_eq_true, and_self, forall_const, ne_eq, not_false_eq_true, Nat.reduceEqDiff]
    refine ⟨fun hb => ans_int ?_, fun hb => ⟨fun hc => ans_int ?_, fun hc => ⟨hn, ans_int ?_⟩⟩⟩
    · rw [inflow, if_pos hb] at h; exact h
    · rw [inflow, if_neg hb, if_pos hc] at h; exact h
    · rw [inflow, if_neg hb, if_neg hc] at h; exact h
  · exact h.1.elim

/-- What a tick returns. -/
def tickF (b : Bel) (v n d : Int) : Int × Int × Bool :=
  if w6 (v + inflow b n v) < d then (0, w6 (v + inflow b n v), true) else (w6 (w6 (v + inflow b n v) - d), d, false)
def tickC : Ctr := { alias := false, of := fun a => match a with
  | [.agg [.int .i64 st, .int .i64 lo, .int .i64 hi, .int .i64 il, .int .i64 ih], .int .i64 v, .int .i64 n, .int .i64 d] => .pre (w6 (hi - lo) ≠ 0) (.fin (.tup [.int .i64 (tickF ⟨st, lo, hi, il, ih⟩ v n d).1, .int .i64 (tickF ⟨st, lo, hi, il, ih⟩ v n d).2.1, .bool (tickF ⟨st, lo, hi, il, ih⟩ v n d).2.2]) [])
  | _ => noC }

def F2 : Env := { ct := fun n => match n with | 40 => some infC | _ => none, fn := fun _ => none, meth := fun _ _ => none }
theorem F2_ct40 : F2.ct 40 = some infC := rfl
theorem F2_ok : EnvOk Try.prog F2 := by
  refine ⟨fun f c h => ?_, fun f vf h => ?_, fun _ _ => rfl, by kernel_rfl⟩
  · simp only [F2] at h
    split at h
    · cases h; exact ⟨inf40, Try.f40, Try.func40, by kernel_rfl, by kernel_rfl⟩
    · cases h
  · cases h


theorem tick23 : tickC.ok Try.prog 23 := by
  refine contract Try.func23 v23_is F2_ok 200 tickC fun args k h => ⟨args, ?_⟩
  simp only [tickC] at h
  split at h
  · rename_i st lo hi il ih v n d
    obtain ⟨hn, h⟩ := h
    refine ⟨by simp [leL, le], ?_⟩
    dsimp only [v23, F2_ct40, infC, r_end, r_end1, r_nil, r_op, r_opg, r_runOp, r_op0, r_yld0, r_yld1, r_y, r_rbeg, r_rend, r_rend1, r_rfrm, r_rfrm1, r_range, r_rangeK, r_rangeE, r_draw, r_dnil, r_dop, r_dopg, r_dplq, r_dplh, r_dq, r_dq0, r_dcl1, r_dcl0, r_dct1, r_dct0, r_dgd, r_dgq1, r_dgq0, r_dctG, r_op1, r_eff, r_eff0, r_call, r_call0, r_inl, r_g, r_gq, r_gc, r_effg, r_effg0, r_callg, r_callg0, r_fin, r_pre, r_imp, r_all, r_ex, r_fing, r_preg, r_exg, r_inBlock, r_inLoop, r_frame, r_frame1, r_skip, r_region, r_seq, r_cond, r_cond1, r_block, r_exit, r_exit1, r_exit2, r_ret, r_loop, s_args0, s_args1, s_xt, s_xc, padL, blankL, callee, callArgs, eff, ctOf, getL, setL, S.put, S.upd, unopts, unopt, unoptsO, unoptsB, lazyO, guardOf, gbool, eMov, eNot, eNeg, eConv, eExt, eLenArr, eLen, eLenStr, eEqb, eEqv, allEq, eNil, negIf, eBool2, eCmp, eAri, ari, eBit, eDiv, eSh, eMinMax, foldMin, foldMax, kEq, pure1, cmpB, VO.quiet, resVals, resVal, tupled, popRet, popTo, cond, Option.bind, Option.map, eNew, eBox, asCells, lenH, snocH, eFieldAddr, eField, eLoad, cellsAt, getH, setH, dropL, takeL, mkAgg, lenL, lenS, shift, shiftL, shiftH, viewN, viewL, view, andT, junks, List.append_nil, Nat.beq, eIdxAddr, eIdxArr, eIndex, eStore, storeAt, spliceL, ones, one, eSlice, eSliceArr, bounds, subLo, addLo, eMake, eAppend, readS, repL, buildCells, chunk, purgeL, purgeLL, purgeH, purge, refs, refsL, List.cons_append, List.nil_append, wrOps, wrAl, wrDops, wrC, junkAt, putAll, putHs, headOf, headK, keepG, List.append_eq, headX, chkP, apartP, apartB, blk, strip, runAl, yld, putPs, lenN, findR, notRound, jumpK, jumpPT, jcode, List.map_cons, List.map_nil, ite_self, reduceIte]
    simp only [true_and, and_true, imp_self, implies_true, decide_eq_true_eq, decide_eq_false_iff_not, Nat.reduceAdd, Nat.reduceLeDiff, Bool.not_not, reduceCtorEq, false_imp_iff, Bool.not_eq_true', Bool.not_eq_false', Bool.false_eq_true, and_self, forall_const, ne_eq, not_false_eq_true, Nat.reduceEqDiff]
    refine ⟨hn, fun hb => ?_, fun hb => ?_⟩
    · have hb' : w6 (v + inflow ⟨st, lo, hi, il, ih⟩ n v) < d := hb
      rw [tickF, if_pos hb'] at h
      exact ans_le (show k _ [] from h) (by simp [expo, view, viewL, le, leL, w6]) (by simp [freshS, freshL])
    · have hb' : ¬ w6 (v + inflow ⟨st, lo, hi, il, ih⟩ n v) < d := hb
      rw [tickF, if_neg hb'] at h
      exact ans_le (show k _ [] from h) (by simp [expo, view, viewL, le, leL, w6]) (by simp [freshS, freshL])
  · exact h.1.elim

def hasC : Ctr := { alias := false, of := fun a => match a with
  | [.agg [.int .i64 st, .int .i64 lo, .int .i64 hi, .int .i64 il, .int .i64 ih, .int .i64 n, .fn _ [] []], .int .i64 v] => .pre (w6 (hi - lo) ≠ 0) (.fin (.int .i64 (hasF ⟨st, lo, hi, il, ih⟩ n v)) [])
  | _ => noC }

theorem has32 : hasC.ok Try.prog 32 := by
  refine contract Try.func32 v32_is F0_ok 200 hasC fun args k h => ?_
  simp only [hasC] at h
  split at h
  · rename_i st lo hi il ih n f v
    obtain ⟨hn, h⟩ := h
    refine ⟨[.agg [.int .i64 st, .int .i64 lo, .int .i64 hi, .int .i64 il, .int .i64 ih, .int .i64 n, .fn f [] []], .int .i64 v], by simp [leL, le, bnd_fn, bndL_nil], ?_⟩
    dsimp only [v32, r_end, r_end1, r_nil, r_op, r_opg, r_runOp, r_op0, r_yld0, r_yld1, r_y, r_rbeg, r_rend, r_rend1, r_rfrm, r_rfrm1, r_range, r_rangeK, r_rangeE, r_draw, r_dnil, r_dop, r_dopg, r_dplq, r_dplh, r_dq, r_dq0, r_dcl1, r_dcl0, r_dct1, r_dct0, r_dgd, r_dgq1, r_dgq0, r_dctG, r_op1, r_eff, r_eff0, r_call, r_call0, r_inl, r_g, r_gq, r_gc, r_effg, r_effg0, r_callg, r_callg0, r_fin, r_pre, r_imp, r_all, r_ex, r_fing, r_preg, r_exg, r_inBlock, r_inLoop, r_frame, r_frame1, r_skip, r_region, r_seq, r_cond, r_cond1, r_block, r_exit, r_exit1, r_exit2, r_ret, r_loop, s_args0, s_args1, s_xt, s_xc, padL, blankL, callee, callArgs, eff, ctOf, getL, setL, S.put, S.upd, unopts, unopt, unoptsO, unoptsB, lazyO, guardOf, gbool, eMov, eNot, eNeg, eConv, eExt, eLenArr, eLen, eLenStr, eEqb, eEqv, allEq, eNil, negIf, eBool2, eCmp, eAri, ari, eBit, eDiv, eSh, eMinMax, foldMin, foldMax, kEq, pure1, cmpB, VO.quiet, resVals, resVal, tupled, popRet, popTo, cond, Option.bind, Option.map, eNew, eBox, asCells, lenH, snocH, eFieldAddr, eField, eLoad, cellsAt, getH, setH, dropL, takeL, mkAgg, lenL, lenS, shift, shiftL, shiftH, viewN, viewL, view, andT, junks, List.append_nil, Nat.beq, eIdxAddr, eIdxArr, eIndex, eStore, storeAt, spliceL, ones, one, eSlice, eSliceArr, bounds, subLo, addLo, eMake, eAppend, readS, repL, buildCells, chunk, purgeL, purgeLL, purgeH, purge, refs, refsL, List.cons_append, List.nil_append, wrOps, wrAl, wrDops, wrC, junkAt, putAll, putHs, headOf, headK, keepG, List.append_eq, headX, chkP, apartP, apartB, blk, strip, runAl, yld, putPs, lenN, findR, notRound, jumpK, jumpPT, jcode, List.map_cons, List.map_nil, ite_self, reduceIte]
    simp only [true_and, and_true, imp_self, implies_true, decide_eq_true_eq, decide_eq_false_iff_not, Nat.reduceAdd, Nat.reduceLeDiff, Bool.not_not, reduceCtorEq, false_imp_iff, Bool.not_eq_true', Bool.not_eq_false', Bool.false_eq_true, and_self, forall_const, ne_eq, not_false_eq_true, Nat.reduceEqDiff]
    refine ⟨fun hb => ans_int ?_, fun hb => ⟨fun hc => ans_int ?_, fun hc => ⟨hn, ans_int ?_⟩⟩⟩
    · rw [hasF, if_pos hb] at h; exact h
    · rw [hasF, if_neg hb, if_pos hc] at h; exact h
    · rw [hasF, if_neg hb, if_neg hc] at h; exact h
  · exact h.1.elim

def sndC : Ctr := { alias := false, of := fun a => match a with | [.agg [.int .i64 _, .int .i64 y]] => .fin (.int .i64 y) [] | _ => noC }
def fstC : Ctr := { alias := false, of := fun a => match a with | [.agg [.int .i64 x, .int .i64 _]] => .fin (.int .i64 x) [] | _ => noC }

theorem snd43 : sndC.ok Try.prog 43 := by
  refine contract Try.func43 v43_is F0_ok 200 sndC fun args k h => ⟨args, ?_⟩
  simp only [sndC] at h
  split at h
  · refine ⟨by simp [leL, le], ?_⟩
    dsimp only [v43, r_end, r_end1, r_nil, r_op, r_opg, r_runOp, r_op0, r_yld0, r_yld1, r_y, r_rbeg, r_rend, r_rend1, r_rfrm, r_rfrm1, r_range, r_rangeK, r_rangeE, r_draw, r_dnil, r_dop, r_dopg, r_dplq, r_dplh, r_dq, r_dq0, r_dcl1, r_dcl0, r_dct1, r_dct0, r_dgd, r_dgq1, r_dgq0, r_dctG, r_op1, r_eff, r_eff0, r_call, r_call0, r_inl, r_g, r_gq, r_gc, r_effg, r_effg0, r_callg, r_callg0, r_fin, r_pre, r_imp, r_all, r_ex, r_fing, r_preg, r_exg, r_inBlock, r_inLoop, r_frame, r_frame1, r_skip, r_region, r_seq, r_cond, r_cond1, r_block, r_exit, r_exit1, r_exit2, r_ret, r_loop, s_args0, s_args1, s_xt, s_xc, padL, blankL, callee, callArgs, eff, ctOf, getL, setL, S.put, S.upd, unopts, unopt, unoptsO, unoptsB, lazyO, guardOf, gbool, eMov, eNot, eNeg, eConv, eExt, eLenArr, eLen, eLenStr, eEqb, eEqv, allEq, eNil, negIf, eBool2, eCmp, eAri, ari, eBit, eDiv, eSh, eMinMax, foldMin, foldMax, kEq, pure1, cmpB, VO.quiet, resVals, resVal, tupled, popRet, popTo, cond, Option.bind, Option.map, eNew, eBox, asCells, lenH, snocH, eFieldAddr, eField, eLoad, cellsAt, getH, setH, dropL, takeL, mkAgg, lenL, lenS, shift, shiftL, shiftH, viewN, viewL, view, andT, junks, List.append_nil, Nat.beq, eIdxAddr, eIdxArr, eIndex, eStore, storeAt, spliceL, ones, one, eSlice, eSliceArr, bounds, subLo, addLo, eMake, eAppend, readS, repL, buildCells, chunk, purgeL, purgeLL, purgeH, purge, refs, refsL, List.cons_append, List.nil_append, wrOps, wrAl, wrDops, wrC, junkAt, putAll, putHs, headOf, headK, keepG, List.append_eq, headX, chkP, apartP, apartB, blk, strip, runAl, yld, putPs, lenN, findR, notRound, jumpK, jumpPT, jcode, List.map_cons, List.map_nil, ite_self, reduceIte]
    simp only [true_and, and_true, imp_self, implies_true, decide_eq_true_eq, decide_eq_false_iff_not, Nat.reduceAdd, Nat.reduceLeDiff, Bool.not_not, reduceCtorEq, false_imp_iff, Bool.not_eq_true', Bool.not_eq_false', Bool.false_eq_true, and_self, forall_const, ne_eq, not_false_eq_true, Nat.reduceEqDiff]
    exact ans_int h
  · exact h.1.elim
theorem fst45 : fstC.ok Try.prog 45 := by
  refine contract Try.func45 v45_is F0_ok 200 fstC fun args k h => ⟨args, ?_⟩
  simp only [fstC] at h
  split at h
  · refine ⟨by simp [leL, le], ?_⟩
    dsimp only [v45, r_end, r_end1, r_nil, r_op, r_opg, r_runOp, r_op0, r_yld0, r_yld1, r_y, r_rbeg, r_rend, r_rend1, r_rfrm, r_rfrm1, r_range, r_rangeK, r_rangeE, r_draw, r_dnil, r_dop, r_dopg, r_dplq, r_dplh, r_dq, r_dq0, r_dcl1, r_dcl0, r_dct1, r_dct0, r_dgd, r_dgq1, r_dgq0, r_dctG, r_op1, r_eff, r_eff0, r_call, r_call0, r_inl, r_g, r_gq, r_gc, r_effg, r_effg0, r_callg, r_callg0, r_fin, r_pre, r_imp, r_all, r_ex, r_fing, r_preg, r_exg, r_inBlock, r_inLoop, r_frame, r_frame1, r_skip, r_region, r_seq, r_cond, r_cond1, r_block, r_exit, r_exit1, r_exit2, r_ret, r_loop, s_args0, s_args1, s_xt, s_xc, padL, blankL, callee, callArgs, eff, ctOf, getL, setL, S.put, S.upd, unopts, unopt, unoptsO, unoptsB, lazyO, guardOf, gbool, eMov, eNot, eNeg, eConv, eExt, eLenArr, eLen, eLenStr, eEqb, eEqv, allEq, eNil, negIf, eBool2, eCmp, eAri, ari, eBit, eDiv, eSh, eMinMax, foldMin, foldMax, kEq, pure1, cmpB, VO.quiet, resVals, resVal, tupled, popRet, popTo, cond, Option.bind, Option.map, eNew, eBox, asCells, lenH, snocH, eFieldAddr, eField, eLoad, cellsAt, getH, setH, dropL, takeL, mkAgg, lenL, lenS, shift, shiftL, shiftH, viewN, viewL, view, andT, junks, List.append_nil, Nat.beq, eIdxAddr, eIdxArr, eIndex, eStore, storeAt, spliceL, ones, one, eSlice, eSliceArr, bounds, subLo, addLo, eMake, eAppend, readS, repL, buildCells, chunk, purgeL, purgeLL, purgeH, purge, refs, refsL, List.cons_append, List.nil_append, wrOps, wrAl, wrDops, wrC, junkAt, putAll, putHs, headOf, headK, keepG, List.append_eq, headX, chkP, apartP, apartB, blk, strip, runAl, yld, putPs, lenN, findR, notRound, jumpK, jumpPT, jcode, List.map_cons, List.map_nil, ite_self, reduceIte]
    simp only [true_and, and_true, imp_self, implies_true, decide_eq_true_eq, decide_eq_false_iff_not, Nat.reduceAdd, Nat.reduceLeDiff, Bool.not_not, reduceCtorEq, false_imp_iff, Bool.not_eq_true', Bool.not_eq_false', Bool.false_eq_true, and_self, forall_const, ne_eq, not_false_eq_true, Nat.reduceEqDiff]
    exact ans_int h
  · exact h.1.elim

def crsC (w : Bool) : Ctr := { alias := false, of := fun a => match a with
  | [.agg [.int .i64 st, .int .i64 lo, .int .i64 hi, .int .i64 il, .int .i64 ih]] => .fin (.agg [.int .i64 st, .int .i64 lo, .int .i64 hi, .int .i64 il, .int .i64 ih, .int .i64 (inOf ⟨st, lo, hi, il, ih⟩ w), .fn (.func (bif w then 43 else 45)) [] []]) []
  | _ => noC }
def worstC := crsC true
def bestC := crsC false

theorem worst28 : worstC.ok Try.prog 28 := by
  refine contract Try.func28 v28_is F0_ok 200 worstC fun args k h => ⟨args, ?_⟩
  simp only [worstC, crsC] at h
  split at h
  · refine ⟨by simp [leL, le], ?_⟩
    dsimp only [v28, r_end, r_end1, r_nil, r_op, r_opg, r_runOp, r_op0, r_yld0, r_yld1, r_y, r_rbeg, r_rend, r_rend1, r_rfrm, r_rfrm1, r_range, r_rangeK, r_rangeE, r_draw, r_dnil, r_dop, r_dopg, r_dplq, r_dplh, r_dq, r_dq0, r_dcl1, r_dcl0, r_dct1, r_dct0, r_dgd, r_dgq1, r_dgq0, r_dctG, r_op1, r_eff, r_eff0, r_call, r_call0, r_inl, r_g, r_gq, r_gc, r_effg, r_effg0, r_callg, r_callg0, r_fin, r_pre, r_imp, r_all, r_ex, r_fing, r_preg, r_exg, r_inBlock, r_inLoop, r_frame, r_frame1, r_skip, r_region, r_seq, r_cond, r_cond1, r_block, r_exit, r_exit1, r_exit2, r_ret, r_loop, s_args0, s_args1, s_xt, s_xc, padL, blankL, callee, callArgs, eff, ctOf, getL, setL, S.put, S.upd, unopts, unopt, unoptsO, unoptsB, lazyO, guardOf, gbool, eMov, eNot, eNeg, eConv, eExt, eLenArr, eLen, eLenStr, eEqb, eEqv, allEq, eNil, negIf, eBool2, eCmp, eAri, ari, eBit, eDiv, eSh, eMinMax, foldMin, foldMax, kEq, pure1, cmpB, VO.quiet, resVals, resVal, tupled, popRet, popTo, cond, Option.bind, Option.map, eNew, eBox, asCells, lenH, snocH, eFieldAddr, eField, eLoad, cellsAt, getH, setH, dropL, takeL, mkAgg, lenL, lenS, shift, shiftL, shiftH, viewN, viewL, view, andT, junks, List.append_nil, Nat.beq, eIdxAddr, eIdxArr, eIndex, eStore, storeAt, spliceL, ones, one, eSlice, eSliceArr, bounds, subLo, addLo, eMake, eAppend, readS, repL, buildCells, chunk, purgeL, purgeLL, purgeH, purge, refs, refsL, List.cons_append, List.nil_append, wrOps, wrAl, wrDops, wrC, junkAt, putAll, putHs, headOf, headK, keepG, List.append_eq, headX, chkP, apartP, apartB, blk, strip, runAl, yld, putPs, lenN, findR, notRound, jumpK, jumpPT, jcode, List.map_cons, List.map_nil, ite_self, reduceIte]
    simp only [true_and, and_true, imp_self, implies_true, decide_eq_true_eq, decide_eq_false_iff_not, Nat.reduceAdd, Nat.reduceLeDiff, Bool.not_not, reduceCtorEq, false_imp_iff, Bool.not_eq_true', Bool.not_eq_false', Bool.false_eq_true, and_self, forall_const, ne_eq, not_false_eq_true, Nat.reduceEqDiff]
    exact ans_le (show k _ [] from h) (by simp [expo, view, viewL, le, leL, inOf, bnd_fn, bndL_nil]) (by simp [freshS, freshL])
  · exact h.1.elim
theorem best30 : bestC.ok Try.prog 30 := by
  refine contract Try.func30 v30_is F0_ok 200 bestC fun args k h => ⟨args, ?_⟩
  simp only [bestC, crsC] at h
  split at h
  · refine ⟨by simp [leL, le], ?_⟩
    dsimp only [v30, r_end, r_end1, r_nil, r_op, r_opg, r_runOp, r_op0, r_yld0, r_yld1, r_y, r_rbeg, r_rend, r_rend1, r_rfrm, r_rfrm1, r_range, r_rangeK, r_rangeE, r_draw, r_dnil, r_dop, r_dopg, r_dplq, r_dplh, r_dq, r_dq0, r_dcl1, r_dcl0, r_dct1, r_dct0, r_dgd, r_dgq1, r_dgq0, r_dctG, r_op1, r_eff, r_eff0, r_call, r_call0, r_inl, r_g, r_gq, r_gc, r_effg, r_effg0, r_callg, r_callg0, r_fin, r_pre, r_imp, r_all, r_ex, r_fing, r_preg, r_exg, r_inBlock, r_inLoop, r_frame, r_frame1, r_skip, r_region, r_seq, r_cond, r_cond1, r_block, r_exit, r_exit1, r_exit2, r_ret, r_loop, s_args0, s_args1, s_xt, s_xc, padL, blankL, callee, callArgs, eff, ctOf, getL, setL, S.put, S.upd, unopts, unopt, unoptsO, unoptsB, lazyO, guardOf, gbool, eMov, eNot, eNeg, eConv, eExt, eLenArr, eLen, eLenStr, eEqb, eEqv, allEq, eNil, negIf, eBool2, eCmp, eAri, ari, eBit, eDiv, eSh, eMinMax, foldMin, foldMax, kEq, pure1, cmpB, VO.quiet, resVals, resVal, tupled, popRet, popTo, cond, Option.bind, Option.map, eNew, eBox, asCells, lenH, snocH, eFieldAddr, eField, eLoad, cellsAt, getH, setH, dropL, takeL, mkAgg, lenL, lenS, shift, shiftL, shiftH, viewN, viewL, view, andT, junks, List.append_nil, Nat.beq, eIdxAddr, eIdxArr, eIndex, eStore, storeAt, spliceL, ones, one, eSlice, eSliceArr, bounds, subLo, addLo, eMake, eAppend, readS, repL, buildCells, chunk, purgeL, purgeLL, purgeH, purge, refs, refsL, List.cons_append, List.nil_append, wrOps, wrAl, wrDops, wrC, junkAt, putAll, putHs, headOf, headK, keepG, List.append_eq, headX, chkP, apartP, apartB, blk, strip, runAl, yld, putPs, lenN, findR, notRound, jumpK, jumpPT, jcode, List.map_cons, List.map_nil, ite_self, reduceIte]
    simp only [true_and, and_true, imp_self, implies_true, decide_eq_true_eq, decide_eq_false_iff_not, Nat.reduceAdd, Nat.reduceLeDiff, Bool.not_not, reduceCtorEq, false_imp_iff, Bool.not_eq_true', Bool.not_eq_false', Bool.false_eq_true, and_self, forall_const, ne_eq, not_false_eq_true, Nat.reduceEqDiff]
    exact ans_le (show k _ [] from h) (by simp [expo, view, viewL, le, leL, inOf, bnd_fn, bndL_nil]) (by simp [freshS, freshL])
  · exact h.1.elim
end Go.Proofs.Ytliipeebknljdaa
