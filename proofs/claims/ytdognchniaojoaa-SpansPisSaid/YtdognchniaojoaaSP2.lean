/- Intervals, walked: the program's functions. -/
import Derived.Test.YtdognchniaojoaaSP1
set_option linter.all false
namespace Go.Proofs.Ytdognchniaojoaa
open Go Go.Vx
set_option maxRecDepth 100000
set_option maxHeartbeats 4000000

def v32 : VF := { ntmps := 6, res := [.tmp 2], body :=
 (.seq (.region [⟨(some 1), none, .box, [.tm 0]⟩,
  ⟨(some 2), none, .mov, [.cn (.int .i64 0)]⟩])
 (.seq (.region [⟨(some 3), none, (.load true 2), [.tm 1]⟩,
  ⟨(some 4), none, (.buildSlice 2 1 [(.int .i64 0), (.int .i64 0)] [(0, 2)]), [.tm 3]⟩,
  ⟨(some 5), none, (.call 42), [.tm 4]⟩,
  ⟨(some 2), none, .mov, [.tm 5]⟩])
 .ret)) }
theorem v32_is : vfunc Try.prog Try.f32 = some v32 := by kernel_rfl
def v24 : VF := { ntmps := 37, res := [.cell 4 true 2, .tmp 5], body :=
 (.seq (.region [⟨(some 2), none, .box, [.tm 0]⟩,
  ⟨(some 3), none, .box, [.tm 1]⟩,
  ⟨(some 4), none, (.alloc [(.int .i64 0), (.int .i64 0)]), []⟩,
  ⟨(some 5), none, .mov, [.cn (.int .i64 0)]⟩])
 (.seq (.seq (.region [⟨(some 7), none, (.load true 2), [.tm 2]⟩,
  ⟨(some 8), none, (.load true 2), [.tm 3]⟩,
  ⟨(some 9), none, (.buildSlice 2 2 [(.int .i64 0), (.int .i64 0)] [(0, 2), (2, 2)]), [.tm 7, .tm 8]⟩,
  ⟨(some 10), none, (.call 42), [.tm 9]⟩,
  ⟨(some 6), none, .mov, [.tm 10]⟩])
 (.seq (.region [⟨(some 11), none, .mov, [.tm 6]⟩,
  ⟨(some 12), none, (.cmp .neq), [.tm 11, .cn (.int .i64 0)]⟩])
 (.cond (.tm 12) (.seq (.region [⟨(some 13), none, (.build [(.int .i64 0), (.int .i64 0)] []), []⟩,
  ⟨(some 14), none, .mov, [.tm 6]⟩,
  ⟨none, none, (.store 2), [.tm 4, .tm 13]⟩,
  ⟨(some 5), none, .mov, [.tm 14]⟩])
 .ret)
  .skip)))
 (.seq (.seq (.region [⟨(some 15), none, (.fieldAddr 1), [.tm 2]⟩,
  ⟨(some 16), none, (.load false 1), [.tm 15]⟩,
  ⟨(some 17), none, (.cmp .eql), [.tm 16, .cn (.int .i64 4611686018427387904)]⟩,
  ⟨(some 18), none, .mov, [.tm 17]⟩,
  ⟨(some 19), (some (18, true)), (.fieldAddr 1), [.tm 3]⟩,
  ⟨(some 20), (some (18, true)), (.load false 1), [.tm 19]⟩,
  ⟨(some 21), (some (18, true)), (.cmp .eql), [.tm 20, .cn (.int .i64 4611686018427387904)]⟩,
  ⟨(some 22), none, .and, [.tm 18, .tm 21]⟩])
 (.cond (.tm 22) (.seq (.region [⟨(some 23), none, (.build [(.int .i64 0), (.int .i64 0)] []), []⟩,
  ⟨none, none, (.store 2), [.tm 4, .tm 23]⟩,
  ⟨(some 5), none, .mov, [.cn (.int .i64 7)]⟩])
 .ret)
  .skip))
 (.seq (.region [⟨(some 24), none, (.fieldAddr 0), [.tm 2]⟩,
  ⟨(some 25), none, (.load false 1), [.tm 24]⟩,
  ⟨(some 26), none, (.fieldAddr 0), [.tm 3]⟩,
  ⟨(some 27), none, (.load false 1), [.tm 26]⟩,
  ⟨(some 28), none, (.ari .add), [.tm 25, .tm 27]⟩,
  ⟨(some 29), none, (.fieldAddr 1), [.tm 2]⟩,
  ⟨(some 30), none, (.load false 1), [.tm 29]⟩,
  ⟨(some 31), none, (.fieldAddr 1), [.tm 3]⟩,
  ⟨(some 32), none, (.load false 1), [.tm 31]⟩,
  ⟨(some 33), none, (.ari .add), [.tm 30, .tm 32]⟩,
  ⟨(some 34), none, (.call 61), [.tm 28, .tm 33]⟩,
  ⟨(some 35), none, (.ext 0), [.tm 34]⟩,
  ⟨(some 36), none, (.ext 1), [.tm 34]⟩,
  ⟨none, none, (.store 2), [.tm 4, .tm 35]⟩,
  ⟨(some 5), none, .mov, [.tm 36]⟩])
 .ret)))) }
theorem v24_is : vfunc Try.prog Try.f24 = some v24 := by kernel_rfl
def v25 : VF := { ntmps := 26, res := [.cell 4 true 2, .tmp 5], body :=
 (.seq (.region [⟨(some 2), none, .box, [.tm 0]⟩,
  ⟨(some 3), none, .box, [.tm 1]⟩,
  ⟨(some 4), none, (.alloc [(.int .i64 0), (.int .i64 0)]), []⟩,
  ⟨(some 5), none, .mov, [.cn (.int .i64 0)]⟩])
 (.seq (.seq (.region [⟨(some 7), none, (.load true 2), [.tm 2]⟩,
  ⟨(some 8), none, (.load true 2), [.tm 3]⟩,
  ⟨(some 9), none, (.buildSlice 2 2 [(.int .i64 0), (.int .i64 0)] [(0, 2), (2, 2)]), [.tm 7, .tm 8]⟩,
  ⟨(some 10), none, (.call 42), [.tm 9]⟩,
  ⟨(some 6), none, .mov, [.tm 10]⟩])
 (.seq (.region [⟨(some 11), none, .mov, [.tm 6]⟩,
  ⟨(some 12), none, (.cmp .neq), [.tm 11, .cn (.int .i64 0)]⟩])
 (.cond (.tm 12) (.seq (.region [⟨(some 13), none, (.build [(.int .i64 0), (.int .i64 0)] []), []⟩,
  ⟨(some 14), none, .mov, [.tm 6]⟩,
  ⟨none, none, (.store 2), [.tm 4, .tm 13]⟩,
  ⟨(some 5), none, .mov, [.tm 14]⟩])
 .ret)
  .skip)))
 (.seq (.region [⟨(some 15), none, (.load true 2), [.tm 2]⟩,
  ⟨(some 16), none, (.fieldAddr 1), [.tm 3]⟩,
  ⟨(some 17), none, (.load false 1), [.tm 16]⟩,
  ⟨(some 18), none, .neg, [.tm 17]⟩,
  ⟨(some 19), none, (.fieldAddr 0), [.tm 3]⟩,
  ⟨(some 20), none, (.load false 1), [.tm 19]⟩,
  ⟨(some 21), none, .neg, [.tm 20]⟩,
  ⟨(some 22), none, (.build [(.int .i64 0), (.int .i64 0)] [(0, 1), (1, 1)]), [.tm 18, .tm 21]⟩,
  ⟨(some 23), none, (.call 24), [.tm 15, .tm 22]⟩,
  ⟨(some 24), none, (.ext 0), [.tm 23]⟩,
  ⟨(some 25), none, (.ext 1), [.tm 23]⟩,
  ⟨none, none, (.store 2), [.tm 4, .tm 24]⟩,
  ⟨(some 5), none, .mov, [.tm 25]⟩])
 .ret))) }
theorem v25_is : vfunc Try.prog Try.f25 = some v25 := by kernel_rfl
def v23 : VF := { ntmps := 41, res := [.cell 4 true 2, .tmp 5], body :=
 (.seq (.region [⟨(some 2), none, .box, [.tm 0]⟩,
  ⟨(some 3), none, .box, [.tm 1]⟩,
  ⟨(some 4), none, (.alloc [(.int .i64 0), (.int .i64 0)]), []⟩,
  ⟨(some 5), none, .mov, [.cn (.int .i64 0)]⟩])
 (.seq (.seq (.region [⟨(some 8), none, (.load true 2), [.tm 2]⟩,
  ⟨(some 9), none, (.load true 2), [.tm 3]⟩,
  ⟨(some 10), none, (.buildSlice 2 2 [(.int .i64 0), (.int .i64 0)] [(0, 2), (2, 2)]), [.tm 8, .tm 9]⟩,
  ⟨(some 11), none, (.call 42), [.tm 10]⟩,
  ⟨(some 6), none, .mov, [.tm 11]⟩])
 (.seq (.region [⟨(some 12), none, .mov, [.tm 6]⟩,
  ⟨(some 13), none, (.cmp .neq), [.tm 12, .cn (.int .i64 0)]⟩])
 (.cond (.tm 13) (.seq (.region [⟨(some 14), none, (.build [(.int .i64 0), (.int .i64 0)] []), []⟩,
  ⟨(some 15), none, .mov, [.tm 6]⟩,
  ⟨none, none, (.store 2), [.tm 4, .tm 14]⟩,
  ⟨(some 5), none, .mov, [.tm 15]⟩])
 .ret)
  .skip)))
 (.seq (.draw [(7, .arr 4 3 [(.bool false), (.int .u64 0), (.int .u64 0), (.bool false), (.int .u64 0), (.int .u64 0), (.bool false), (.int .u64 0), (.int .u64 0), (.bool false), (.int .u64 0), (.int .u64 0)])] [⟨⟨(some 16), none, (.fieldAddr 0), [.tm 2]⟩, []⟩,
  ⟨⟨(some 17), none, (.load false 1), [.tm 16]⟩, []⟩,
  ⟨⟨(some 18), none, (.fieldAddr 0), [.tm 3]⟩, []⟩,
  ⟨⟨(some 19), none, (.load false 1), [.tm 18]⟩, []⟩,
  ⟨⟨(some 21), none, (.fieldAddr 0), [.tm 2]⟩, []⟩,
  ⟨⟨(some 22), none, (.load false 1), [.tm 21]⟩, []⟩,
  ⟨⟨(some 23), none, (.fieldAddr 1), [.tm 3]⟩, []⟩,
  ⟨⟨(some 24), none, (.load false 1), [.tm 23]⟩, []⟩,
  ⟨⟨(some 26), none, (.fieldAddr 1), [.tm 2]⟩, []⟩,
  ⟨⟨(some 27), none, (.load false 1), [.tm 26]⟩, []⟩,
  ⟨⟨(some 28), none, (.fieldAddr 0), [.tm 3]⟩, []⟩,
  ⟨⟨(some 29), none, (.load false 1), [.tm 28]⟩, []⟩,
  ⟨⟨(some 31), none, (.fieldAddr 1), [.tm 2]⟩, []⟩,
  ⟨⟨(some 32), none, (.load false 1), [.tm 31]⟩, []⟩,
  ⟨⟨(some 33), none, (.fieldAddr 1), [.tm 3]⟩, []⟩,
  ⟨⟨(some 34), none, (.load false 1), [.tm 33]⟩, []⟩,
  ⟨⟨(some 20), none, (.call 45), [.tm 17, .tm 19]⟩, []⟩,
  ⟨⟨(some 25), none, (.call 45), [.tm 22, .tm 24]⟩, []⟩,
  ⟨⟨(some 30), none, (.call 45), [.tm 27, .tm 29]⟩, []⟩,
  ⟨⟨(some 35), none, (.call 45), [.tm 32, .tm 34]⟩, []⟩,
  ⟨⟨(some 36), none, (.build [(.bool false), (.int .u64 0), (.int .u64 0), (.bool false), (.int .u64 0), (.int .u64 0), (.bool false), (.int .u64 0), (.int .u64 0), (.bool false), (.int .u64 0), (.int .u64 0)] [(0, 3), (3, 3), (6, 3), (9, 3)]), [.tm 20, .tm 25, .tm 30, .tm 35]⟩, []⟩,
  ⟨⟨none, none, (.store 12), [.tm 7, .tm 36]⟩, []⟩])
 (.seq (.region [⟨(some 37), none, (.sliceArr 4 3 false false), [.tm 7]⟩,
  ⟨(some 38), none, (.call 44), [.cn (.int .u64 1), .tm 37]⟩,
  ⟨(some 39), none, (.ext 0), [.tm 38]⟩,
  ⟨(some 40), none, (.ext 1), [.tm 38]⟩,
  ⟨none, none, (.store 2), [.tm 4, .tm 39]⟩,
  ⟨(some 5), none, .mov, [.tm 40]⟩])
 .ret)))) }
theorem v23_is : vfunc Try.prog Try.f23 = some v23 := by kernel_rfl
def v26 : VF := { ntmps := 89, res := [.cell 4 true 2, .tmp 5], body :=
 (.seq (.region [⟨(some 2), none, .box, [.tm 0]⟩,
  ⟨(some 3), none, .box, [.tm 1]⟩,
  ⟨(some 4), none, (.alloc [(.int .i64 0), (.int .i64 0)]), []⟩,
  ⟨(some 5), none, .mov, [.cn (.int .i64 0)]⟩])
 (.seq (.seq (.region [⟨(some 13), none, (.load true 2), [.tm 2]⟩,
  ⟨(some 14), none, (.load true 2), [.tm 3]⟩,
  ⟨(some 15), none, (.buildSlice 2 2 [(.int .i64 0), (.int .i64 0)] [(0, 2), (2, 2)]), [.tm 13, .tm 14]⟩,
  ⟨(some 16), none, (.call 42), [.tm 15]⟩,
  ⟨(some 6), none, .mov, [.tm 16]⟩])
 (.seq (.region [⟨(some 17), none, .mov, [.tm 6]⟩,
  ⟨(some 18), none, (.cmp .neq), [.tm 17, .cn (.int .i64 0)]⟩])
 (.cond (.tm 18) (.seq (.region [⟨(some 19), none, (.build [(.int .i64 0), (.int .i64 0)] []), []⟩,
  ⟨(some 20), none, .mov, [.tm 6]⟩,
  ⟨none, none, (.store 2), [.tm 4, .tm 19]⟩,
  ⟨(some 5), none, .mov, [.tm 20]⟩])
 .ret)
  .skip)))
 (.seq (.seq (.region [⟨(some 21), none, (.fieldAddr 0), [.tm 3]⟩,
  ⟨(some 22), none, (.load false 1), [.tm 21]⟩,
  ⟨(some 23), none, (.cmp .leq), [.tm 22, .cn (.int .i64 0)]⟩,
  ⟨(some 24), none, .mov, [.tm 23]⟩,
  ⟨(some 25), (some (24, true)), (.fieldAddr 1), [.tm 3]⟩,
  ⟨(some 26), (some (24, true)), (.load false 1), [.tm 25]⟩,
  ⟨(some 27), (some (24, true)), (.cmp .geq), [.tm 26, .cn (.int .i64 0)]⟩,
  ⟨(some 28), none, .and, [.tm 24, .tm 27]⟩])
 (.cond (.tm 28) (.seq (.region [⟨(some 29), none, (.build [(.int .i64 0), (.int .i64 0)] []), []⟩,
  ⟨none, none, (.store 2), [.tm 4, .tm 29]⟩,
  ⟨(some 5), none, .mov, [.cn (.int .i64 9)]⟩])
 .ret)
  .skip))
 (.seq (.seq (.region [⟨(some 30), none, (.fieldAddr 1), [.tm 3]⟩,
  ⟨(some 31), none, (.load false 1), [.tm 30]⟩,
  ⟨(some 32), none, (.cmp .lss), [.tm 31, .cn (.int .i64 0)]⟩])
 (.cond (.tm 32) (.draw [] [⟨⟨(some 33), none, (.fieldAddr 1), [.tm 2]⟩, []⟩,
  ⟨⟨(some 34), none, (.load false 1), [.tm 33]⟩, []⟩,
  ⟨⟨(some 35), none, .neg, [.tm 34]⟩, []⟩,
  ⟨⟨(some 36), none, (.fieldAddr 0), [.tm 2]⟩, []⟩,
  ⟨⟨(some 37), none, (.load false 1), [.tm 36]⟩, []⟩,
  ⟨⟨(some 38), none, .neg, [.tm 37]⟩, []⟩,
  ⟨⟨(some 39), none, (.build [(.int .i64 0), (.int .i64 0)] [(0, 1), (1, 1)]), [.tm 35, .tm 38]⟩, []⟩,
  ⟨⟨(some 40), none, (.fieldAddr 1), [.tm 3]⟩, []⟩,
  ⟨⟨(some 41), none, (.load false 1), [.tm 40]⟩, []⟩,
  ⟨⟨(some 42), none, .neg, [.tm 41]⟩, []⟩,
  ⟨⟨(some 43), none, (.fieldAddr 0), [.tm 3]⟩, []⟩,
  ⟨⟨(some 44), none, (.load false 1), [.tm 43]⟩, []⟩,
  ⟨⟨(some 45), none, .neg, [.tm 44]⟩, []⟩,
  ⟨⟨(some 46), none, (.build [(.int .i64 0), (.int .i64 0)] [(0, 1), (1, 1)]), [.tm 42, .tm 45]⟩, []⟩,
  ⟨⟨none, none, (.store 2), [.tm 2, .tm 39]⟩, [.tm 40, .tm 43]⟩,
  ⟨⟨none, none, (.store 2), [.tm 3, .tm 46]⟩, []⟩])
  .skip))
 (.seq (.draw [] [⟨⟨(some 47), none, (.fieldAddr 1), [.tm 3]⟩, []⟩,
  ⟨⟨(some 48), none, (.load false 1), [.tm 47]⟩, []⟩,
  ⟨⟨(some 49), none, (.fieldAddr 0), [.tm 3]⟩, []⟩,
  ⟨⟨(some 50), none, (.load false 1), [.tm 49]⟩, []⟩,
  ⟨⟨(some 7), none, .mov, [.tm 48]⟩, []⟩,
  ⟨⟨(some 8), none, .mov, [.tm 50]⟩, []⟩])
 (.seq (.seq (.region [⟨(some 51), none, (.fieldAddr 0), [.tm 2]⟩,
  ⟨(some 52), none, (.load false 1), [.tm 51]⟩,
  ⟨(some 53), none, (.cmp .lss), [.tm 52, .cn (.int .i64 0)]⟩])
 (.cond (.tm 53) (.region [⟨(some 54), none, (.fieldAddr 0), [.tm 3]⟩,
  ⟨(some 55), none, (.load false 1), [.tm 54]⟩,
  ⟨(some 7), none, .mov, [.tm 55]⟩])
  .skip))
 (.seq (.seq (.region [⟨(some 56), none, (.fieldAddr 1), [.tm 2]⟩,
  ⟨(some 57), none, (.load false 1), [.tm 56]⟩,
  ⟨(some 58), none, (.cmp .lss), [.tm 57, .cn (.int .i64 0)]⟩])
 (.cond (.tm 58) (.region [⟨(some 59), none, (.fieldAddr 1), [.tm 3]⟩,
  ⟨(some 60), none, (.load false 1), [.tm 59]⟩,
  ⟨(some 8), none, .mov, [.tm 60]⟩])
  .skip))
 (.seq (.region [⟨(some 62), none, (.fieldAddr 0), [.tm 2]⟩,
  ⟨(some 63), none, (.load false 1), [.tm 62]⟩,
  ⟨(some 64), none, (.call 45), [.tm 63, .cn (.int .i64 1)]⟩,
  ⟨(some 65), none, .mov, [.tm 7]⟩,
  ⟨(some 66), none, (.conv .u64), [.tm 65]⟩,
  ⟨(some 67), none, (.call 62), [.tm 64, .tm 66, .cn (.bool false)]⟩,
  ⟨(some 61), none, .mov, [.tm 67]⟩,
  ⟨(some 68), none, (.ext 0), [.tm 61]⟩,
  ⟨(some 69), none, (.ext 1), [.tm 61]⟩,
  ⟨(some 9), none, .mov, [.tm 68]⟩,
  ⟨(some 10), none, .mov, [.tm 69]⟩])
 (.seq (.region [⟨(some 71), none, (.fieldAddr 1), [.tm 2]⟩,
  ⟨(some 72), none, (.load false 1), [.tm 71]⟩,
  ⟨(some 73), none, (.call 45), [.tm 72, .cn (.int .i64 1)]⟩,
  ⟨(some 74), none, .mov, [.tm 8]⟩,
  ⟨(some 75), none, (.conv .u64), [.tm 74]⟩,
  ⟨(some 76), none, (.call 62), [.tm 73, .tm 75, .cn (.bool true)]⟩,
  ⟨(some 70), none, .mov, [.tm 76]⟩,
  ⟨(some 77), none, (.ext 0), [.tm 70]⟩,
  ⟨(some 78), none, (.ext 1), [.tm 70]⟩,
  ⟨(some 11), none, .mov, [.tm 77]⟩,
  ⟨(some 12), none, .mov, [.tm 78]⟩])
 (.seq (.seq (.region [⟨(some 79), none, .mov, [.tm 10]⟩,
  ⟨(some 80), none, .not, [.tm 79]⟩,
  ⟨(some 81), none, .mov, [.tm 80]⟩,
  ⟨(some 82), (some (81, false)), .mov, [.tm 12]⟩,
  ⟨(some 83), (some (81, false)), .not, [.tm 82]⟩,
  ⟨(some 84), none, .or, [.tm 81, .tm 83]⟩])
 (.cond (.tm 84) (.seq (.region [⟨(some 85), none, (.build [(.int .i64 0), (.int .i64 0)] []), []⟩,
  ⟨none, none, (.store 2), [.tm 4, .tm 85]⟩,
  ⟨(some 5), none, .mov, [.cn (.int .i64 7)]⟩])
 .ret)
  .skip))
 (.seq (.region [⟨(some 86), none, .mov, [.tm 9]⟩,
  ⟨(some 87), none, .mov, [.tm 11]⟩,
  ⟨(some 88), none, (.build [(.int .i64 0), (.int .i64 0)] [(0, 1), (1, 1)]), [.tm 86, .tm 87]⟩,
  ⟨none, none, (.store 2), [.tm 4, .tm 88]⟩,
  ⟨(some 5), none, .mov, [.cn (.int .i64 0)]⟩])
 .ret))))))))))) }
theorem v26_is : vfunc Try.prog Try.f26 = some v26 := by kernel_rfl
def v10 : VF := { ntmps := 45, res := [.cell 6 true 2, .tmp 7], body :=
 (.seq (.region [⟨(some 3), none, .box, [.tm 0]⟩,
  ⟨(some 6), none, (.alloc [(.int .i64 0), (.int .i64 0)]), []⟩,
  ⟨(some 7), none, .mov, [.cn (.int .i64 0)]⟩])
 (.seq (.region [⟨(some 9), none, (.load true 2), [.tm 3]⟩,
  ⟨(some 10), none, (.buildSlice 2 1 [(.int .i64 0), (.int .i64 0)] [(0, 2)]), [.tm 9]⟩,
  ⟨(some 11), none, (.call 42), [.tm 10]⟩,
  ⟨(some 8), none, .mov, [.tm 11]⟩])
 (.seq (.block 0 (.seq (.region [⟨(some 13), none, .mov, [.tm 8]⟩,
  ⟨(some 14), none, (.cmp .neq), [.tm 13, .cn (.int .i64 0)]⟩,
  ⟨(some 12), none, .mov, [.tm 14]⟩])
 (.cond (.tm 12) (.seq (.region [⟨(some 15), none, (.build [(.int .i64 0), (.int .i64 0)] []), []⟩,
  ⟨(some 16), none, .mov, [.tm 8]⟩,
  ⟨none, none, (.store 2), [.tm 6, .tm 15]⟩,
  ⟨(some 7), none, .mov, [.tm 16]⟩])
 .ret)
  (.seq (.region [⟨(some 18), none, .mov, [.tm 2]⟩,
  ⟨(some 19), none, (.cmp .lss), [.tm 18, .cn (.int .i64 1)]⟩,
  ⟨(some 20), none, .mov, [.tm 19]⟩,
  ⟨(some 21), (some (20, false)), .mov, [.tm 2]⟩,
  ⟨(some 22), (some (20, false)), (.call 43), [.tm 21]⟩,
  ⟨(some 23), (some (20, false)), .not, [.tm 22]⟩,
  ⟨(some 24), none, .or, [.tm 20, .tm 23]⟩,
  ⟨(some 25), none, .mov, [.tm 24]⟩,
  ⟨(some 26), (some (25, false)), .mov, [.tm 1]⟩,
  ⟨(some 27), (some (25, false)), (.call 43), [.tm 26]⟩,
  ⟨(some 28), (some (25, false)), .not, [.tm 27]⟩,
  ⟨(some 29), none, .or, [.tm 25, .tm 28]⟩,
  ⟨(some 17), none, .mov, [.tm 29]⟩])
 (.cond (.tm 17) (.seq (.region [⟨(some 30), none, (.build [(.int .i64 0), (.int .i64 0)] []), []⟩,
  ⟨none, none, (.store 2), [.tm 6, .tm 30]⟩,
  ⟨(some 7), none, .mov, [.cn (.int .i64 2)]⟩])
 .ret)
  .skip)))))
 (.seq (.draw [] [⟨⟨(some 31), none, .mov, [.tm 2]⟩, []⟩,
  ⟨⟨(some 32), none, (.conv .u64), [.tm 31]⟩, []⟩,
  ⟨⟨(some 33), none, (.fieldAddr 0), [.tm 3]⟩, []⟩,
  ⟨⟨(some 34), none, (.load false 1), [.tm 33]⟩, []⟩,
  ⟨⟨(some 35), none, .mov, [.tm 1]⟩, []⟩,
  ⟨⟨(some 37), none, (.fieldAddr 1), [.tm 3]⟩, []⟩,
  ⟨⟨(some 38), none, (.load false 1), [.tm 37]⟩, []⟩,
  ⟨⟨(some 39), none, .mov, [.tm 1]⟩, []⟩,
  ⟨⟨(some 36), none, (.call 45), [.tm 34, .tm 35]⟩, []⟩,
  ⟨⟨(some 40), none, (.call 45), [.tm 38, .tm 39]⟩, []⟩,
  ⟨⟨(some 41), none, (.buildSlice 3 2 [(.bool false), (.int .u64 0), (.int .u64 0)] [(0, 3), (3, 3)]), [.tm 36, .tm 40]⟩, []⟩,
  ⟨⟨(some 42), none, (.call 44), [.tm 32, .tm 41]⟩, []⟩,
  ⟨⟨(some 43), none, (.ext 0), [.tm 42]⟩, []⟩,
  ⟨⟨(some 44), none, (.ext 1), [.tm 42]⟩, []⟩,
  ⟨⟨none, none, (.store 2), [.tm 6, .tm 43]⟩, []⟩,
  ⟨⟨(some 7), none, .mov, [.tm 44]⟩, []⟩])
 .ret)))) }
theorem v10_is : vfunc Try.prog Try.f10 = some v10 := by kernel_rfl
def v17 : VF := { ntmps := 28, res := [.cell 2 true 2, .tmp 3], body :=
 (.seq (.region [⟨(some 1), none, .box, [.tm 0]⟩,
  ⟨(some 2), none, (.alloc [(.int .i64 0), (.int .i64 0)]), []⟩,
  ⟨(some 3), none, .mov, [.cn (.int .i64 0)]⟩])
 (.seq (.seq (.region [⟨(some 5), none, (.load true 2), [.tm 1]⟩,
  ⟨(some 6), none, (.buildSlice 2 1 [(.int .i64 0), (.int .i64 0)] [(0, 2)]), [.tm 5]⟩,
  ⟨(some 7), none, (.call 42), [.tm 6]⟩,
  ⟨(some 4), none, .mov, [.tm 7]⟩])
 (.seq (.region [⟨(some 8), none, .mov, [.tm 4]⟩,
  ⟨(some 9), none, (.cmp .neq), [.tm 8, .cn (.int .i64 0)]⟩])
 (.cond (.tm 9) (.seq (.region [⟨(some 10), none, (.build [(.int .i64 0), (.int .i64 0)] []), []⟩,
  ⟨(some 11), none, .mov, [.tm 4]⟩,
  ⟨none, none, (.store 2), [.tm 2, .tm 10]⟩,
  ⟨(some 3), none, .mov, [.tm 11]⟩])
 .ret)
  .skip)))
 (.seq (.draw [] [⟨⟨(some 12), none, (.fieldAddr 0), [.tm 1]⟩, []⟩,
  ⟨⟨(some 13), none, (.load false 1), [.tm 12]⟩, []⟩,
  ⟨⟨(some 15), none, (.fieldAddr 0), [.tm 1]⟩, []⟩,
  ⟨⟨(some 16), none, (.load false 1), [.tm 15]⟩, []⟩,
  ⟨⟨(some 18), none, (.fieldAddr 1), [.tm 1]⟩, []⟩,
  ⟨⟨(some 19), none, (.load false 1), [.tm 18]⟩, []⟩,
  ⟨⟨(some 21), none, (.fieldAddr 1), [.tm 1]⟩, []⟩,
  ⟨⟨(some 22), none, (.load false 1), [.tm 21]⟩, []⟩,
  ⟨⟨(some 14), none, (.call 45), [.tm 13, .cn (.int .i64 3141592653589793238)]⟩, []⟩,
  ⟨⟨(some 17), none, (.call 45), [.tm 16, .cn (.int .i64 3141592653589793239)]⟩, []⟩,
  ⟨⟨(some 20), none, (.call 45), [.tm 19, .cn (.int .i64 3141592653589793238)]⟩, []⟩,
  ⟨⟨(some 23), none, (.call 45), [.tm 22, .cn (.int .i64 3141592653589793239)]⟩, []⟩,
  ⟨⟨(some 24), none, (.buildSlice 3 4 [(.bool false), (.int .u64 0), (.int .u64 0)] [(0, 3), (3, 3), (6, 3), (9, 3)]), [.tm 14, .tm 17, .tm 20, .tm 23]⟩, []⟩,
  ⟨⟨(some 25), none, (.call 44), [.cn (.int .u64 1000000000000000000), .tm 24]⟩, []⟩,
  ⟨⟨(some 26), none, (.ext 0), [.tm 25]⟩, []⟩,
  ⟨⟨(some 27), none, (.ext 1), [.tm 25]⟩, []⟩,
  ⟨⟨none, none, (.store 2), [.tm 2, .tm 26]⟩, []⟩,
  ⟨⟨(some 3), none, .mov, [.tm 27]⟩, []⟩])
 .ret))) }
theorem v17_is : vfunc Try.prog Try.f17 = some v17 := by kernel_rfl
def v36 : VF := { ntmps := 26, res := [.cell 4 true 2, .tmp 5], body :=
 (.seq (.region [⟨(some 2), none, .box, [.tm 0]⟩,
  ⟨(some 3), none, .box, [.tm 1]⟩,
  ⟨(some 4), none, (.alloc [(.int .i64 0), (.int .i64 0)]), []⟩,
  ⟨(some 5), none, .mov, [.cn (.int .i64 0)]⟩])
 (.seq (.seq (.region [⟨(some 7), none, (.load true 2), [.tm 2]⟩,
  ⟨(some 8), none, (.load true 2), [.tm 3]⟩,
  ⟨(some 9), none, (.buildSlice 2 2 [(.int .i64 0), (.int .i64 0)] [(0, 2), (2, 2)]), [.tm 7, .tm 8]⟩,
  ⟨(some 10), none, (.call 42), [.tm 9]⟩,
  ⟨(some 6), none, .mov, [.tm 10]⟩])
 (.seq (.region [⟨(some 11), none, .mov, [.tm 6]⟩,
  ⟨(some 12), none, (.cmp .neq), [.tm 11, .cn (.int .i64 0)]⟩])
 (.cond (.tm 12) (.seq (.region [⟨(some 13), none, (.build [(.int .i64 0), (.int .i64 0)] []), []⟩,
  ⟨(some 14), none, .mov, [.tm 6]⟩,
  ⟨none, none, (.store 2), [.tm 4, .tm 13]⟩,
  ⟨(some 5), none, .mov, [.tm 14]⟩])
 .ret)
  .skip)))
 (.seq (.region [⟨(some 15), none, (.fieldAddr 0), [.tm 2]⟩,
  ⟨(some 16), none, (.load false 1), [.tm 15]⟩,
  ⟨(some 17), none, (.fieldAddr 0), [.tm 3]⟩,
  ⟨(some 18), none, (.load false 1), [.tm 17]⟩,
  ⟨(some 19), none, .min, [.tm 16, .tm 18]⟩,
  ⟨(some 20), none, (.fieldAddr 1), [.tm 2]⟩,
  ⟨(some 21), none, (.load false 1), [.tm 20]⟩,
  ⟨(some 22), none, (.fieldAddr 1), [.tm 3]⟩,
  ⟨(some 23), none, (.load false 1), [.tm 22]⟩,
  ⟨(some 24), none, .max, [.tm 21, .tm 23]⟩,
  ⟨(some 25), none, (.build [(.int .i64 0), (.int .i64 0)] [(0, 1), (1, 1)]), [.tm 19, .tm 24]⟩,
  ⟨none, none, (.store 2), [.tm 4, .tm 25]⟩,
  ⟨(some 5), none, .mov, [.cn (.int .i64 0)]⟩])
 .ret))) }
theorem v36_is : vfunc Try.prog Try.f36 = some v36 := by kernel_rfl
def v38 : VF := { ntmps := 34, res := [.cell 4 true 2, .tmp 5], body :=
 (.seq (.region [⟨(some 2), none, .box, [.tm 0]⟩,
  ⟨(some 3), none, .box, [.tm 1]⟩,
  ⟨(some 4), none, (.alloc [(.int .i64 0), (.int .i64 0)]), []⟩,
  ⟨(some 5), none, .mov, [.cn (.int .i64 0)]⟩])
 (.seq (.seq (.region [⟨(some 8), none, (.load true 2), [.tm 2]⟩,
  ⟨(some 9), none, (.load true 2), [.tm 3]⟩,
  ⟨(some 10), none, (.buildSlice 2 2 [(.int .i64 0), (.int .i64 0)] [(0, 2), (2, 2)]), [.tm 8, .tm 9]⟩,
  ⟨(some 11), none, (.call 42), [.tm 10]⟩,
  ⟨(some 6), none, .mov, [.tm 11]⟩])
 (.seq (.region [⟨(some 12), none, .mov, [.tm 6]⟩,
  ⟨(some 13), none, (.cmp .neq), [.tm 12, .cn (.int .i64 0)]⟩])
 (.cond (.tm 13) (.seq (.region [⟨(some 14), none, (.build [(.int .i64 0), (.int .i64 0)] []), []⟩,
  ⟨(some 15), none, .mov, [.tm 6]⟩,
  ⟨none, none, (.store 2), [.tm 4, .tm 14]⟩,
  ⟨(some 5), none, .mov, [.tm 15]⟩])
 .ret)
  .skip)))
 (.seq (.region [⟨(some 16), none, (.fieldAddr 0), [.tm 2]⟩,
  ⟨(some 17), none, (.load false 1), [.tm 16]⟩,
  ⟨(some 18), none, (.fieldAddr 0), [.tm 3]⟩,
  ⟨(some 19), none, (.load false 1), [.tm 18]⟩,
  ⟨(some 20), none, .max, [.tm 17, .tm 19]⟩,
  ⟨(some 21), none, (.fieldAddr 1), [.tm 2]⟩,
  ⟨(some 22), none, (.load false 1), [.tm 21]⟩,
  ⟨(some 23), none, (.fieldAddr 1), [.tm 3]⟩,
  ⟨(some 24), none, (.load false 1), [.tm 23]⟩,
  ⟨(some 25), none, .min, [.tm 22, .tm 24]⟩,
  ⟨(some 26), none, (.build [(.int .i64 0), (.int .i64 0)] [(0, 1), (1, 1)]), [.tm 20, .tm 25]⟩,
  ⟨(some 7), none, (.alloc [(.int .i64 0), (.int .i64 0)]), []⟩,
  ⟨none, none, (.store 2), [.tm 7, .tm 26]⟩])
 (.seq (.seq (.region [⟨(some 27), none, (.fieldAddr 0), [.tm 7]⟩,
  ⟨(some 28), none, (.load false 1), [.tm 27]⟩,
  ⟨(some 29), none, (.fieldAddr 1), [.tm 7]⟩,
  ⟨(some 30), none, (.load false 1), [.tm 29]⟩,
  ⟨(some 31), none, (.cmp .gtr), [.tm 28, .tm 30]⟩])
 (.cond (.tm 31) (.seq (.region [⟨(some 32), none, (.build [(.int .i64 0), (.int .i64 0)] []), []⟩,
  ⟨none, none, (.store 2), [.tm 4, .tm 32]⟩,
  ⟨(some 5), none, .mov, [.cn (.int .i64 4)]⟩])
 .ret)
  .skip))
 (.seq (.region [⟨(some 33), none, (.load true 2), [.tm 7]⟩,
  ⟨none, none, (.store 2), [.tm 4, .tm 33]⟩,
  ⟨(some 5), none, .mov, [.cn (.int .i64 0)]⟩])
 .ret))))) }
theorem v38_is : vfunc Try.prog Try.f38 = some v38 := by kernel_rfl
def v40 : VF := { ntmps := 27, res := [.tmp 4, .tmp 5], body :=
 (.seq (.region [⟨(some 2), none, .box, [.tm 0]⟩,
  ⟨(some 3), none, .box, [.tm 1]⟩,
  ⟨(some 4), none, .mov, [.cn (.int .i64 0)]⟩,
  ⟨(some 5), none, .mov, [.cn (.int .i64 0)]⟩])
 (.seq (.region [⟨(some 7), none, (.load true 2), [.tm 2]⟩,
  ⟨(some 8), none, (.load true 2), [.tm 3]⟩,
  ⟨(some 9), none, (.buildSlice 2 2 [(.int .i64 0), (.int .i64 0)] [(0, 2), (2, 2)]), [.tm 7, .tm 8]⟩,
  ⟨(some 10), none, (.call 42), [.tm 9]⟩,
  ⟨(some 6), none, .mov, [.tm 10]⟩])
 (.seq (.block 0 (.seq (.region [⟨(some 12), none, .mov, [.tm 6]⟩,
  ⟨(some 13), none, (.cmp .neq), [.tm 12, .cn (.int .i64 0)]⟩,
  ⟨(some 11), none, .mov, [.tm 13]⟩])
 (.cond (.tm 11) (.seq (.region [⟨(some 14), none, .mov, [.tm 6]⟩,
  ⟨(some 4), none, .mov, [.cn (.int .i64 0)]⟩,
  ⟨(some 5), none, .mov, [.tm 14]⟩])
 .ret)
  (.seq (.region [⟨(some 16), none, (.fieldAddr 1), [.tm 2]⟩,
  ⟨(some 17), none, (.load false 1), [.tm 16]⟩,
  ⟨(some 18), none, (.fieldAddr 0), [.tm 3]⟩,
  ⟨(some 19), none, (.load false 1), [.tm 18]⟩,
  ⟨(some 20), none, (.cmp .lss), [.tm 17, .tm 19]⟩,
  ⟨(some 15), none, .mov, [.tm 20]⟩])
 (.cond (.tm 15) (.seq (.region [⟨(some 4), none, .mov, [.cn (.int .i64 (-1))]⟩,
  ⟨(some 5), none, .mov, [.cn (.int .i64 0)]⟩])
 .ret)
  (.seq (.region [⟨(some 22), none, (.fieldAddr 0), [.tm 2]⟩,
  ⟨(some 23), none, (.load false 1), [.tm 22]⟩,
  ⟨(some 24), none, (.fieldAddr 1), [.tm 3]⟩,
  ⟨(some 25), none, (.load false 1), [.tm 24]⟩,
  ⟨(some 26), none, (.cmp .gtr), [.tm 23, .tm 25]⟩,
  ⟨(some 21), none, .mov, [.tm 26]⟩])
 (.cond (.tm 21) (.seq (.region [⟨(some 4), none, .mov, [.cn (.int .i64 1)]⟩,
  ⟨(some 5), none, .mov, [.cn (.int .i64 0)]⟩])
 .ret)
  .skip)))))))
 (.seq (.region [⟨(some 4), none, .mov, [.cn (.int .i64 0)]⟩,
  ⟨(some 5), none, .mov, [.cn (.int .i64 0)]⟩])
 .ret)))) }
theorem v40_is : vfunc Try.prog Try.f40 = some v40 := by kernel_rfl


def iv1C : Ctr := { alias := false, of := fun a => match a with | [.agg [.int .i64 x, .int .i64 y]] => .fin (.int .i64 (ivE [(x, y)])) [] | _ => noC }
/-- Of two intervals, or one. -/
def iv2C (f : Iv → Iv → Iv × Int) : Ctr := { alias := false, of := fun a => match a with
  | [.agg [.int .i64 x, .int .i64 y], .agg [.int .i64 z, .int .i64 w]] => .fin (.tup [.agg (enc2 (f (x, y) (z, w)).1), .int .i64 (f (x, y) (z, w)).2]) []
  | _ => noC }
def ivoC (f : Iv → Iv × Int) : Ctr := { alias := false, of := fun a => match a with
  | [.agg [.int .i64 x, .int .i64 y]] => .fin (.tup [.agg (enc2 (f (x, y)).1), .int .i64 (f (x, y)).2]) []
  | _ => noC }
def addC := iv2C addF
def subC := iv2C subF
def mulC := iv2C mulF
def quoC := iv2C quoF
def hullC := iv2C hullF
def meetC := iv2C meetF
def piC := ivoC piF
def sclC : Ctr := { alias := false, of := fun a => match a with
  | [.agg [.int .i64 x, .int .i64 y], .int .i64 n, .int .i64 d] => .fin (.tup [.agg (enc2 (sclF (x, y) n d).1), .int .i64 (sclF (x, y) n d).2]) []
  | _ => noC }
def ordC : Ctr := { alias := false, of := fun a => match a with
  | [.agg [.int .i64 x, .int .i64 y], .agg [.int .i64 z, .int .i64 w]] => .fin (.tup [.int .i64 (ordF (x, y) (z, w)).1, .int .i64 (ordF (x, y) (z, w)).2]) []
  | _ => noC }

def P3 : Env := { ct := fun n => match n with | 43 => some numC | 42 => some ivlC | 45 => some timC | 62 => some overC | 44 => some spanC | 61 => some fitC | _ => none, fn := fun _ => none, meth := fun _ _ => none }
theorem P3_ct43 : P3.ct 43 = some numC := rfl
theorem P3_ct42 : P3.ct 42 = some ivlC := rfl
theorem P3_ct45 : P3.ct 45 = some timC := rfl
theorem P3_ct62 : P3.ct 62 = some overC := rfl
theorem P3_ct44 : P3.ct 44 = some spanC := rfl
theorem P3_ct61 : P3.ct 61 = some fitC := rfl
theorem P3_ok : EnvOk Try.prog P3 := by
  refine ⟨fun f c h => ?_, fun f vf h => ?_, fun _ _ => rfl, by kernel_rfl⟩
  · simp only [P3] at h
    split at h
    · cases h; exact ⟨num_ok, Try.f43, Try.func43, by kernel_rfl, by kernel_rfl⟩
    · cases h; exact ⟨ivl_ok, Try.f42, Try.func42, by kernel_rfl, by kernel_rfl⟩
    · cases h; exact ⟨tim_ok, Try.f45, Try.func45, by kernel_rfl, by kernel_rfl⟩
    · cases h; exact ⟨over_ok, Try.f62, Try.func62, by kernel_rfl, by kernel_rfl⟩
    · cases h; exact ⟨span_ok, Try.f44, Try.func44, by kernel_rfl, by kernel_rfl⟩
    · cases h; exact ⟨fit_ok, Try.f61, Try.func61, by kernel_rfl, by kernel_rfl⟩
    · cases h
  · cases h


theorem ans_iv {k : SV → List HO → Prop} {al : Bool} {hp : List HO} {r : Iv × Int} (h : k (.tup [.agg (enc2 r.1), .int .i64 r.2]) []) : answers al k (.tup [.agg [.int .i64 r.1.1, .int .i64 r.1.2], .int .i64 r.2]) hp :=
  ans_le (show k _ [] from h) (le_self (.tup [.agg (enc2 r.1), .int .i64 r.2]) ⟨⟨trivial, trivial, trivial⟩, trivial, trivial⟩) (fun _ => by simp [enc2, freshS, freshL])
theorem ivs2 {x y z w : Int} {t : Bool} : lsP 2 enc2 2 2 (fun k => takeL 2 (dropL (k * 2) [SV.int .i64 x, .int .i64 y, .int .i64 z, .int .i64 w])) [(x, y), (z, w)] :=
  ⟨rfl, rfl, fun k hk => match k, hk with | 0, _ => leXL_self _ | 1, _ => leXL_self _⟩

theorem check_ok : iv1C.ok Try.prog 32 := by
  refine contract Try.func32 v32_is P3_ok 100 iv1C fun args k h => ⟨args, ?_⟩
  simp only [iv1C] at h
  split at h
  · rename_i x y
    refine ⟨by simp [leL, le], ?_⟩
    dsimp only [v32, P3_ct42, ivlC, r_end, r_end1, r_nil, r_op, r_opg, r_runOp, r_op0, r_yld0, r_yld1, r_y, r_rbeg, r_rend, r_rend1, r_rfrm, r_rfrm1, r_range, r_rangeK, r_rangeE, r_draw, r_dnil, r_dop, r_dopg, r_dplq, r_dplh, r_dq, r_dq0, r_dcl1, r_dcl0, r_dct1, r_dct0, r_dgd, r_dgq1, r_dgq0, r_dctG, r_op1, r_eff, r_eff0, r_call, r_call0, r_inl, r_g, r_gq, r_gc, r_effg, r_effg0, r_callg, r_callg0, r_fin, r_pre, r_imp, r_all, r_ex, r_fing, r_preg, r_exg, r_inBlock, r_inLoop, r_frame, r_frame1, r_skip, r_stuck, r_region, r_seq, r_cond, r_cond1, r_block, r_exit, r_exit1, r_exit2, r_ret, r_loop, s_args0, s_args1, s_xt, s_xc, padL, blankL, callee, callArgs, eff, ctOf, getL, setL, S.put, S.upd, unopts, unopt, unoptsO, unoptsB, lazyO, guardOf, gbool, eMov, eNot, eNeg, eConv, eExt, eLenArr, eLen, eLenStr, eEqb, eEqv, allEq, eNil, negIf, eBool2, eCmp, eAri, ari, eBit, eDiv, eSh, eMinMax, foldMin, foldMax, kEq, pure1, cmpB, VO.quiet, resVals, resVal, tupled, popRet, popTo, cond, Option.bind, Option.map, eNew, eBox, asCells, lenH, snocH, eFieldAddr, eField, eLoad, cellsAt, getH, setH, dropL, takeL, mkAgg, lenL, lenS, shift, shiftL, shiftH, viewN, viewL, view, andT, junks, List.append_nil, Nat.beq, eIdxAddr, eIdxArr, idxN_0, idxN_1, idxN_2, idxN_3, eIndex, eStore, storeAt, spliceL, ones, one, eSlice, eSliceArr, bounds, subLo_z, addLo_z, subLo_one, addLo_one, eMake, eAppend, readS, repL, buildCells, chunk, purgeL, purgeLL, purgeH, purge, refs, refsL, List.cons_append, List.nil_append, wrOps, wrAl, wrDops, wrC, junkAt, putAll, putHs, headOf, headK, keepG, List.append_eq, headX, chkP, apartP, apartB, blk, strip, runAl, AL.ho, yld, putPs, lenN, findR, notRound, jumpK, jumpPT, jcode, List.map_cons, List.map_nil, ite_self, reduceIte]
    simp only [true_and, and_true, imp_self, implies_true, decide_eq_true_eq, decide_eq_false_iff_not, Nat.reduceAdd, Nat.reduceLeDiff, Bool.not_not, reduceCtorEq, false_imp_iff, Bool.not_eq_true', Bool.not_eq_false', Bool.false_eq_true, and_self, forall_const, ne_eq, not_false_eq_true, Nat.reduceEqDiff]
    refine ⟨by decide, [(x, y)], ⟨⟨rfl, rfl, fun k hk => ?_⟩, by simp⟩, ans_int h⟩
    match k, hk with
    | 0, _ => exact leXL_self _
  · exact h.1.elim

theorem big_mul {a b : Int} (ha : -9223372036854775808 ≤ a ∧ a ≤ 9223372036854775808) (hb : -9223372036854775808 ≤ b ∧ b ≤ 9223372036854775808) : big (a * b) := by
  unfold big
  rw [Int.natAbs_mul]
  have := Nat.mul_le_mul (show a.natAbs ≤ 9223372036854775808 by omega) (show b.natAbs ≤ 9223372036854775808 by omega)
  omega
theorem big1 {a : Int} (ha : -9223372036854775808 ≤ a ∧ a ≤ 9223372036854775808) : big a := by
  unfold big; omega
theorem neg_in {a : Int} (h : -4611686018427387904 ≤ a ∧ a ≤ 4611686018427387904) : IntKind.i64.wrap (0 - a) = -a := by rw [IntWalk.i64_in _ (by omega)]; omega

theorem add_ok : addC.ok Try.prog 24 := by
  refine contract Try.func24 v24_is P3_ok 200 addC fun args k h => ⟨args, ?_⟩
  simp only [addC, iv2C] at h
  split at h
  · rename_i x y z w
    refine ⟨by simp [leL, le], ?_⟩
    dsimp only [v24, P3_ct42, P3_ct61, ivlC, fitC, enc2, r_end, r_end1, r_nil, r_op, r_opg, r_runOp, r_op0, r_yld0, r_yld1, r_y, r_rbeg, r_rend, r_rend1, r_rfrm, r_rfrm1, r_range, r_rangeK, r_rangeE, r_draw, r_dnil, r_dop, r_dopg, r_dplq, r_dplh, r_dq, r_dq0, r_dcl1, r_dcl0, r_dct1, r_dct0, r_dgd, r_dgq1, r_dgq0, r_dctG, r_op1, r_eff, r_eff0, r_call, r_call0, r_inl, r_g, r_gq, r_gc, r_effg, r_effg0, r_callg, r_callg0, r_fin, r_pre, r_imp, r_all, r_ex, r_fing, r_preg, r_exg, r_inBlock, r_inLoop, r_frame, r_frame1, r_skip, r_stuck, r_region, r_seq, r_cond, r_cond1, r_block, r_exit, r_exit1, r_exit2, r_ret, r_loop, s_args0, s_args1, s_xt, s_xc, padL, blankL, callee, callArgs, eff, ctOf, getL, setL, S.put, S.upd, unopts, unopt, unoptsO, unoptsB, lazyO, guardOf, gbool, eMov, eNot, eNeg, eConv, eExt, eLenArr, eLen, eLenStr, eEqb, eEqv, allEq, eNil, negIf, eBool2, eCmp, eAri, ari, eBit, eDiv, eSh, eMinMax, foldMin, foldMax, kEq, pure1, cmpB, VO.quiet, resVals, resVal, tupled, popRet, popTo, cond, Option.bind, Option.map, eNew, eBox, asCells, lenH, snocH, eFieldAddr, eField, eLoad, cellsAt, getH, setH, dropL, takeL, mkAgg, lenL, lenS, shift, shiftL, shiftH, viewN, viewL, view, andT, junks, List.append_nil, Nat.beq, eIdxAddr, eIdxArr, idxN_0, idxN_1, idxN_2, idxN_3, eIndex, eStore, storeAt, spliceL, ones, one, eSlice, eSliceArr, bounds, subLo_z, addLo_z, subLo_one, addLo_one, eMake, eAppend, readS, repL, buildCells, chunk, purgeL, purgeLL, purgeH, purge, refs, refsL, List.cons_append, List.nil_append, wrOps, wrAl, wrDops, wrC, junkAt, putAll, putHs, headOf, headK, keepG, List.append_eq, headX, chkP, apartP, apartB, blk, strip, runAl, AL.ho, yld, putPs, lenN, findR, notRound, jumpK, jumpPT, jcode, List.map_cons, List.map_nil, ite_self, reduceIte]
    simp only [true_and, and_true, imp_self, implies_true, decide_eq_true_eq, decide_eq_false_iff_not, Nat.reduceAdd, Nat.reduceLeDiff, Bool.not_not, reduceCtorEq, false_imp_iff, Bool.not_eq_true', Bool.not_eq_false', Bool.false_eq_true, and_self, forall_const, ne_eq, not_false_eq_true, Nat.reduceEqDiff]
    have h : k (.tup [.agg (enc2 (addF (x, y) (z, w)).1), .int .i64 (addF (x, y) (z, w)).2]) [] := h
    refine ⟨by decide, [(x, y), (z, w)], ⟨⟨rfl, rfl, fun k hk => match k, hk with | 0, _ => leXL_self _ | 1, _ => leXL_self _⟩, by simp⟩, fun hc => ?_, fun hc => ?_⟩
    · rw [addF, if_pos hc] at h
      exact ans_iv (r := errI (ivE [(x, y), (z, w)])) h
    · obtain ⟨⟨h1, h2, h3⟩, h4, h5, h6⟩ := ivE2 hc
      dsimp only at h1 h2 h3 h4 h5 h6
      rw [addF, if_neg (by rw [hc]; simp)] at h
      dsimp only at h
      refine ⟨fun hm => ?_, fun hm => ⟨by decide, by decide, ?_⟩⟩
      · rw [Bool.and_eq_true, decide_eq_true_eq, decide_eq_true_eq] at hm
        have : numOk (y + w) = false := by
          rw [Bool.eq_false_iff]; intro hh; have := numOk_iff.1 hh; omega
        rw [fitF, this, Bool.and_false] at h
        exact ans_iv (r := ((0, 0), 7)) h
      · rw [Bool.and_eq_false_iff, decide_eq_false_iff_not, decide_eq_false_iff_not] at hm
        rw [IntWalk.i64_in (x + z) (by omega), IntWalk.i64_in (y + w) (by omega)]
        exact ans_iv h
  · exact h.1.elim

def P4 : Env := { ct := fun n => match n with | 43 => some numC | 42 => some ivlC | 45 => some timC | 62 => some overC | 44 => some spanC | 61 => some fitC | 24 => some addC | _ => none, fn := fun _ => none, meth := fun _ _ => none }
theorem P4_ct43 : P4.ct 43 = some numC := rfl
theorem P4_ct42 : P4.ct 42 = some ivlC := rfl
theorem P4_ct45 : P4.ct 45 = some timC := rfl
theorem P4_ct62 : P4.ct 62 = some overC := rfl
theorem P4_ct44 : P4.ct 44 = some spanC := rfl
theorem P4_ct61 : P4.ct 61 = some fitC := rfl
theorem P4_ct24 : P4.ct 24 = some addC := rfl
theorem P4_ok : EnvOk Try.prog P4 := by
  refine ⟨fun f c h => ?_, fun f vf h => ?_, fun _ _ => rfl, by kernel_rfl⟩
  · simp only [P4] at h
    split at h
    · cases h; exact ⟨num_ok, Try.f43, Try.func43, by kernel_rfl, by kernel_rfl⟩
    · cases h; exact ⟨ivl_ok, Try.f42, Try.func42, by kernel_rfl, by kernel_rfl⟩
    · cases h; exact ⟨tim_ok, Try.f45, Try.func45, by kernel_rfl, by kernel_rfl⟩
    · cases h; exact ⟨over_ok, Try.f62, Try.func62, by kernel_rfl, by kernel_rfl⟩
    · cases h; exact ⟨span_ok, Try.f44, Try.func44, by kernel_rfl, by kernel_rfl⟩
    · cases h; exact ⟨fit_ok, Try.f61, Try.func61, by kernel_rfl, by kernel_rfl⟩
    · cases h; exact ⟨add_ok, Try.f24, Try.func24, by kernel_rfl, by kernel_rfl⟩
    · cases h
  · cases h


theorem sub_ok : subC.ok Try.prog 25 := by
  refine contract Try.func25 v25_is P4_ok 200 subC fun args k h => ⟨args, ?_⟩
  simp only [subC, iv2C] at h
  split at h
  · rename_i x y z w
    refine ⟨by simp [leL, le], ?_⟩
    dsimp only [v25, P4_ct42, P4_ct24, ivlC, addC, iv2C, enc2, r_end, r_end1, r_nil, r_op, r_opg, r_runOp, r_op0, r_yld0, r_yld1, r_y, r_rbeg, r_rend, r_rend1, r_rfrm, r_rfrm1, r_range, r_rangeK, r_rangeE, r_draw, r_dnil, r_dop, r_dopg, r_dplq, r_dplh, r_dq, r_dq0, r_dcl1, r_dcl0, r_dct1, r_dct0, r_dgd, r_dgq1, r_dgq0, r_dctG, r_op1, r_eff, r_eff0, r_call, r_call0, r_inl, r_g, r_gq, r_gc, r_effg, r_effg0, r_callg, r_callg0, r_fin, r_pre, r_imp, r_all, r_ex, r_fing, r_preg, r_exg, r_inBlock, r_inLoop, r_frame, r_frame1, r_skip, r_stuck, r_region, r_seq, r_cond, r_cond1, r_block, r_exit, r_exit1, r_exit2, r_ret, r_loop, s_args0, s_args1, s_xt, s_xc, padL, blankL, callee, callArgs, eff, ctOf, getL, setL, S.put, S.upd, unopts, unopt, unoptsO, unoptsB, lazyO, guardOf, gbool, eMov, eNot, eNeg, eConv, eExt, eLenArr, eLen, eLenStr, eEqb, eEqv, allEq, eNil, negIf, eBool2, eCmp, eAri, ari, eBit, eDiv, eSh, eMinMax, foldMin, foldMax, kEq, pure1, cmpB, VO.quiet, resVals, resVal, tupled, popRet, popTo, cond, Option.bind, Option.map, eNew, eBox, asCells, lenH, snocH, eFieldAddr, eField, eLoad, cellsAt, getH, setH, dropL, takeL, mkAgg, lenL, lenS, shift, shiftL, shiftH, viewN, viewL, view, andT, junks, List.append_nil, Nat.beq, eIdxAddr, eIdxArr, idxN_0, idxN_1, idxN_2, idxN_3, eIndex, eStore, storeAt, spliceL, ones, one, eSlice, eSliceArr, bounds, subLo_z, addLo_z, subLo_one, addLo_one, eMake, eAppend, readS, repL, buildCells, chunk, purgeL, purgeLL, purgeH, purge, refs, refsL, List.cons_append, List.nil_append, wrOps, wrAl, wrDops, wrC, junkAt, putAll, putHs, headOf, headK, keepG, List.append_eq, headX, chkP, apartP, apartB, blk, strip, runAl, AL.ho, yld, putPs, lenN, findR, notRound, jumpK, jumpPT, jcode, List.map_cons, List.map_nil, ite_self, reduceIte]
    simp only [true_and, and_true, imp_self, implies_true, decide_eq_true_eq, decide_eq_false_iff_not, Nat.reduceAdd, Nat.reduceLeDiff, Bool.not_not, reduceCtorEq, false_imp_iff, Bool.not_eq_true', Bool.not_eq_false', Bool.false_eq_true, and_self, forall_const, ne_eq, not_false_eq_true, Nat.reduceEqDiff]
    have h : k (.tup [.agg (enc2 (subF (x, y) (z, w)).1), .int .i64 (subF (x, y) (z, w)).2]) [] := h
    refine ⟨by decide, [(x, y), (z, w)], ⟨⟨rfl, rfl, fun k hk => match k, hk with | 0, _ => leXL_self _ | 1, _ => leXL_self _⟩, by simp⟩, fun hc => ?_, fun hc => ?_⟩
    · rw [subF, if_pos hc] at h
      exact ans_iv (r := errI (ivE [(x, y), (z, w)])) h
    · obtain ⟨⟨h1, h2, h3⟩, h4, h5, h6⟩ := ivE2 hc
      dsimp only at h1 h2 h3 h4 h5 h6
      rw [subF, if_neg (by rw [hc]; simp)] at h
      dsimp only at h
      rw [neg_in h4, neg_in h5]
      exact ⟨by decide, by decide, ans_iv h⟩
  · exact h.1.elim

theorem hull_ok : hullC.ok Try.prog 36 := by
  refine contract Try.func36 v36_is P4_ok 200 hullC fun args k h => ⟨args, ?_⟩
  simp only [hullC, iv2C] at h
  split at h
  · rename_i x y z w
    refine ⟨by simp [leL, le], ?_⟩
    dsimp only [v36, P4_ct42, ivlC, enc2, r_end, r_end1, r_nil, r_op, r_opg, r_runOp, r_op0, r_yld0, r_yld1, r_y, r_rbeg, r_rend, r_rend1, r_rfrm, r_rfrm1, r_range, r_rangeK, r_rangeE, r_draw, r_dnil, r_dop, r_dopg, r_dplq, r_dplh, r_dq, r_dq0, r_dcl1, r_dcl0, r_dct1, r_dct0, r_dgd, r_dgq1, r_dgq0, r_dctG, r_op1, r_eff, r_eff0, r_call, r_call0, r_inl, r_g, r_gq, r_gc, r_effg, r_effg0, r_callg, r_callg0, r_fin, r_pre, r_imp, r_all, r_ex, r_fing, r_preg, r_exg, r_inBlock, r_inLoop, r_frame, r_frame1, r_skip, r_stuck, r_region, r_seq, r_cond, r_cond1, r_block, r_exit, r_exit1, r_exit2, r_ret, r_loop, s_args0, s_args1, s_xt, s_xc, padL, blankL, callee, callArgs, eff, ctOf, getL, setL, S.put, S.upd, unopts, unopt, unoptsO, unoptsB, lazyO, guardOf, gbool, eMov, eNot, eNeg, eConv, eExt, eLenArr, eLen, eLenStr, eEqb, eEqv, allEq, eNil, negIf, eBool2, eCmp, eAri, ari, eBit, eDiv, eSh, eMinMax, foldMin, foldMax, kEq, pure1, cmpB, VO.quiet, resVals, resVal, tupled, popRet, popTo, cond, Option.bind, Option.map, eNew, eBox, asCells, lenH, snocH, eFieldAddr, eField, eLoad, cellsAt, getH, setH, dropL, takeL, mkAgg, lenL, lenS, shift, shiftL, shiftH, viewN, viewL, view, andT, junks, List.append_nil, Nat.beq, eIdxAddr, eIdxArr, idxN_0, idxN_1, idxN_2, idxN_3, eIndex, eStore, storeAt, spliceL, ones, one, eSlice, eSliceArr, bounds, subLo_z, addLo_z, subLo_one, addLo_one, eMake, eAppend, readS, repL, buildCells, chunk, purgeL, purgeLL, purgeH, purge, refs, refsL, List.cons_append, List.nil_append, wrOps, wrAl, wrDops, wrC, junkAt, putAll, putHs, headOf, headK, keepG, List.append_eq, headX, chkP, apartP, apartB, blk, strip, runAl, AL.ho, yld, putPs, lenN, findR, notRound, jumpK, jumpPT, jcode, List.map_cons, List.map_nil, ite_self, reduceIte]
    simp only [true_and, and_true, imp_self, implies_true, decide_eq_true_eq, decide_eq_false_iff_not, Nat.reduceAdd, Nat.reduceLeDiff, Bool.not_not, reduceCtorEq, false_imp_iff, Bool.not_eq_true', Bool.not_eq_false', Bool.false_eq_true, and_self, forall_const, ne_eq, not_false_eq_true, Nat.reduceEqDiff]
    have h : k (.tup [.agg (enc2 (hullF (x, y) (z, w)).1), .int .i64 (hullF (x, y) (z, w)).2]) [] := h
    refine ⟨by decide, [(x, y), (z, w)], ⟨⟨rfl, rfl, fun k hk => match k, hk with | 0, _ => leXL_self _ | 1, _ => leXL_self _⟩, by simp⟩, fun hc => ?_, fun hc => ?_⟩
    · rw [hullF, if_pos hc] at h
      exact ans_iv (r := errI (ivE [(x, y), (z, w)])) h
    · obtain ⟨⟨h1, h2, h3⟩, h4, h5, h6⟩ := ivE2 hc
      dsimp only at h1 h2 h3 h4 h5 h6
      rw [hullF, if_neg (by rw [hc]; simp)] at h
      exact ans_iv (r := ((_, _), _)) h
  · exact h.1.elim

theorem meet_ok : meetC.ok Try.prog 38 := by
  refine contract Try.func38 v38_is P4_ok 200 meetC fun args k h => ⟨args, ?_⟩
  simp only [meetC, iv2C] at h
  split at h
  · rename_i x y z w
    refine ⟨by simp [leL, le], ?_⟩
    dsimp only [v38, P4_ct42, ivlC, enc2, r_end, r_end1, r_nil, r_op, r_opg, r_runOp, r_op0, r_yld0, r_yld1, r_y, r_rbeg, r_rend, r_rend1, r_rfrm, r_rfrm1, r_range, r_rangeK, r_rangeE, r_draw, r_dnil, r_dop, r_dopg, r_dplq, r_dplh, r_dq, r_dq0, r_dcl1, r_dcl0, r_dct1, r_dct0, r_dgd, r_dgq1, r_dgq0, r_dctG, r_op1, r_eff, r_eff0, r_call, r_call0, r_inl, r_g, r_gq, r_gc, r_effg, r_effg0, r_callg, r_callg0, r_fin, r_pre, r_imp, r_all, r_ex, r_fing, r_preg, r_exg, r_inBlock, r_inLoop, r_frame, r_frame1, r_skip, r_stuck, r_region, r_seq, r_cond, r_cond1, r_block, r_exit, r_exit1, r_exit2, r_ret, r_loop, s_args0, s_args1, s_xt, s_xc, padL, blankL, callee, callArgs, eff, ctOf, getL, setL, S.put, S.upd, unopts, unopt, unoptsO, unoptsB, lazyO, guardOf, gbool, eMov, eNot, eNeg, eConv, eExt, eLenArr, eLen, eLenStr, eEqb, eEqv, allEq, eNil, negIf, eBool2, eCmp, eAri, ari, eBit, eDiv, eSh, eMinMax, foldMin, foldMax, kEq, pure1, cmpB, VO.quiet, resVals, resVal, tupled, popRet, popTo, cond, Option.bind, Option.map, eNew, eBox, asCells, lenH, snocH, eFieldAddr, eField, eLoad, cellsAt, getH, setH, dropL, takeL, mkAgg, lenL, lenS, shift, shiftL, shiftH, viewN, viewL, view, andT, junks, List.append_nil, Nat.beq, eIdxAddr, eIdxArr, idxN_0, idxN_1, idxN_2, idxN_3, eIndex, eStore, storeAt, spliceL, ones, one, eSlice, eSliceArr, bounds, subLo_z, addLo_z, subLo_one, addLo_one, eMake, eAppend, readS, repL, buildCells, chunk, purgeL, purgeLL, purgeH, purge, refs, refsL, List.cons_append, List.nil_append, wrOps, wrAl, wrDops, wrC, junkAt, putAll, putHs, headOf, headK, keepG, List.append_eq, headX, chkP, apartP, apartB, blk, strip, runAl, AL.ho, yld, putPs, lenN, findR, notRound, jumpK, jumpPT, jcode, List.map_cons, List.map_nil, ite_self, reduceIte]
    simp only [true_and, and_true, imp_self, implies_true, decide_eq_true_eq, decide_eq_false_iff_not, Nat.reduceAdd, Nat.reduceLeDiff, Bool.not_not, reduceCtorEq, false_imp_iff, Bool.not_eq_true', Bool.not_eq_false', Bool.false_eq_true, and_self, forall_const, ne_eq, not_false_eq_true, Nat.reduceEqDiff]
    have h : k (.tup [.agg (enc2 (meetF (x, y) (z, w)).1), .int .i64 (meetF (x, y) (z, w)).2]) [] := h
    refine ⟨by decide, [(x, y), (z, w)], ⟨⟨rfl, rfl, fun k hk => match k, hk with | 0, _ => leXL_self _ | 1, _ => leXL_self _⟩, by simp⟩, fun hc => ?_, fun hc => ?_⟩
    · rw [meetF, if_pos hc] at h
      exact ans_iv (r := errI (ivE [(x, y), (z, w)])) h
    · obtain ⟨⟨h1, h2, h3⟩, h4, h5, h6⟩ := ivE2 hc
      dsimp only at h1 h2 h3 h4 h5 h6
      rw [meetF, if_neg (by rw [hc]; simp)] at h
      dsimp only at h
      refine ⟨fun hm => ?_, fun hm => ?_⟩
      · rw [if_pos hm] at h
        exact ans_iv (r := errI 4) h
      · rw [if_neg hm] at h
        exact ans_iv (r := ((_, _), _)) h
  · exact h.1.elim

theorem ord_ok : ordC.ok Try.prog 40 := by
  refine contract Try.func40 v40_is P4_ok 200 ordC fun args k h => ⟨args, ?_⟩
  simp only [ordC] at h
  split at h
  · rename_i x y z w
    refine ⟨by simp [leL, le], ?_⟩
    dsimp only [v40, P4_ct42, ivlC, enc2, r_end, r_end1, r_nil, r_op, r_opg, r_runOp, r_op0, r_yld0, r_yld1, r_y, r_rbeg, r_rend, r_rend1, r_rfrm, r_rfrm1, r_range, r_rangeK, r_rangeE, r_draw, r_dnil, r_dop, r_dopg, r_dplq, r_dplh, r_dq, r_dq0, r_dcl1, r_dcl0, r_dct1, r_dct0, r_dgd, r_dgq1, r_dgq0, r_dctG, r_op1, r_eff, r_eff0, r_call, r_call0, r_inl, r_g, r_gq, r_gc, r_effg, r_effg0, r_callg, r_callg0, r_fin, r_pre, r_imp, r_all, r_ex, r_fing, r_preg, r_exg, r_inBlock, r_inLoop, r_frame, r_frame1, r_skip, r_stuck, r_region, r_seq, r_cond, r_cond1, r_block, r_exit, r_exit1, r_exit2, r_ret, r_loop, s_args0, s_args1, s_xt, s_xc, padL, blankL, callee, callArgs, eff, ctOf, getL, setL, S.put, S.upd, unopts, unopt, unoptsO, unoptsB, lazyO, guardOf, gbool, eMov, eNot, eNeg, eConv, eExt, eLenArr, eLen, eLenStr, eEqb, eEqv, allEq, eNil, negIf, eBool2, eCmp, eAri, ari, eBit, eDiv, eSh, eMinMax, foldMin, foldMax, kEq, pure1, cmpB, VO.quiet, resVals, resVal, tupled, popRet, popTo, cond, Option.bind, Option.map, eNew, eBox, asCells, lenH, snocH, eFieldAddr, eField, eLoad, cellsAt, getH, setH, dropL, takeL, mkAgg, lenL, lenS, shift, shiftL, shiftH, viewN, viewL, view, andT, junks, List.append_nil, Nat.beq, eIdxAddr, eIdxArr, idxN_0, idxN_1, idxN_2, idxN_3, eIndex, eStore, storeAt, spliceL, ones, one, eSlice, eSliceArr, bounds, subLo_z, addLo_z, subLo_one, addLo_one, eMake, eAppend, readS, repL, buildCells, chunk, purgeL, purgeLL, purgeH, purge, refs, refsL, List.cons_append, List.nil_append, wrOps, wrAl, wrDops, wrC, junkAt, putAll, putHs, headOf, headK, keepG, List.append_eq, headX, chkP, apartP, apartB, blk, strip, runAl, AL.ho, yld, putPs, lenN, findR, notRound, jumpK, jumpPT, jcode, List.map_cons, List.map_nil, ite_self, reduceIte]
    simp only [true_and, and_true, imp_self, implies_true, decide_eq_true_eq, decide_eq_false_iff_not, Nat.reduceAdd, Nat.reduceLeDiff, Bool.not_not, reduceCtorEq, false_imp_iff, Bool.not_eq_true', Bool.not_eq_false', Bool.false_eq_true, and_self, forall_const, ne_eq, not_false_eq_true, Nat.reduceEqDiff]
    have h : k (.tup [.int .i64 (ordF (x, y) (z, w)).1, .int .i64 (ordF (x, y) (z, w)).2]) [] := h
    refine ⟨by decide, [(x, y), (z, w)], ⟨⟨rfl, rfl, fun k hk => match k, hk with | 0, _ => leXL_self _ | 1, _ => leXL_self _⟩, by simp⟩, fun hc => ?_, fun hc => ?_⟩
    · rw [ordF, if_pos hc] at h
      exact ans_ii h
    · obtain ⟨⟨h1, h2, h3⟩, h4, h5, h6⟩ := ivE2 hc
      dsimp only at h1 h2 h3 h4 h5 h6
      rw [ordF, if_neg (by rw [hc]; simp)] at h
      dsimp only at h
      refine ⟨fun hm => ?_, fun hm => ⟨fun hn => ?_, fun hn => ?_⟩⟩
      · rw [if_pos hm] at h; exact ans_ii h
      · rw [if_neg hm, if_pos hn] at h; exact ans_ii h
      · rw [if_neg hm, if_neg hn] at h; exact ans_ii h
  · exact h.1.elim

theorem mul_ok : mulC.ok Try.prog 23 := by
  refine contract Try.func23 v23_is P4_ok 200 mulC fun args k h => ⟨args, ?_⟩
  simp only [mulC, iv2C] at h
  split at h
  · rename_i x y z w
    refine ⟨by simp [leL, le], ?_⟩
    dsimp only [v23, P4_ct42, P4_ct45, P4_ct44, ivlC, timC, spanC, longE, enc2, r_end, r_end1, r_nil, r_op, r_opg, r_runOp, r_op0, r_yld0, r_yld1, r_y, r_rbeg, r_rend, r_rend1, r_rfrm, r_rfrm1, r_range, r_rangeK, r_rangeE, r_draw, r_dnil, r_dop, r_dopg, r_dplq, r_dplh, r_dq, r_dq0, r_dcl1, r_dcl0, r_dct1, r_dct0, r_dgd, r_dgq1, r_dgq0, r_dctG, r_op1, r_eff, r_eff0, r_call, r_call0, r_inl, r_g, r_gq, r_gc, r_effg, r_effg0, r_callg, r_callg0, r_fin, r_pre, r_imp, r_all, r_ex, r_fing, r_preg, r_exg, r_inBlock, r_inLoop, r_frame, r_frame1, r_skip, r_stuck, r_region, r_seq, r_cond, r_cond1, r_block, r_exit, r_exit1, r_exit2, r_ret, r_loop, s_args0, s_args1, s_xt, s_xc, padL, blankL, callee, callArgs, eff, ctOf, getL, setL, S.put, S.upd, unopts, unopt, unoptsO, unoptsB, lazyO, guardOf, gbool, eMov, eNot, eNeg, eConv, eExt, eLenArr, eLen, eLenStr, eEqb, eEqv, allEq, eNil, negIf, eBool2, eCmp, eAri, ari, eBit, eDiv, eSh, eMinMax, foldMin, foldMax, kEq, pure1, cmpB, VO.quiet, resVals, resVal, tupled, popRet, popTo, cond, Option.bind, Option.map, eNew, eBox, asCells, lenH, snocH, eFieldAddr, eField, eLoad, cellsAt, getH, setH, dropL, takeL, mkAgg, lenL, lenS, shift, shiftL, shiftH, viewN, viewL, view, andT, junks, List.append_nil, Nat.beq, eIdxAddr, eIdxArr, idxN_0, idxN_1, idxN_2, idxN_3, eIndex, eStore, storeAt, spliceL, ones, one, eSlice, eSliceArr, bounds, subLo_z, addLo_z, subLo_one, addLo_one, eMake, eAppend, readS, repL, buildCells, chunk, purgeL, purgeLL, purgeH, purge, refs, refsL, List.cons_append, List.nil_append, wrOps, wrAl, wrDops, wrC, junkAt, putAll, putHs, headOf, headK, keepG, List.append_eq, headX, chkP, apartP, apartB, blk, strip, runAl, AL.ho, yld, putPs, lenN, findR, notRound, jumpK, jumpPT, jcode, List.map_cons, List.map_nil, ite_self, reduceIte]
    simp only [true_and, and_true, imp_self, implies_true, decide_eq_true_eq, decide_eq_false_iff_not, Nat.reduceAdd, Nat.reduceLeDiff, Bool.not_not, reduceCtorEq, false_imp_iff, Bool.not_eq_true', Bool.not_eq_false', Bool.false_eq_true, and_self, forall_const, ne_eq, not_false_eq_true, Nat.reduceEqDiff]
    have h : k (.tup [.agg (enc2 (mulF (x, y) (z, w)).1), .int .i64 (mulF (x, y) (z, w)).2]) [] := h
    refine ⟨by decide, [(x, y), (z, w)], ⟨⟨rfl, rfl, fun k hk => match k, hk with | 0, _ => leXL_self _ | 1, _ => leXL_self _⟩, by simp⟩, fun hc => ?_, fun hc => ?_⟩
    · rw [mulF, if_pos hc] at h
      exact ans_iv (r := errI (ivE [(x, y), (z, w)])) h
    · obtain ⟨⟨h1, h2, h3⟩, h4, h5, h6⟩ := ivE2 hc
      dsimp only at h1 h2 h3 h4 h5 h6
      rw [mulF, if_neg (by rw [hc]; simp)] at h
      dsimp only at h
      refine ⟨⟨⟨by omega, by omega⟩, by omega, by omega⟩, ⟨⟨by omega, by omega⟩, by omega, by omega⟩, ⟨⟨by omega, by omega⟩, by omega, by omega⟩, ⟨⟨by omega, by omega⟩, by omega, by omega⟩, ?_⟩
      dsimp only [P4_ct44, spanC, enc2, r_end, r_end1, r_nil, r_op, r_opg, r_runOp, r_op0, r_yld0, r_yld1, r_y, r_rbeg, r_rend, r_rend1, r_rfrm, r_rfrm1, r_range, r_rangeK, r_rangeE, r_draw, r_dnil, r_dop, r_dopg, r_dplq, r_dplh, r_dq, r_dq0, r_dcl1, r_dcl0, r_dct1, r_dct0, r_dgd, r_dgq1, r_dgq0, r_dctG, r_op1, r_eff, r_eff0, r_call, r_call0, r_inl, r_g, r_gq, r_gc, r_effg, r_effg0, r_callg, r_callg0, r_fin, r_pre, r_imp, r_all, r_ex, r_fing, r_preg, r_exg, r_inBlock, r_inLoop, r_frame, r_frame1, r_skip, r_stuck, r_region, r_seq, r_cond, r_cond1, r_block, r_exit, r_exit1, r_exit2, r_ret, r_loop, s_args0, s_args1, s_xt, s_xc, padL, blankL, callee, callArgs, eff, ctOf, getL, setL, S.put, S.upd, unopts, unopt, unoptsO, unoptsB, lazyO, guardOf, gbool, eMov, eNot, eNeg, eConv, eExt, eLenArr, eLen, eLenStr, eEqb, eEqv, allEq, eNil, negIf, eBool2, eCmp, eAri, ari, eBit, eDiv, eSh, eMinMax, foldMin, foldMax, kEq, pure1, cmpB, VO.quiet, resVals, resVal, tupled, popRet, popTo, cond, Option.bind, Option.map, eNew, eBox, asCells, lenH, snocH, eFieldAddr, eField, eLoad, cellsAt, getH, setH, dropL, takeL, mkAgg, lenL, lenS, shift, shiftL, shiftH, viewN, viewL, view, andT, junks, List.append_nil, Nat.beq, eIdxAddr, eIdxArr, idxN_0, idxN_1, idxN_2, idxN_3, eIndex, eStore, storeAt, spliceL, ones, one, eSlice, eSliceArr, bounds, subLo_z, addLo_z, subLo_one, addLo_one, eMake, eAppend, readS, repL, buildCells, chunk, purgeL, purgeLL, purgeH, purge, refs, refsL, List.cons_append, List.nil_append, wrOps, wrAl, wrDops, wrC, junkAt, putAll, putHs, headOf, headK, keepG, List.append_eq, headX, chkP, apartP, apartB, blk, strip, runAl, AL.ho, yld, putPs, lenN, findR, notRound, jumpK, jumpPT, jcode, List.map_cons, List.map_nil, ite_self, reduceIte]
      simp only [true_and, and_true, imp_self, implies_true, decide_eq_true_eq, decide_eq_false_iff_not, Nat.reduceAdd, Nat.reduceLeDiff, Bool.not_not, reduceCtorEq, false_imp_iff, Bool.not_eq_true', Bool.not_eq_false', Bool.false_eq_true, and_self, forall_const, ne_eq, not_false_eq_true, Nat.reduceEqDiff]
      refine ⟨by decide, ?_⟩
      dsimp only [P4_ct44, spanC, enc2, r_end, r_end1, r_nil, r_op, r_opg, r_runOp, r_op0, r_yld0, r_yld1, r_y, r_rbeg, r_rend, r_rend1, r_rfrm, r_rfrm1, r_range, r_rangeK, r_rangeE, r_draw, r_dnil, r_dop, r_dopg, r_dplq, r_dplh, r_dq, r_dq0, r_dcl1, r_dcl0, r_dct1, r_dct0, r_dgd, r_dgq1, r_dgq0, r_dctG, r_op1, r_eff, r_eff0, r_call, r_call0, r_inl, r_g, r_gq, r_gc, r_effg, r_effg0, r_callg, r_callg0, r_fin, r_pre, r_imp, r_all, r_ex, r_fing, r_preg, r_exg, r_inBlock, r_inLoop, r_frame, r_frame1, r_skip, r_stuck, r_region, r_seq, r_cond, r_cond1, r_block, r_exit, r_exit1, r_exit2, r_ret, r_loop, s_args0, s_args1, s_xt, s_xc, padL, blankL, callee, callArgs, eff, ctOf, getL, setL, S.put, S.upd, unopts, unopt, unoptsO, unoptsB, lazyO, guardOf, gbool, eMov, eNot, eNeg, eConv, eExt, eLenArr, eLen, eLenStr, eEqb, eEqv, allEq, eNil, negIf, eBool2, eCmp, eAri, ari, eBit, eDiv, eSh, eMinMax, foldMin, foldMax, kEq, pure1, cmpB, VO.quiet, resVals, resVal, tupled, popRet, popTo, cond, Option.bind, Option.map, eNew, eBox, asCells, lenH, snocH, eFieldAddr, eField, eLoad, cellsAt, getH, setH, dropL, takeL, mkAgg, lenL, lenS, shift, shiftL, shiftH, viewN, viewL, view, andT, junks, List.append_nil, Nat.beq, eIdxAddr, eIdxArr, idxN_0, idxN_1, idxN_2, idxN_3, eIndex, eStore, storeAt, spliceL, ones, one, eSlice, eSliceArr, bounds, subLo_z, addLo_z, subLo_one, addLo_one, eMake, eAppend, readS, repL, buildCells, chunk, purgeL, purgeLL, purgeH, purge, refs, refsL, List.cons_append, List.nil_append, wrOps, wrAl, wrDops, wrC, junkAt, putAll, putHs, headOf, headK, keepG, List.append_eq, headX, chkP, apartP, apartB, blk, strip, runAl, AL.ho, yld, putPs, lenN, findR, notRound, jumpK, jumpPT, jcode, List.map_cons, List.map_nil, ite_self, reduceIte]
      simp only [true_and, and_true, imp_self, implies_true, decide_eq_true_eq, decide_eq_false_iff_not, Nat.reduceAdd, Nat.reduceLeDiff, Bool.not_not, reduceCtorEq, false_imp_iff, Bool.not_eq_true', Bool.not_eq_false', Bool.false_eq_true, and_self, forall_const, ne_eq, not_false_eq_true, Nat.reduceEqDiff]
      refine ⟨x * z, [x * w, y * z, y * w], ⟨⟨rfl, rfl, fun k hk => match k, hk with | 0, _ => leXL_self _ | 1, _ => leXL_self _ | 2, _ => leXL_self _ | 3, _ => leXL_self _⟩, by simp, ?_, by decide, by decide⟩, by decide, by decide, ans_iv h⟩
      intro p hp
      simp only [List.mem_cons, List.not_mem_nil, or_false] at hp
      rcases hp with rfl | rfl | rfl | rfl <;> exact big_mul (by omega) (by omega)
  · exact h.1.elim

theorem quo_ok : quoC.ok Try.prog 26 := by
  refine contract Try.func26 v26_is P4_ok 300 quoC fun args k h => ⟨args, ?_⟩
  simp only [quoC, iv2C] at h
  split at h
  · rename_i x y z w
    refine ⟨by simp [leL, le], ?_⟩
    dsimp only [v26, P4_ct42, P4_ct45, P4_ct62, ivlC, timC, overC, longE, enc2, r_end, r_end1, r_nil, r_op, r_opg, r_runOp, r_op0, r_yld0, r_yld1, r_y, r_rbeg, r_rend, r_rend1, r_rfrm, r_rfrm1, r_range, r_rangeK, r_rangeE, r_draw, r_dnil, r_dop, r_dopg, r_dplq, r_dplh, r_dq, r_dq0, r_dcl1, r_dcl0, r_dct1, r_dct0, r_dgd, r_dgq1, r_dgq0, r_dctG, r_op1, r_eff, r_eff0, r_call, r_call0, r_inl, r_g, r_gq, r_gc, r_effg, r_effg0, r_callg, r_callg0, r_fin, r_pre, r_imp, r_all, r_ex, r_fing, r_preg, r_exg, r_inBlock, r_inLoop, r_frame, r_frame1, r_skip, r_stuck, r_region, r_seq, r_cond, r_cond1, r_block, r_exit, r_exit1, r_exit2, r_ret, r_loop, s_args0, s_args1, s_xt, s_xc, padL, blankL, callee, callArgs, eff, ctOf, getL, setL, S.put, S.upd, unopts, unopt, unoptsO, unoptsB, lazyO, guardOf, gbool, eMov, eNot, eNeg, eConv, eExt, eLenArr, eLen, eLenStr, eEqb, eEqv, allEq, eNil, negIf, eBool2, eCmp, eAri, ari, eBit, eDiv, eSh, eMinMax, foldMin, foldMax, kEq, pure1, cmpB, VO.quiet, resVals, resVal, tupled, popRet, popTo, cond, Option.bind, Option.map, eNew, eBox, asCells, lenH, snocH, eFieldAddr, eField, eLoad, cellsAt, getH, setH, dropL, takeL, mkAgg, lenL, lenS, shift, shiftL, shiftH, viewN, viewL, view, andT, junks, List.append_nil, Nat.beq, eIdxAddr, eIdxArr, idxN_0, idxN_1, idxN_2, idxN_3, eIndex, eStore, storeAt, spliceL, ones, one, eSlice, eSliceArr, bounds, subLo_z, addLo_z, subLo_one, addLo_one, eMake, eAppend, readS, repL, buildCells, chunk, purgeL, purgeLL, purgeH, purge, refs, refsL, List.cons_append, List.nil_append, wrOps, wrAl, wrDops, wrC, junkAt, putAll, putHs, headOf, headK, keepG, List.append_eq, headX, chkP, apartP, apartB, blk, strip, runAl, AL.ho, yld, putPs, lenN, findR, notRound, jumpK, jumpPT, jcode, List.map_cons, List.map_nil, ite_self, reduceIte]
    simp only [true_and, and_true, imp_self, implies_true, decide_eq_true_eq, decide_eq_false_iff_not, Nat.reduceAdd, Nat.reduceLeDiff, Bool.not_not, reduceCtorEq, false_imp_iff, Bool.not_eq_true', Bool.not_eq_false', Bool.false_eq_true, and_self, forall_const, ne_eq, not_false_eq_true, Nat.reduceEqDiff]
    have h : k (.tup [.agg (enc2 (quoF (x, y) (z, w)).1), .int .i64 (quoF (x, y) (z, w)).2]) [] := h
    refine ⟨by decide, [(x, y), (z, w)], ⟨⟨rfl, rfl, fun k hk => match k, hk with | 0, _ => leXL_self _ | 1, _ => leXL_self _⟩, by simp⟩, fun hc => ?_, fun hc => ?_⟩
    · rw [quoF, if_pos hc] at h
      exact ans_iv (r := errI (ivE [(x, y), (z, w)])) h
    · obtain ⟨⟨h1, h2, h3⟩, h4, h5, h6⟩ := ivE2 hc
      dsimp only at h1 h2 h3 h4 h5 h6
      rw [quoF, if_neg (by rw [hc]; simp)] at h
      dsimp only at h
      simp only [neg_in h1, neg_in h2, neg_in h4, neg_in h5, Int.mul_one]
      refine ⟨fun hm => ?_, fun hm => ⟨fun hw => ?_, fun hw => ?_⟩⟩
      · rw [Bool.and_eq_true, decide_eq_true_eq, decide_eq_true_eq] at hm
        rw [if_pos hm] at h
        exact ans_iv (r := errI 9) h
      · rw [Bool.and_eq_false_iff, decide_eq_false_iff_not, decide_eq_false_iff_not] at hm
        rw [if_neg (by omega), if_pos hw] at h
        unfold divPos at h
        dsimp only at h
        refine ⟨fun hp => ⟨fun hq => ?_, fun hq => ?_⟩, fun hp => ⟨fun hq => ?_, fun hq => ?_⟩⟩
        · rw [if_pos hp, if_pos hq] at h
          simp (disch := omega) only [IntWalk.u64_in]
          refine ⟨⟨⟨by omega, by omega⟩, by omega, by omega⟩, _, ⟨longP_self _, big1 (by omega), by omega, by omega⟩, by decide, by decide, ⟨⟨by omega, by omega⟩, by omega, by omega⟩, _, ⟨longP_self _, big1 (by omega), by omega, by omega⟩, by decide, by decide, fun hb => ?_, fun hb => ?_⟩
          · rw [spanR, if_neg (by rw [← Bool.not_and, Bool.not_eq_true'] at hb; rw [hb]; simp)] at h
            exact ans_iv (r := ((0, 0), 7)) h
          · rw [spanR, if_pos (by rw [← Bool.not_and, Bool.not_eq_false'] at hb; exact hb)] at h
            exact ans_iv (r := ((_, _), 0)) h
        · rw [if_pos hp, if_neg hq] at h
          simp (disch := omega) only [IntWalk.u64_in]
          refine ⟨⟨⟨by omega, by omega⟩, by omega, by omega⟩, _, ⟨longP_self _, big1 (by omega), by omega, by omega⟩, by decide, by decide, ⟨⟨by omega, by omega⟩, by omega, by omega⟩, _, ⟨longP_self _, big1 (by omega), by omega, by omega⟩, by decide, by decide, fun hb => ?_, fun hb => ?_⟩
          · rw [spanR, if_neg (by rw [← Bool.not_and, Bool.not_eq_true'] at hb; rw [hb]; simp)] at h
            exact ans_iv (r := ((0, 0), 7)) h
          · rw [spanR, if_pos (by rw [← Bool.not_and, Bool.not_eq_false'] at hb; exact hb)] at h
            exact ans_iv (r := ((_, _), 0)) h
        · rw [if_neg hp, if_pos hq] at h
          simp (disch := omega) only [IntWalk.u64_in]
          refine ⟨⟨⟨by omega, by omega⟩, by omega, by omega⟩, _, ⟨longP_self _, big1 (by omega), by omega, by omega⟩, by decide, by decide, ⟨⟨by omega, by omega⟩, by omega, by omega⟩, _, ⟨longP_self _, big1 (by omega), by omega, by omega⟩, by decide, by decide, fun hb => ?_, fun hb => ?_⟩
          · rw [spanR, if_neg (by rw [← Bool.not_and, Bool.not_eq_true'] at hb; rw [hb]; simp)] at h
            exact ans_iv (r := ((0, 0), 7)) h
          · rw [spanR, if_pos (by rw [← Bool.not_and, Bool.not_eq_false'] at hb; exact hb)] at h
            exact ans_iv (r := ((_, _), 0)) h
        · rw [if_neg hp, if_neg hq] at h
          simp (disch := omega) only [IntWalk.u64_in]
          refine ⟨⟨⟨by omega, by omega⟩, by omega, by omega⟩, _, ⟨longP_self _, big1 (by omega), by omega, by omega⟩, by decide, by decide, ⟨⟨by omega, by omega⟩, by omega, by omega⟩, _, ⟨longP_self _, big1 (by omega), by omega, by omega⟩, by decide, by decide, fun hb => ?_, fun hb => ?_⟩
          · rw [spanR, if_neg (by rw [← Bool.not_and, Bool.not_eq_true'] at hb; rw [hb]; simp)] at h
            exact ans_iv (r := ((0, 0), 7)) h
          · rw [spanR, if_pos (by rw [← Bool.not_and, Bool.not_eq_false'] at hb; exact hb)] at h
            exact ans_iv (r := ((_, _), 0)) h
      · rw [Bool.and_eq_false_iff, decide_eq_false_iff_not, decide_eq_false_iff_not] at hm
        rw [if_neg (by omega), if_neg hw] at h
        unfold divPos at h
        dsimp only at h
        refine ⟨fun hp => ⟨fun hq => ?_, fun hq => ?_⟩, fun hp => ⟨fun hq => ?_, fun hq => ?_⟩⟩
        · rw [if_pos hp, if_pos hq] at h
          simp (disch := omega) only [IntWalk.u64_in]
          refine ⟨⟨⟨by omega, by omega⟩, by omega, by omega⟩, _, ⟨longP_self _, big1 (by omega), by omega, by omega⟩, by decide, by decide, ⟨⟨by omega, by omega⟩, by omega, by omega⟩, _, ⟨longP_self _, big1 (by omega), by omega, by omega⟩, by decide, by decide, fun hb => ?_, fun hb => ?_⟩
          · rw [spanR, if_neg (by rw [← Bool.not_and, Bool.not_eq_true'] at hb; rw [hb]; simp)] at h
            exact ans_iv (r := ((0, 0), 7)) h
          · rw [spanR, if_pos (by rw [← Bool.not_and, Bool.not_eq_false'] at hb; exact hb)] at h
            exact ans_iv (r := ((_, _), 0)) h
        · rw [if_pos hp, if_neg hq] at h
          simp (disch := omega) only [IntWalk.u64_in]
          refine ⟨⟨⟨by omega, by omega⟩, by omega, by omega⟩, _, ⟨longP_self _, big1 (by omega), by omega, by omega⟩, by decide, by decide, ⟨⟨by omega, by omega⟩, by omega, by omega⟩, _, ⟨longP_self _, big1 (by omega), by omega, by omega⟩, by decide, by decide, fun hb => ?_, fun hb => ?_⟩
          · rw [spanR, if_neg (by rw [← Bool.not_and, Bool.not_eq_true'] at hb; rw [hb]; simp)] at h
            exact ans_iv (r := ((0, 0), 7)) h
          · rw [spanR, if_pos (by rw [← Bool.not_and, Bool.not_eq_false'] at hb; exact hb)] at h
            exact ans_iv (r := ((_, _), 0)) h
        · rw [if_neg hp, if_pos hq] at h
          simp (disch := omega) only [IntWalk.u64_in]
          refine ⟨⟨⟨by omega, by omega⟩, by omega, by omega⟩, _, ⟨longP_self _, big1 (by omega), by omega, by omega⟩, by decide, by decide, ⟨⟨by omega, by omega⟩, by omega, by omega⟩, _, ⟨longP_self _, big1 (by omega), by omega, by omega⟩, by decide, by decide, fun hb => ?_, fun hb => ?_⟩
          · rw [spanR, if_neg (by rw [← Bool.not_and, Bool.not_eq_true'] at hb; rw [hb]; simp)] at h
            exact ans_iv (r := ((0, 0), 7)) h
          · rw [spanR, if_pos (by rw [← Bool.not_and, Bool.not_eq_false'] at hb; exact hb)] at h
            exact ans_iv (r := ((_, _), 0)) h
        · rw [if_neg hp, if_neg hq] at h
          simp (disch := omega) only [IntWalk.u64_in]
          refine ⟨⟨⟨by omega, by omega⟩, by omega, by omega⟩, _, ⟨longP_self _, big1 (by omega), by omega, by omega⟩, by decide, by decide, ⟨⟨by omega, by omega⟩, by omega, by omega⟩, _, ⟨longP_self _, big1 (by omega), by omega, by omega⟩, by decide, by decide, fun hb => ?_, fun hb => ?_⟩
          · rw [spanR, if_neg (by rw [← Bool.not_and, Bool.not_eq_true'] at hb; rw [hb]; simp)] at h
            exact ans_iv (r := ((0, 0), 7)) h
          · rw [spanR, if_pos (by rw [← Bool.not_and, Bool.not_eq_false'] at hb; exact hb)] at h
            exact ans_iv (r := ((_, _), 0)) h
  · exact h.1.elim
theorem pi_ok : piC.ok Try.prog 17 := by
  refine contract Try.func17 v17_is P4_ok 200 piC fun args k h => ⟨args, ?_⟩
  simp only [piC, ivoC] at h
  split at h
  · rename_i x y
    refine ⟨by simp [leL, le], ?_⟩
    dsimp only [v17, P4_ct42, P4_ct45, P4_ct44, ivlC, timC, spanC, longE, enc2, r_end, r_end1, r_nil, r_op, r_opg, r_runOp, r_op0, r_yld0, r_yld1, r_y, r_rbeg, r_rend, r_rend1, r_rfrm, r_rfrm1, r_range, r_rangeK, r_rangeE, r_draw, r_dnil, r_dop, r_dopg, r_dplq, r_dplh, r_dq, r_dq0, r_dcl1, r_dcl0, r_dct1, r_dct0, r_dgd, r_dgq1, r_dgq0, r_dctG, r_op1, r_eff, r_eff0, r_call, r_call0, r_inl, r_g, r_gq, r_gc, r_effg, r_effg0, r_callg, r_callg0, r_fin, r_pre, r_imp, r_all, r_ex, r_fing, r_preg, r_exg, r_inBlock, r_inLoop, r_frame, r_frame1, r_skip, r_stuck, r_region, r_seq, r_cond, r_cond1, r_block, r_exit, r_exit1, r_exit2, r_ret, r_loop, s_args0, s_args1, s_xt, s_xc, padL, blankL, callee, callArgs, eff, ctOf, getL, setL, S.put, S.upd, unopts, unopt, unoptsO, unoptsB, lazyO, guardOf, gbool, eMov, eNot, eNeg, eConv, eExt, eLenArr, eLen, eLenStr, eEqb, eEqv, allEq, eNil, negIf, eBool2, eCmp, eAri, ari, eBit, eDiv, eSh, eMinMax, foldMin, foldMax, kEq, pure1, cmpB, VO.quiet, resVals, resVal, tupled, popRet, popTo, cond, Option.bind, Option.map, eNew, eBox, asCells, lenH, snocH, eFieldAddr, eField, eLoad, cellsAt, getH, setH, dropL, takeL, mkAgg, lenL, lenS, shift, shiftL, shiftH, viewN, viewL, view, andT, junks, List.append_nil, Nat.beq, eIdxAddr, eIdxArr, idxN_0, idxN_1, idxN_2, idxN_3, eIndex, eStore, storeAt, spliceL, ones, one, eSlice, eSliceArr, bounds, subLo_z, addLo_z, subLo_one, addLo_one, eMake, eAppend, readS, repL, buildCells, chunk, purgeL, purgeLL, purgeH, purge, refs, refsL, List.cons_append, List.nil_append, wrOps, wrAl, wrDops, wrC, junkAt, putAll, putHs, headOf, headK, keepG, List.append_eq, headX, chkP, apartP, apartB, blk, strip, runAl, AL.ho, yld, putPs, lenN, findR, notRound, jumpK, jumpPT, jcode, List.map_cons, List.map_nil, ite_self, reduceIte]
    simp only [true_and, and_true, imp_self, implies_true, decide_eq_true_eq, decide_eq_false_iff_not, Nat.reduceAdd, Nat.reduceLeDiff, Bool.not_not, reduceCtorEq, false_imp_iff, Bool.not_eq_true', Bool.not_eq_false', Bool.false_eq_true, and_self, forall_const, ne_eq, not_false_eq_true, Nat.reduceEqDiff]
    have h : k (.tup [.agg (enc2 (piF (x, y)).1), .int .i64 (piF (x, y)).2]) [] := h
    refine ⟨by decide, [(x, y)], ⟨⟨rfl, rfl, fun k hk => match k, hk with | 0, _ => leXL_self _⟩, by simp⟩, fun hc => ?_, fun hc => ?_⟩
    · rw [piF, if_pos hc] at h
      exact ans_iv (r := errI (ivE [(x, y)])) h
    · obtain ⟨h1, h2, h3⟩ := ivE1 hc
      dsimp only at h1 h2 h3
      rw [piF, if_neg (by rw [hc]; simp)] at h
      dsimp only at h
      refine ⟨⟨⟨by omega, by omega⟩, by omega, by omega⟩, ⟨⟨by omega, by omega⟩, by omega, by omega⟩, ⟨⟨by omega, by omega⟩, by omega, by omega⟩, ⟨⟨by omega, by omega⟩, by omega, by omega⟩, by decide,
        x * 3141592653589793238, [x * 3141592653589793239, y * 3141592653589793238, y * 3141592653589793239], ⟨⟨rfl, rfl, fun k hk => match k, hk with | 0, _ => leXL_self _ | 1, _ => leXL_self _ | 2, _ => leXL_self _ | 3, _ => leXL_self _⟩, by simp, ?_, by decide, by decide⟩, by decide, by decide, ans_iv h⟩
      intro p hp
      simp only [List.mem_cons, List.not_mem_nil, or_false] at hp
      rcases hp with rfl | rfl | rfl | rfl <;> exact big_mul (by omega) (by omega)
  · exact h.1.elim

theorem scl_ok : sclC.ok Try.prog 10 := by
  refine contract Try.func10 v10_is P4_ok 200 sclC fun args k h => ⟨args, ?_⟩
  simp only [sclC] at h
  split at h
  · rename_i x y n d
    refine ⟨by simp [leL, le], ?_⟩
    dsimp only [v10, P4_ct42, P4_ct43, P4_ct45, P4_ct44, ivlC, numC, timC, spanC, longE, enc2, r_end, r_end1, r_nil, r_op, r_opg, r_runOp, r_op0, r_yld0, r_yld1, r_y, r_rbeg, r_rend, r_rend1, r_rfrm, r_rfrm1, r_range, r_rangeK, r_rangeE, r_draw, r_dnil, r_dop, r_dopg, r_dplq, r_dplh, r_dq, r_dq0, r_dcl1, r_dcl0, r_dct1, r_dct0, r_dgd, r_dgq1, r_dgq0, r_dctG, r_op1, r_eff, r_eff0, r_call, r_call0, r_inl, r_g, r_gq, r_gc, r_effg, r_effg0, r_callg, r_callg0, r_fin, r_pre, r_imp, r_all, r_ex, r_fing, r_preg, r_exg, r_inBlock, r_inLoop, r_frame, r_frame1, r_skip, r_stuck, r_region, r_seq, r_cond, r_cond1, r_block, r_exit, r_exit1, r_exit2, r_ret, r_loop, s_args0, s_args1, s_xt, s_xc, padL, blankL, callee, callArgs, eff, ctOf, getL, setL, S.put, S.upd, unopts, unopt, unoptsO, unoptsB, lazyO, guardOf, gbool, eMov, eNot, eNeg, eConv, eExt, eLenArr, eLen, eLenStr, eEqb, eEqv, allEq, eNil, negIf, eBool2, eCmp, eAri, ari, eBit, eDiv, eSh, eMinMax, foldMin, foldMax, kEq, pure1, cmpB, VO.quiet, resVals, resVal, tupled, popRet, popTo, cond, Option.bind, Option.map, eNew, eBox, asCells, lenH, snocH, eFieldAddr, eField, eLoad, cellsAt, getH, setH, dropL, takeL, mkAgg, lenL, lenS, shift, shiftL, shiftH, viewN, viewL, view, andT, junks, List.append_nil, Nat.beq, eIdxAddr, eIdxArr, idxN_0, idxN_1, idxN_2, idxN_3, eIndex, eStore, storeAt, spliceL, ones, one, eSlice, eSliceArr, bounds, subLo_z, addLo_z, subLo_one, addLo_one, eMake, eAppend, readS, repL, buildCells, chunk, purgeL, purgeLL, purgeH, purge, refs, refsL, List.cons_append, List.nil_append, wrOps, wrAl, wrDops, wrC, junkAt, putAll, putHs, headOf, headK, keepG, List.append_eq, headX, chkP, apartP, apartB, blk, strip, runAl, AL.ho, yld, putPs, lenN, findR, notRound, jumpK, jumpPT, jcode, List.map_cons, List.map_nil, ite_self, reduceIte]
    simp only [true_and, and_true, imp_self, implies_true, decide_eq_true_eq, decide_eq_false_iff_not, Nat.reduceAdd, Nat.reduceLeDiff, Bool.not_not, reduceCtorEq, false_imp_iff, Bool.not_eq_true', Bool.not_eq_false', Bool.false_eq_true, and_self, forall_const, ne_eq, not_false_eq_true, Nat.reduceEqDiff]
    have h : k (.tup [.agg (enc2 (sclF (x, y) n d).1), .int .i64 (sclF (x, y) n d).2]) [] := h
    refine ⟨by decide, [(x, y)], ⟨⟨rfl, rfl, fun k hk => match k, hk with | 0, _ => leXL_self _⟩, by simp⟩, ?_⟩
    refine ⟨fun hc => ?_, fun hc => ?_⟩
    · rw [sclF, if_pos hc] at h
      exact ans_iv (r := errI (ivE [(x, y)])) h
    · obtain ⟨h1, h2, h3⟩ := ivE1 hc
      dsimp only at h1 h2 h3
      rw [sclF, if_neg (by rw [hc]; simp)] at h
      dsimp only at h
      have hnd := numOk_iff (x := d)
      have hnn := numOk_iff (x := n)
      have hcond : (decide (d < 1) || !numOk d || !numOk n) = true ↔ (d < 1 ∨ 4611686018427387904 < d ∨ n < -4611686018427387904 ∨ 4611686018427387904 < n) := by
        rw [Bool.or_eq_true, Bool.or_eq_true, decide_eq_true_eq, Bool.not_eq_true', Bool.not_eq_true', Bool.eq_false_iff, Bool.eq_false_iff, ne_eq, ne_eq, hnd, hnn]
        omega
      refine ⟨fun hb => ?_, fun hb => ?_⟩
      · rw [if_pos (hcond.1 hb)] at h
        exact ans_iv (r := errI 2) h
      · have hb' : ¬ (d < 1 ∨ 4611686018427387904 < d ∨ n < -4611686018427387904 ∨ 4611686018427387904 < n) := fun hh => by
          have := hcond.2 hh
          rw [hb] at this; cases this
        rw [if_neg hb'] at h
        rw [IntWalk.u64_in d (by omega)]
        refine ⟨⟨⟨by omega, by omega⟩, by omega, by omega⟩, ⟨⟨by omega, by omega⟩, by omega, by omega⟩, by decide,
          x * n, [y * n], ⟨⟨rfl, rfl, fun k hk => match k, hk with | 0, _ => leXL_self _ | 1, _ => leXL_self _⟩, by simp, ?_, by omega, by omega⟩, by decide, by decide, ans_iv h⟩
        intro p hp
        simp only [List.mem_cons, List.not_mem_nil, or_false] at hp
        rcases hp with rfl | rfl <;> exact big_mul (by omega) (by omega)
  · exact h.1.elim
end Go.Proofs.Ytdognchniaojoaa
