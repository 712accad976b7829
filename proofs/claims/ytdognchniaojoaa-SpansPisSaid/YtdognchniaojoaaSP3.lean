/- Intervals, walked: powers, roots, discs of the program. -/
import Derived.Test.YtdognchniaojoaaSP2
set_option linter.all false
namespace Go.Proofs.Ytdognchniaojoaa
open Go Go.Vx
set_option maxRecDepth 100000
set_option maxHeartbeats 4000000

def v50 : VF := { ntmps := 34, res := [.tmp 4, .tmp 5], body :=
 (.seq (.region [⟨(some 4), none, .mov, [.cn (.int .u64 0)]⟩,
  ⟨(some 5), none, .mov, [.cn (.bool false)]⟩])
 (.seq (.region [⟨(some 6), none, .mov, [.cn (.int .u64 1)]⟩])
 (.seq (.seq (.region [⟨(some 9), none, .mov, [.tm 0]⟩,
  ⟨(some 10), none, (.cmp .lss), [.tm 9, .cn (.int .u64 2)]⟩,
  ⟨(some 11), none, .mov, [.tm 10]⟩,
  ⟨(some 12), (some (11, true)), .mov, [.tm 1]⟩,
  ⟨(some 13), (some (11, true)), (.cmp .gtr), [.tm 12, .cn (.int .i64 0)]⟩,
  ⟨(some 14), none, .and, [.tm 11, .tm 13]⟩])
 (.cond (.tm 14) (.seq (.region [⟨(some 15), none, .mov, [.tm 0]⟩,
  ⟨(some 4), none, .mov, [.tm 15]⟩,
  ⟨(some 5), none, .mov, [.cn (.bool true)]⟩])
 .ret)
  .skip))
 (.seq (.seq (.region [⟨(some 16), none, .mov, [.tm 1]⟩,
  ⟨(some 17), none, .mov, [.cn (.int .i64 0)]⟩])
 (.block 0 (.loop (.seq (.region [⟨(some 18), none, (.cmp .lss), [.tm 17, .tm 16]⟩])
 (.seq (.cond (.tm 18) .skip
  (.exit 0))
 (.seq (.block 1 (.seq (.region [⟨(some 20), none, .mov, [.tm 6]⟩,
  ⟨(some 21), none, .mov, [.tm 0]⟩,
  ⟨(some 22), none, (.call 67), [.tm 20, .tm 21]⟩,
  ⟨(some 19), none, .mov, [.tm 22]⟩,
  ⟨(some 23), none, (.ext 0), [.tm 19]⟩,
  ⟨(some 24), none, (.ext 1), [.tm 19]⟩,
  ⟨(some 7), none, .mov, [.tm 23]⟩,
  ⟨(some 8), none, .mov, [.tm 24]⟩])
 (.seq (.seq (.region [⟨(some 25), none, .mov, [.tm 7]⟩,
  ⟨(some 26), none, (.cmp .neq), [.tm 25, .cn (.int .u64 0)]⟩,
  ⟨(some 27), none, .mov, [.tm 26]⟩,
  ⟨(some 28), (some (27, false)), .mov, [.tm 8]⟩,
  ⟨(some 29), (some (27, false)), (.cmp .gtr), [.tm 28, .cn (.int .u64 4611686018427387904)]⟩,
  ⟨(some 30), none, .or, [.tm 27, .tm 29]⟩])
 (.cond (.tm 30) (.seq (.region [⟨(some 4), none, .mov, [.cn (.int .u64 0)]⟩,
  ⟨(some 5), none, .mov, [.cn (.bool false)]⟩])
 .ret)
  .skip))
 (.region [⟨(some 31), none, .mov, [.tm 8]⟩,
  ⟨(some 6), none, .mov, [.tm 31]⟩]))))
 (.region [⟨(some 32), none, (.ari .add), [.tm 17, .cn (.int .i64 1)]⟩,
  ⟨(some 17), none, .mov, [.tm 32]⟩])))))))
 (.seq (.region [⟨(some 33), none, .mov, [.tm 6]⟩,
  ⟨(some 4), none, .mov, [.tm 33]⟩,
  ⟨(some 5), none, .mov, [.cn (.bool true)]⟩])
 .ret))))) }
theorem v50_is : vfunc Try.prog Try.f50 = some v50 := by kernel_rfl
def v12 : VF := { ntmps := 100, res := [.cell 4 true 2, .tmp 5], body :=
 (.seq (.region [⟨(some 2), none, .box, [.tm 0]⟩,
  ⟨(some 4), none, (.alloc [(.int .i64 0), (.int .i64 0)]), []⟩,
  ⟨(some 5), none, .mov, [.cn (.int .i64 0)]⟩])
 (.seq (.region [⟨(some 13), none, (.load true 2), [.tm 2]⟩,
  ⟨(some 14), none, (.buildSlice 2 1 [(.int .i64 0), (.int .i64 0)] [(0, 2)]), [.tm 13]⟩,
  ⟨(some 15), none, (.call 42), [.tm 14]⟩,
  ⟨(some 6), none, .mov, [.tm 15]⟩])
 (.seq (.block 0 (.seq (.region [⟨(some 17), none, .mov, [.tm 6]⟩,
  ⟨(some 18), none, (.cmp .neq), [.tm 17, .cn (.int .i64 0)]⟩,
  ⟨(some 16), none, .mov, [.tm 18]⟩])
 (.cond (.tm 16) (.seq (.region [⟨(some 19), none, (.build [(.int .i64 0), (.int .i64 0)] []), []⟩,
  ⟨(some 20), none, .mov, [.tm 6]⟩,
  ⟨none, none, (.store 2), [.tm 4, .tm 19]⟩,
  ⟨(some 5), none, .mov, [.tm 20]⟩])
 .ret)
  (.seq (.region [⟨(some 22), none, .mov, [.tm 1]⟩,
  ⟨(some 23), none, (.cmp .lss), [.tm 22, .cn (.int .i64 0)]⟩,
  ⟨(some 24), none, .mov, [.tm 23]⟩,
  ⟨(some 25), (some (24, false)), .mov, [.tm 1]⟩,
  ⟨(some 26), (some (24, false)), (.cmp .gtr), [.tm 25, .cn (.int .i64 62)]⟩,
  ⟨(some 27), none, .or, [.tm 24, .tm 26]⟩,
  ⟨(some 21), none, .mov, [.tm 27]⟩])
 (.cond (.tm 21) (.seq (.region [⟨(some 28), none, (.build [(.int .i64 0), (.int .i64 0)] []), []⟩,
  ⟨none, none, (.store 2), [.tm 4, .tm 28]⟩,
  ⟨(some 5), none, .mov, [.cn (.int .i64 2)]⟩])
 .ret)
  .skip)))))
 (.seq (.region [⟨(some 30), none, (.fieldAddr 0), [.tm 2]⟩,
  ⟨(some 31), none, (.load false 1), [.tm 30]⟩,
  ⟨(some 32), none, (.call 51), [.tm 31]⟩,
  ⟨(some 33), none, .mov, [.tm 1]⟩,
  ⟨(some 34), none, (.call 50), [.tm 32, .tm 33]⟩,
  ⟨(some 29), none, .mov, [.tm 34]⟩,
  ⟨(some 35), none, (.ext 0), [.tm 29]⟩,
  ⟨(some 36), none, (.ext 1), [.tm 29]⟩,
  ⟨(some 7), none, .mov, [.tm 35]⟩,
  ⟨(some 8), none, .mov, [.tm 36]⟩])
 (.seq (.region [⟨(some 38), none, (.fieldAddr 1), [.tm 2]⟩,
  ⟨(some 39), none, (.load false 1), [.tm 38]⟩,
  ⟨(some 40), none, (.call 51), [.tm 39]⟩,
  ⟨(some 41), none, .mov, [.tm 1]⟩,
  ⟨(some 42), none, (.call 50), [.tm 40, .tm 41]⟩,
  ⟨(some 37), none, .mov, [.tm 42]⟩,
  ⟨(some 43), none, (.ext 0), [.tm 37]⟩,
  ⟨(some 44), none, (.ext 1), [.tm 37]⟩,
  ⟨(some 9), none, .mov, [.tm 43]⟩,
  ⟨(some 10), none, .mov, [.tm 44]⟩])
 (.seq (.seq (.region [⟨(some 45), none, .mov, [.tm 8]⟩,
  ⟨(some 46), none, .not, [.tm 45]⟩,
  ⟨(some 47), none, .mov, [.tm 46]⟩,
  ⟨(some 48), (some (47, false)), .mov, [.tm 10]⟩,
  ⟨(some 49), (some (47, false)), .not, [.tm 48]⟩,
  ⟨(some 50), none, .or, [.tm 47, .tm 49]⟩])
 (.cond (.tm 50) (.seq (.region [⟨(some 51), none, (.build [(.int .i64 0), (.int .i64 0)] []), []⟩,
  ⟨none, none, (.store 2), [.tm 4, .tm 51]⟩,
  ⟨(some 5), none, .mov, [.cn (.int .i64 7)]⟩])
 .ret)
  .skip))
 (.seq (.region [⟨(some 52), none, .mov, [.tm 7]⟩,
  ⟨(some 53), none, (.conv .i64), [.tm 52]⟩,
  ⟨(some 54), none, .mov, [.tm 9]⟩,
  ⟨(some 55), none, (.conv .i64), [.tm 54]⟩,
  ⟨(some 11), none, .mov, [.tm 53]⟩,
  ⟨(some 12), none, .mov, [.tm 55]⟩])
 (.seq (.seq (.region [⟨(some 56), none, .mov, [.tm 1]⟩,
  ⟨(some 57), none, .rem, [.tm 56, .cn (.int .i64 2)]⟩,
  ⟨(some 58), none, (.cmp .eql), [.tm 57, .cn (.int .i64 1)]⟩,
  ⟨(some 59), none, .mov, [.tm 58]⟩,
  ⟨(some 60), (some (59, true)), (.fieldAddr 0), [.tm 2]⟩,
  ⟨(some 61), (some (59, true)), (.load false 1), [.tm 60]⟩,
  ⟨(some 62), (some (59, true)), (.cmp .lss), [.tm 61, .cn (.int .i64 0)]⟩,
  ⟨(some 63), none, .and, [.tm 59, .tm 62]⟩])
 (.cond (.tm 63) (.region [⟨(some 64), none, .mov, [.tm 11]⟩,
  ⟨(some 65), none, .neg, [.tm 64]⟩,
  ⟨(some 11), none, .mov, [.tm 65]⟩])
  .skip))
 (.seq (.seq (.region [⟨(some 66), none, .mov, [.tm 1]⟩,
  ⟨(some 67), none, .rem, [.tm 66, .cn (.int .i64 2)]⟩,
  ⟨(some 68), none, (.cmp .eql), [.tm 67, .cn (.int .i64 1)]⟩,
  ⟨(some 69), none, .mov, [.tm 68]⟩,
  ⟨(some 70), (some (69, true)), (.fieldAddr 1), [.tm 2]⟩,
  ⟨(some 71), (some (69, true)), (.load false 1), [.tm 70]⟩,
  ⟨(some 72), (some (69, true)), (.cmp .lss), [.tm 71, .cn (.int .i64 0)]⟩,
  ⟨(some 73), none, .and, [.tm 69, .tm 72]⟩])
 (.cond (.tm 73) (.region [⟨(some 74), none, .mov, [.tm 12]⟩,
  ⟨(some 75), none, .neg, [.tm 74]⟩,
  ⟨(some 12), none, .mov, [.tm 75]⟩])
  .skip))
 (.seq (.seq (.region [⟨(some 76), none, .mov, [.tm 1]⟩,
  ⟨(some 77), none, .rem, [.tm 76, .cn (.int .i64 2)]⟩,
  ⟨(some 78), none, (.cmp .eql), [.tm 77, .cn (.int .i64 0)]⟩,
  ⟨(some 79), none, .mov, [.tm 78]⟩,
  ⟨(some 80), (some (79, true)), .mov, [.tm 1]⟩,
  ⟨(some 81), (some (79, true)), (.cmp .gtr), [.tm 80, .cn (.int .i64 0)]⟩,
  ⟨(some 82), none, .and, [.tm 79, .tm 81]⟩])
 (.cond (.tm 82) (.seq (.region [⟨(some 83), none, .mov, [.tm 11]⟩,
  ⟨(some 84), none, .mov, [.tm 12]⟩,
  ⟨(some 85), none, .min, [.tm 83, .tm 84]⟩,
  ⟨(some 86), none, .mov, [.tm 11]⟩,
  ⟨(some 87), none, .mov, [.tm 12]⟩,
  ⟨(some 88), none, .max, [.tm 86, .tm 87]⟩,
  ⟨(some 11), none, .mov, [.tm 85]⟩,
  ⟨(some 12), none, .mov, [.tm 88]⟩])
 (.seq (.region [⟨(some 89), none, (.fieldAddr 0), [.tm 2]⟩,
  ⟨(some 90), none, (.load false 1), [.tm 89]⟩,
  ⟨(some 91), none, (.cmp .leq), [.tm 90, .cn (.int .i64 0)]⟩,
  ⟨(some 92), none, .mov, [.tm 91]⟩,
  ⟨(some 93), (some (92, true)), (.fieldAddr 1), [.tm 2]⟩,
  ⟨(some 94), (some (92, true)), (.load false 1), [.tm 93]⟩,
  ⟨(some 95), (some (92, true)), (.cmp .geq), [.tm 94, .cn (.int .i64 0)]⟩,
  ⟨(some 96), none, .and, [.tm 92, .tm 95]⟩])
 (.cond (.tm 96) (.region [⟨(some 11), none, .mov, [.cn (.int .i64 0)]⟩])
  .skip)))
  .skip))
 (.seq (.region [⟨(some 97), none, .mov, [.tm 11]⟩,
  ⟨(some 98), none, .mov, [.tm 12]⟩,
  ⟨(some 99), none, (.build [(.int .i64 0), (.int .i64 0)] [(0, 1), (1, 1)]), [.tm 97, .tm 98]⟩,
  ⟨none, none, (.store 2), [.tm 4, .tm 99]⟩,
  ⟨(some 5), none, .mov, [.cn (.int .i64 0)]⟩])
 .ret))))))))))) }
theorem v12_is : vfunc Try.prog Try.f12 = some v12 := by kernel_rfl
def v53 : VF := { ntmps := 45, res := [.tmp 4], body :=
 (.seq (.region [⟨(some 4), none, .mov, [.cn (.int .u64 0)]⟩])
 (.seq (.region [⟨(some 10), none, .mov, [.tm 0]⟩,
  ⟨(some 11), none, (.ari .add), [.tm 10, .cn (.int .u64 1)]⟩,
  ⟨(some 5), none, .mov, [.cn (.int .u64 0)]⟩,
  ⟨(some 6), none, .mov, [.tm 11]⟩])
 (.seq (.seq (.region [⟨(some 12), none, .mov, [.tm 1]⟩,
  ⟨(some 13), none, (.cmp .gtr), [.tm 12, .cn (.int .i64 1)]⟩])
 (.cond (.tm 13) (.region [⟨(some 14), none, .mov, [.tm 6]⟩,
  ⟨(some 15), none, .mov, [.tm 1]⟩,
  ⟨(some 16), none, .quo, [.cn (.int .i64 62), .tm 15]⟩,
  ⟨(some 17), none, (.ari .add), [.tm 16, .cn (.int .i64 1)]⟩,
  ⟨(some 18), none, .shl, [.cn (.int .u64 1), .tm 17]⟩,
  ⟨(some 19), none, .min, [.tm 14, .tm 18]⟩,
  ⟨(some 6), none, .mov, [.tm 19]⟩])
  .skip))
 (.seq (.block 0 (.loop (.seq (.seq (.region [⟨(some 20), none, .mov, [.tm 6]⟩,
  ⟨(some 21), none, .mov, [.tm 5]⟩,
  ⟨(some 22), none, (.ari .sub), [.tm 20, .tm 21]⟩,
  ⟨(some 23), none, (.cmp .gtr), [.tm 22, .cn (.int .u64 1)]⟩])
 (.cond (.tm 23) .skip
  (.exit 0)))
 (.block 1 (.seq (.region [⟨(some 24), none, .mov, [.tm 5]⟩,
  ⟨(some 25), none, .mov, [.tm 6]⟩,
  ⟨(some 26), none, .mov, [.tm 5]⟩,
  ⟨(some 27), none, (.ari .sub), [.tm 25, .tm 26]⟩,
  ⟨(some 28), none, .quo, [.tm 27, .cn (.int .u64 2)]⟩,
  ⟨(some 29), none, (.ari .add), [.tm 24, .tm 28]⟩,
  ⟨(some 7), none, .mov, [.tm 29]⟩])
 (.seq (.region [⟨(some 31), none, .mov, [.tm 7]⟩,
  ⟨(some 32), none, .mov, [.tm 1]⟩,
  ⟨(some 33), none, (.call 50), [.tm 31, .tm 32]⟩,
  ⟨(some 30), none, .mov, [.tm 33]⟩,
  ⟨(some 34), none, (.ext 0), [.tm 30]⟩,
  ⟨(some 35), none, (.ext 1), [.tm 30]⟩,
  ⟨(some 8), none, .mov, [.tm 34]⟩,
  ⟨(some 9), none, .mov, [.tm 35]⟩])
 (.seq (.region [⟨(some 36), none, .mov, [.tm 9]⟩,
  ⟨(some 37), none, .mov, [.tm 36]⟩,
  ⟨(some 38), (some (37, true)), .mov, [.tm 8]⟩,
  ⟨(some 39), (some (37, true)), .mov, [.tm 0]⟩,
  ⟨(some 40), (some (37, true)), (.cmp .leq), [.tm 38, .tm 39]⟩,
  ⟨(some 41), none, .and, [.tm 37, .tm 40]⟩])
 (.cond (.tm 41) (.region [⟨(some 42), none, .mov, [.tm 7]⟩,
  ⟨(some 5), none, .mov, [.tm 42]⟩])
  (.region [⟨(some 43), none, .mov, [.tm 7]⟩,
  ⟨(some 6), none, .mov, [.tm 43]⟩])))))))))
 (.seq (.region [⟨(some 44), none, .mov, [.tm 5]⟩,
  ⟨(some 4), none, .mov, [.tm 44]⟩])
 .ret))))) }
theorem v53_is : vfunc Try.prog Try.f53 = some v53 := by kernel_rfl
def v14 : VF := { ntmps := 58, res := [.cell 4 true 2, .tmp 5], body :=
 (.seq (.region [⟨(some 2), none, .box, [.tm 0]⟩,
  ⟨(some 4), none, (.alloc [(.int .i64 0), (.int .i64 0)]), []⟩,
  ⟨(some 5), none, .mov, [.cn (.int .i64 0)]⟩])
 (.seq (.region [⟨(some 10), none, (.load true 2), [.tm 2]⟩,
  ⟨(some 11), none, (.buildSlice 2 1 [(.int .i64 0), (.int .i64 0)] [(0, 2)]), [.tm 10]⟩,
  ⟨(some 12), none, (.call 42), [.tm 11]⟩,
  ⟨(some 6), none, .mov, [.tm 12]⟩])
 (.seq (.block 0 (.seq (.region [⟨(some 14), none, .mov, [.tm 6]⟩,
  ⟨(some 15), none, (.cmp .neq), [.tm 14, .cn (.int .i64 0)]⟩,
  ⟨(some 13), none, .mov, [.tm 15]⟩])
 (.cond (.tm 13) (.seq (.region [⟨(some 16), none, (.build [(.int .i64 0), (.int .i64 0)] []), []⟩,
  ⟨(some 17), none, .mov, [.tm 6]⟩,
  ⟨none, none, (.store 2), [.tm 4, .tm 16]⟩,
  ⟨(some 5), none, .mov, [.tm 17]⟩])
 .ret)
  (.seq (.region [⟨(some 19), none, .mov, [.tm 1]⟩,
  ⟨(some 20), none, (.cmp .lss), [.tm 19, .cn (.int .i64 1)]⟩,
  ⟨(some 21), none, .mov, [.tm 20]⟩,
  ⟨(some 22), (some (21, false)), .mov, [.tm 1]⟩,
  ⟨(some 23), (some (21, false)), (.cmp .gtr), [.tm 22, .cn (.int .i64 62)]⟩,
  ⟨(some 24), none, .or, [.tm 21, .tm 23]⟩,
  ⟨(some 18), none, .mov, [.tm 24]⟩])
 (.cond (.tm 18) (.seq (.region [⟨(some 25), none, (.build [(.int .i64 0), (.int .i64 0)] []), []⟩,
  ⟨none, none, (.store 2), [.tm 4, .tm 25]⟩,
  ⟨(some 5), none, .mov, [.cn (.int .i64 2)]⟩])
 .ret)
  (.seq (.region [⟨(some 27), none, (.fieldAddr 0), [.tm 2]⟩,
  ⟨(some 28), none, (.load false 1), [.tm 27]⟩,
  ⟨(some 29), none, (.cmp .lss), [.tm 28, .cn (.int .i64 0)]⟩,
  ⟨(some 26), none, .mov, [.tm 29]⟩])
 (.cond (.tm 26) (.seq (.region [⟨(some 30), none, (.build [(.int .i64 0), (.int .i64 0)] []), []⟩,
  ⟨none, none, (.store 2), [.tm 4, .tm 30]⟩,
  ⟨(some 5), none, .mov, [.cn (.int .i64 9)]⟩])
 .ret)
  .skip)))))))
 (.seq (.region [⟨(some 31), none, (.fieldAddr 1), [.tm 2]⟩,
  ⟨(some 32), none, (.load false 1), [.tm 31]⟩,
  ⟨(some 33), none, (.conv .u64), [.tm 32]⟩,
  ⟨(some 34), none, .mov, [.tm 1]⟩,
  ⟨(some 35), none, (.call 53), [.tm 33, .tm 34]⟩,
  ⟨(some 7), none, .mov, [.tm 35]⟩])
 (.seq (.seq (.region [⟨(some 37), none, .mov, [.tm 7]⟩,
  ⟨(some 38), none, .mov, [.tm 1]⟩,
  ⟨(some 39), none, (.call 50), [.tm 37, .tm 38]⟩,
  ⟨(some 36), none, .mov, [.tm 39]⟩,
  ⟨(some 40), none, (.ext 0), [.tm 36]⟩,
  ⟨(some 41), none, (.ext 1), [.tm 36]⟩,
  ⟨(some 8), none, .mov, [.tm 40]⟩,
  ⟨(some 9), none, .mov, [.tm 41]⟩])
 (.seq (.region [⟨(some 42), none, .mov, [.tm 8]⟩,
  ⟨(some 43), none, (.fieldAddr 1), [.tm 2]⟩,
  ⟨(some 44), none, (.load false 1), [.tm 43]⟩,
  ⟨(some 45), none, (.conv .u64), [.tm 44]⟩,
  ⟨(some 46), none, (.cmp .lss), [.tm 42, .tm 45]⟩])
 (.cond (.tm 46) (.region [⟨(some 47), none, .mov, [.tm 7]⟩,
  ⟨(some 48), none, (.ari .add), [.tm 47, .cn (.int .u64 1)]⟩,
  ⟨(some 7), none, .mov, [.tm 48]⟩])
  .skip)))
 (.seq (.region [⟨(some 49), none, (.fieldAddr 0), [.tm 2]⟩,
  ⟨(some 50), none, (.load false 1), [.tm 49]⟩,
  ⟨(some 51), none, (.conv .u64), [.tm 50]⟩,
  ⟨(some 52), none, .mov, [.tm 1]⟩,
  ⟨(some 53), none, (.call 53), [.tm 51, .tm 52]⟩,
  ⟨(some 54), none, (.conv .i64), [.tm 53]⟩,
  ⟨(some 55), none, .mov, [.tm 7]⟩,
  ⟨(some 56), none, (.conv .i64), [.tm 55]⟩,
  ⟨(some 57), none, (.build [(.int .i64 0), (.int .i64 0)] [(0, 1), (1, 1)]), [.tm 54, .tm 56]⟩,
  ⟨none, none, (.store 2), [.tm 4, .tm 57]⟩,
  ⟨(some 5), none, .mov, [.cn (.int .i64 0)]⟩])
 .ret)))))) }
theorem v14_is : vfunc Try.prog Try.f14 = some v14 := by kernel_rfl
def v60 : VF := { ntmps := 77, res := [.tmp 4, .tmp 5], body :=
 (.seq (.region [⟨(some 4), none, .mov, [.cn (.int .i64 0)]⟩,
  ⟨(some 5), none, .mov, [.cn (.bool false)]⟩])
 (.seq (.region [⟨(some 6), none, .mov, [.cn (.int .u64 3141592653589793238)]⟩])
 (.seq (.seq (.region [⟨(some 18), none, .mov, [.tm 1]⟩])
 (.cond (.tm 18) (.region [⟨(some 6), none, .mov, [.cn (.int .u64 3141592653589793239)]⟩])
  .skip))
 (.seq (.region [⟨(some 20), none, .mov, [.tm 0]⟩,
  ⟨(some 21), none, .mov, [.tm 0]⟩,
  ⟨(some 22), none, (.call 67), [.tm 20, .tm 21]⟩,
  ⟨(some 19), none, .mov, [.tm 22]⟩,
  ⟨(some 23), none, (.ext 0), [.tm 19]⟩,
  ⟨(some 24), none, (.ext 1), [.tm 19]⟩,
  ⟨(some 7), none, .mov, [.tm 23]⟩,
  ⟨(some 8), none, .mov, [.tm 24]⟩])
 (.seq (.seq (.region [⟨(some 25), none, .mov, [.tm 7]⟩,
  ⟨(some 26), none, (.cmp .geq), [.tm 25, .cn (.int .u64 4096)]⟩])
 (.cond (.tm 26) (.seq (.region [⟨(some 4), none, .mov, [.cn (.int .i64 0)]⟩,
  ⟨(some 5), none, .mov, [.cn (.bool false)]⟩])
 .ret)
  .skip))
 (.seq (.region [⟨(some 28), none, .mov, [.tm 7]⟩,
  ⟨(some 29), none, .mov, [.tm 6]⟩,
  ⟨(some 30), none, (.call 67), [.tm 28, .tm 29]⟩,
  ⟨(some 27), none, .mov, [.tm 30]⟩,
  ⟨(some 31), none, (.ext 0), [.tm 27]⟩,
  ⟨(some 32), none, (.ext 1), [.tm 27]⟩,
  ⟨(some 9), none, .mov, [.tm 31]⟩,
  ⟨(some 10), none, .mov, [.tm 32]⟩])
 (.seq (.region [⟨(some 34), none, .mov, [.tm 8]⟩,
  ⟨(some 35), none, .mov, [.tm 6]⟩,
  ⟨(some 36), none, (.call 67), [.tm 34, .tm 35]⟩,
  ⟨(some 33), none, .mov, [.tm 36]⟩,
  ⟨(some 37), none, (.ext 0), [.tm 33]⟩,
  ⟨(some 38), none, (.ext 1), [.tm 33]⟩,
  ⟨(some 11), none, .mov, [.tm 37]⟩,
  ⟨(some 12), none, .mov, [.tm 38]⟩])
 (.seq (.region [⟨(some 40), none, .mov, [.tm 10]⟩,
  ⟨(some 41), none, .mov, [.tm 11]⟩,
  ⟨(some 42), none, .addc, [.tm 40, .tm 41, .cn (.int .u64 0)]⟩,
  ⟨(some 39), none, .mov, [.tm 42]⟩,
  ⟨(some 43), none, (.ext 0), [.tm 39]⟩,
  ⟨(some 44), none, (.ext 1), [.tm 39]⟩,
  ⟨(some 10), none, .mov, [.tm 43]⟩,
  ⟨(some 13), none, .mov, [.tm 44]⟩])
 (.seq (.region [⟨(some 45), none, .mov, [.tm 9]⟩,
  ⟨(some 46), none, .mov, [.tm 13]⟩,
  ⟨(some 47), none, (.ari .add), [.tm 45, .tm 46]⟩,
  ⟨(some 9), none, .mov, [.tm 47]⟩])
 (.seq (.region [⟨(some 49), none, .mov, [.tm 9]⟩,
  ⟨(some 50), none, .mov, [.tm 10]⟩,
  ⟨(some 51), none, (.call 83), [.tm 49, .tm 50, .cn (.int .u64 4000000000000000000)]⟩,
  ⟨(some 48), none, .mov, [.tm 51]⟩,
  ⟨(some 52), none, (.ext 0), [.tm 48]⟩,
  ⟨(some 53), none, (.ext 1), [.tm 48]⟩,
  ⟨(some 14), none, .mov, [.tm 52]⟩,
  ⟨(some 15), none, .mov, [.tm 53]⟩])
 (.seq (.region [⟨(some 55), none, .mov, [.tm 15]⟩,
  ⟨(some 56), none, .mov, [.tm 12]⟩,
  ⟨(some 57), none, (.call 83), [.tm 55, .tm 56, .cn (.int .u64 4000000000000000000)]⟩,
  ⟨(some 54), none, .mov, [.tm 57]⟩,
  ⟨(some 58), none, (.ext 0), [.tm 54]⟩,
  ⟨(some 59), none, (.ext 1), [.tm 54]⟩,
  ⟨(some 16), none, .mov, [.tm 58]⟩,
  ⟨(some 17), none, .mov, [.tm 59]⟩])
 (.seq (.seq (.region [⟨(some 60), none, .mov, [.tm 14]⟩,
  ⟨(some 61), none, (.cmp .neq), [.tm 60, .cn (.int .u64 0)]⟩,
  ⟨(some 62), none, .mov, [.tm 61]⟩,
  ⟨(some 63), (some (62, false)), .mov, [.tm 16]⟩,
  ⟨(some 64), (some (62, false)), (.cmp .gtr), [.tm 63, .cn (.int .u64 4611686018427387904)]⟩,
  ⟨(some 65), none, .or, [.tm 62, .tm 64]⟩])
 (.cond (.tm 65) (.seq (.region [⟨(some 4), none, .mov, [.cn (.int .i64 0)]⟩,
  ⟨(some 5), none, .mov, [.cn (.bool false)]⟩])
 .ret)
  .skip))
 (.seq (.seq (.region [⟨(some 66), none, .mov, [.tm 1]⟩,
  ⟨(some 67), none, .mov, [.tm 66]⟩,
  ⟨(some 68), (some (67, true)), .mov, [.tm 17]⟩,
  ⟨(some 69), (some (67, true)), (.cmp .neq), [.tm 68, .cn (.int .u64 0)]⟩,
  ⟨(some 70), none, .and, [.tm 67, .tm 69]⟩])
 (.cond (.tm 70) (.region [⟨(some 71), none, .mov, [.tm 16]⟩,
  ⟨(some 72), none, (.ari .add), [.tm 71, .cn (.int .u64 1)]⟩,
  ⟨(some 16), none, .mov, [.tm 72]⟩])
  .skip))
 (.seq (.region [⟨(some 73), none, .mov, [.tm 16]⟩,
  ⟨(some 74), none, (.conv .i64), [.tm 73]⟩,
  ⟨(some 75), none, .mov, [.tm 16]⟩,
  ⟨(some 76), none, (.cmp .leq), [.tm 75, .cn (.int .u64 4611686018427387904)]⟩,
  ⟨(some 4), none, .mov, [.tm 74]⟩,
  ⟨(some 5), none, .mov, [.tm 76]⟩])
 .ret)))))))))))))) }
theorem v60_is : vfunc Try.prog Try.f60 = some v60 := by kernel_rfl
def v19 : VF := { ntmps := 46, res := [.cell 2 true 2, .tmp 3], body :=
 (.seq (.region [⟨(some 1), none, .box, [.tm 0]⟩,
  ⟨(some 2), none, (.alloc [(.int .i64 0), (.int .i64 0)]), []⟩,
  ⟨(some 3), none, .mov, [.cn (.int .i64 0)]⟩])
 (.seq (.region [⟨(some 9), none, (.load true 2), [.tm 1]⟩,
  ⟨(some 10), none, (.buildSlice 2 1 [(.int .i64 0), (.int .i64 0)] [(0, 2)]), [.tm 9]⟩,
  ⟨(some 11), none, (.call 42), [.tm 10]⟩,
  ⟨(some 4), none, .mov, [.tm 11]⟩])
 (.seq (.block 0 (.seq (.region [⟨(some 13), none, .mov, [.tm 4]⟩,
  ⟨(some 14), none, (.cmp .neq), [.tm 13, .cn (.int .i64 0)]⟩,
  ⟨(some 12), none, .mov, [.tm 14]⟩])
 (.cond (.tm 12) (.seq (.region [⟨(some 15), none, (.build [(.int .i64 0), (.int .i64 0)] []), []⟩,
  ⟨(some 16), none, .mov, [.tm 4]⟩,
  ⟨none, none, (.store 2), [.tm 2, .tm 15]⟩,
  ⟨(some 3), none, .mov, [.tm 16]⟩])
 .ret)
  (.seq (.region [⟨(some 18), none, (.fieldAddr 0), [.tm 1]⟩,
  ⟨(some 19), none, (.load false 1), [.tm 18]⟩,
  ⟨(some 20), none, (.cmp .lss), [.tm 19, .cn (.int .i64 0)]⟩,
  ⟨(some 17), none, .mov, [.tm 20]⟩])
 (.cond (.tm 17) (.seq (.region [⟨(some 21), none, (.build [(.int .i64 0), (.int .i64 0)] []), []⟩,
  ⟨none, none, (.store 2), [.tm 2, .tm 21]⟩,
  ⟨(some 3), none, .mov, [.cn (.int .i64 9)]⟩])
 .ret)
  .skip)))))
 (.seq (.region [⟨(some 23), none, (.fieldAddr 0), [.tm 1]⟩,
  ⟨(some 24), none, (.load false 1), [.tm 23]⟩,
  ⟨(some 25), none, (.conv .u64), [.tm 24]⟩,
  ⟨(some 26), none, (.call 60), [.tm 25, .cn (.bool false)]⟩,
  ⟨(some 22), none, .mov, [.tm 26]⟩,
  ⟨(some 27), none, (.ext 0), [.tm 22]⟩,
  ⟨(some 28), none, (.ext 1), [.tm 22]⟩,
  ⟨(some 5), none, .mov, [.tm 27]⟩,
  ⟨(some 6), none, .mov, [.tm 28]⟩])
 (.seq (.region [⟨(some 30), none, (.fieldAddr 1), [.tm 1]⟩,
  ⟨(some 31), none, (.load false 1), [.tm 30]⟩,
  ⟨(some 32), none, (.conv .u64), [.tm 31]⟩,
  ⟨(some 33), none, (.call 60), [.tm 32, .cn (.bool true)]⟩,
  ⟨(some 29), none, .mov, [.tm 33]⟩,
  ⟨(some 34), none, (.ext 0), [.tm 29]⟩,
  ⟨(some 35), none, (.ext 1), [.tm 29]⟩,
  ⟨(some 7), none, .mov, [.tm 34]⟩,
  ⟨(some 8), none, .mov, [.tm 35]⟩])
 (.seq (.seq (.region [⟨(some 36), none, .mov, [.tm 6]⟩,
  ⟨(some 37), none, .not, [.tm 36]⟩,
  ⟨(some 38), none, .mov, [.tm 37]⟩,
  ⟨(some 39), (some (38, false)), .mov, [.tm 8]⟩,
  ⟨(some 40), (some (38, false)), .not, [.tm 39]⟩,
  ⟨(some 41), none, .or, [.tm 38, .tm 40]⟩])
 (.cond (.tm 41) (.seq (.region [⟨(some 42), none, (.build [(.int .i64 0), (.int .i64 0)] []), []⟩,
  ⟨none, none, (.store 2), [.tm 2, .tm 42]⟩,
  ⟨(some 3), none, .mov, [.cn (.int .i64 7)]⟩])
 .ret)
  .skip))
 (.seq (.region [⟨(some 43), none, .mov, [.tm 5]⟩,
  ⟨(some 44), none, .mov, [.tm 7]⟩,
  ⟨(some 45), none, (.build [(.int .i64 0), (.int .i64 0)] [(0, 1), (1, 1)]), [.tm 43, .tm 44]⟩,
  ⟨none, none, (.store 2), [.tm 2, .tm 45]⟩,
  ⟨(some 3), none, .mov, [.cn (.int .i64 0)]⟩])
 .ret))))))) }
theorem v19_is : vfunc Try.prog Try.f19 = some v19 := by kernel_rfl


def powP (n k : Nat) : Nat × Bool := if n ^ k ≤ 4611686018427387904 then (n ^ k, true) else (0, false)
def powpC : Ctr := { alias := false, of := fun l => match l with
  | [.int .u64 n, .int .i64 k] => .pre ((0 ≤ n ∧ n ≤ 18446744073709551615) ∧ 0 ≤ k ∧ k ≤ 1000) (.fin (.tup [.int .u64 (powP n.toNat k.toNat).1, .bool (powP n.toNat k.toNat).2]) [])
  | _ => noC }
def powC : Ctr := { alias := false, of := fun a => match a with
  | [.agg [.int .i64 x, .int .i64 y], .int .i64 k] => .fin (.tup [.agg (enc2 (powF (x, y) k).1), .int .i64 (powF (x, y) k).2]) []
  | _ => noC }
def rootpC : Ctr := { alias := false, of := fun l => match l with
  | [.int .u64 n, .int .i64 k] => .pre ((0 ≤ n ∧ n ≤ 4611686018427387904) ∧ 1 ≤ k ∧ k ≤ 62) (.fin (.int .u64 (rootN n.toNat k.toNat)) [])
  | _ => noC }
def rootC : Ctr := { alias := false, of := fun a => match a with
  | [.agg [.int .i64 x, .int .i64 y], .int .i64 k] => .fin (.tup [.agg (enc2 (rootF (x, y) k).1), .int .i64 (rootF (x, y) k).2]) []
  | _ => noC }
def discpC : Ctr := { alias := false, of := fun l => match l with
  | [.int .u64 n, .bool up] => .pre (0 ≤ n ∧ n ≤ 4611686018427387904) (.all Int fun v => .imp ((discN up n).2 = true → v = (discN up n).1) (.fin (.tup [.int .i64 v, .bool (discN up n).2]) []))
  | _ => noC }
def discC := ivoC discF

def P5 : Env := { ct := fun n => match n with | 67 => some mul64C | 83 => some div64C | _ => none, fn := fun _ => none, meth := fun _ _ => none }
theorem P5_ct67 : P5.ct 67 = some mul64C := rfl
theorem P5_ct83 : P5.ct 83 = some div64C := rfl
theorem P5_ok : EnvOk Try.prog P5 := by
  refine ⟨fun f c h => ?_, fun f vf h => ?_, fun _ _ => rfl, by kernel_rfl⟩
  · simp only [P5] at h
    split at h
    · cases h; exact ⟨mul64_ok, Try.f67, Try.func67, by kernel_rfl, by kernel_rfl⟩
    · cases h; exact ⟨div64_ok, Try.f83, Try.func83, by kernel_rfl, by kernel_rfl⟩
    · cases h
  · cases h


theorem ans_ib {k : SV → List HO → Prop} {al : Bool} {hp : List HO} {κ : IntKind} {x : Int} {b : Bool} (h : k (.tup [.int κ x, .bool b]) []) : answers al k (.tup [.int κ x, .bool b]) hp :=
  ans_le (show k _ [] from h) (le_self (.tup [.int κ x, .bool b]) ⟨trivial, trivial, trivial⟩) (fun _ => by simp [freshS, freshL])

theorem powp_ok : powpC.ok Try.prog 50 := by
  refine contract Try.func50 v50_is P5_ok 300 powpC fun args k h => ⟨args, ?_⟩
  simp only [powpC] at h
  split at h
  · rename_i n e
    obtain ⟨⟨⟨h0, h1⟩, h2, h3⟩, h⟩ := h
    obtain ⟨n, rfl⟩ := Int.eq_ofNat_of_zero_le h0
    obtain ⟨e, rfl⟩ := Int.eq_ofNat_of_zero_le h2
    refine ⟨by simp [leL, le], ?_⟩
    dsimp only [v50, r_end, r_end1, r_nil, r_op, r_opg, r_runOp, r_op0, r_yld0, r_yld1, r_y, r_rbeg, r_rend, r_rend1, r_rfrm, r_rfrm1, r_range, r_rangeK, r_rangeE, r_draw, r_dnil, r_dop, r_dopg, r_dplq, r_dplh, r_dq, r_dq0, r_dcl1, r_dcl0, r_dct1, r_dct0, r_dgd, r_dgq1, r_dgq0, r_dctG, r_op1, r_eff, r_eff0, r_call, r_call0, r_inl, r_g, r_gq, r_gc, r_effg, r_effg0, r_callg, r_callg0, r_fin, r_pre, r_imp, r_all, r_ex, r_fing, r_preg, r_exg, r_inBlock, r_inLoop, r_frame, r_frame1, r_skip, r_stuck, r_region, r_seq, r_cond, r_cond1, r_block, r_exit, r_exit1, r_exit2, r_ret, r_loop, s_args0, s_args1, s_xt, s_xc, padL, blankL, callee, callArgs, eff, ctOf, getL, setL, S.put, S.upd, unopts, unopt, unoptsO, unoptsB, lazyO, guardOf, gbool, eMov, eNot, eNeg, eConv, eExt, eLenArr, eLen, eLenStr, eEqb, eEqv, allEq, eNil, negIf, eBool2, eCmp, eAri, ari, eBit, eDiv, eSh, eMinMax, foldMin, foldMax, kEq, pure1, cmpB, VO.quiet, resVals, resVal, tupled, popRet, popTo, cond, Option.bind, Option.map, eNew, eBox, asCells, lenH, snocH, eFieldAddr, eField, eLoad, cellsAt, getH, setH, dropL, takeL, mkAgg, lenL, lenS, shift, shiftL, shiftH, viewN, viewL, view, andT, junks, List.append_nil, Nat.beq, eIdxAddr, eIdxArr, idxN_0, idxN_1, idxN_2, idxN_3, eIndex, eStore, storeAt, spliceL, ones, one, eSlice, eSliceArr, bounds, subLo_z, addLo_z, subLo_one, addLo_one, eMake, eAppend, readS, repL, buildCells, chunk, purgeL, purgeLL, purgeH, purge, refs, refsL, List.cons_append, List.nil_append, wrOps, wrAl, wrDops, wrC, junkAt, putAll, putHs, headOf, headK, keepG, List.append_eq, headX, chkP, apartP, apartB, blk, strip, runAl, AL.ho, yld, putPs, lenN, findR, notRound, jumpK, jumpPT, jcode, List.map_cons, List.map_nil, ite_self, reduceIte]
    simp only [true_and, and_true, imp_self, implies_true, decide_eq_true_eq, decide_eq_false_iff_not, Nat.reduceAdd, Nat.reduceLeDiff, Bool.not_not, reduceCtorEq, false_imp_iff, Bool.not_eq_true', Bool.not_eq_false', Bool.false_eq_true, and_self, forall_const, ne_eq, not_false_eq_true, Nat.reduceEqDiff]
    have h : k (.tup [.int .u64 (powP n e).1, .bool (powP n e).2]) [] := h
    refine ⟨fun hc => ?_, fun hc => ?_⟩
    · rw [Bool.and_eq_true, decide_eq_true_eq, decide_eq_true_eq] at hc
      have : n ^ e = n := by
        rcases (by omega : n = 0 ∨ n = 1) with rfl | rfl
        · exact Nat.zero_pow (by omega)
        · exact Nat.one_pow _
      rw [powP, this, if_pos (by omega)] at h
      exact ans_ib h
    · rw [Bool.and_eq_false_iff, decide_eq_false_iff_not, decide_eq_false_iff_not] at hc
      refine Loop.keep [0, 15] Nat (fun i => [(6, .int .u64 ((n ^ i : Nat) : Int)), (17, .int .i64 i)]) (fun _ => []) [] (fun i => i ≤ e ∧ n ^ i ≤ 4611686018427387904) (fun i => e - i) ?_ ?_
      · refine ⟨0, ⟨Nat.zero_le _, by simp⟩, ?_⟩
        dsimp only [r_end, r_end1, r_nil, r_op, r_opg, r_runOp, r_op0, r_yld0, r_yld1, r_y, r_rbeg, r_rend, r_rend1, r_rfrm, r_rfrm1, r_range, r_rangeK, r_rangeE, r_draw, r_dnil, r_dop, r_dopg, r_dplq, r_dplh, r_dq, r_dq0, r_dcl1, r_dcl0, r_dct1, r_dct0, r_dgd, r_dgq1, r_dgq0, r_dctG, r_op1, r_eff, r_eff0, r_call, r_call0, r_inl, r_g, r_gq, r_gc, r_effg, r_effg0, r_callg, r_callg0, r_fin, r_pre, r_imp, r_all, r_ex, r_fing, r_preg, r_exg, r_inBlock, r_inLoop, r_frame, r_frame1, r_skip, r_stuck, r_region, r_seq, r_cond, r_cond1, r_block, r_exit, r_exit1, r_exit2, r_ret, r_loop, s_args0, s_args1, s_xt, s_xc, padL, blankL, callee, callArgs, eff, ctOf, getL, setL, S.put, S.upd, unopts, unopt, unoptsO, unoptsB, lazyO, guardOf, gbool, eMov, eNot, eNeg, eConv, eExt, eLenArr, eLen, eLenStr, eEqb, eEqv, allEq, eNil, negIf, eBool2, eCmp, eAri, ari, eBit, eDiv, eSh, eMinMax, foldMin, foldMax, kEq, pure1, cmpB, VO.quiet, resVals, resVal, tupled, popRet, popTo, cond, Option.bind, Option.map, eNew, eBox, asCells, lenH, snocH, eFieldAddr, eField, eLoad, cellsAt, getH, setH, dropL, takeL, mkAgg, lenL, lenS, shift, shiftL, shiftH, viewN, viewL, view, andT, junks, List.append_nil, Nat.beq, eIdxAddr, eIdxArr, idxN_0, idxN_1, idxN_2, idxN_3, eIndex, eStore, storeAt, spliceL, ones, one, eSlice, eSliceArr, bounds, subLo_z, addLo_z, subLo_one, addLo_one, eMake, eAppend, readS, repL, buildCells, chunk, purgeL, purgeLL, purgeH, purge, refs, refsL, List.cons_append, List.nil_append, wrOps, wrAl, wrDops, wrC, junkAt, putAll, putHs, headOf, headK, keepG, List.append_eq, headX, chkP, apartP, apartB, blk, strip, runAl, AL.ho, yld, putPs, lenN, findR, notRound, jumpK, jumpPT, jcode, List.map_cons, List.map_nil, ite_self, reduceIte]
        simp only [leS_mk, leL_cons, leL_nil, le_junk, le_int, le_bool, le_nil, leLL_nil, leLL_cons, leH_cons, leH_nil, leH1_box, leH1_own, leH1_gone, le_vs, le_agg, le_tup, le_ptr, le_own, le_xp, le_fn, le_opt, le_val, le_elem, le_nil_own, le_nil_vs, leH_ghost, leL_chunk, leXL_id, bnd_int, bnd_bool, bnd_val, bnd_nil, bnd_junk, bnd_vs, bnd_xp, bnd_agg, bnd_tup, bnd_ptr, bnd_own, bnd_elem, bnd_fn, bnd_iface, bnd_opt, bndL_nil, bndL_cons, lenH_cons, lenH_nil, imp_self, implies_true, true_and, and_true] <;> simp
      · rintro i ⟨hi, hp⟩
        dsimp only [P5_ct67, mul64C, r_end, r_end1, r_nil, r_op, r_opg, r_runOp, r_op0, r_yld0, r_yld1, r_y, r_rbeg, r_rend, r_rend1, r_rfrm, r_rfrm1, r_range, r_rangeK, r_rangeE, r_draw, r_dnil, r_dop, r_dopg, r_dplq, r_dplh, r_dq, r_dq0, r_dcl1, r_dcl0, r_dct1, r_dct0, r_dgd, r_dgq1, r_dgq0, r_dctG, r_op1, r_eff, r_eff0, r_call, r_call0, r_inl, r_g, r_gq, r_gc, r_effg, r_effg0, r_callg, r_callg0, r_fin, r_pre, r_imp, r_all, r_ex, r_fing, r_preg, r_exg, r_inBlock, r_inLoop, r_frame, r_frame1, r_skip, r_stuck, r_region, r_seq, r_cond, r_cond1, r_block, r_exit, r_exit1, r_exit2, r_ret, r_loop, s_args0, s_args1, s_xt, s_xc, padL, blankL, callee, callArgs, eff, ctOf, getL, setL, S.put, S.upd, unopts, unopt, unoptsO, unoptsB, lazyO, guardOf, gbool, eMov, eNot, eNeg, eConv, eExt, eLenArr, eLen, eLenStr, eEqb, eEqv, allEq, eNil, negIf, eBool2, eCmp, eAri, ari, eBit, eDiv, eSh, eMinMax, foldMin, foldMax, kEq, pure1, cmpB, VO.quiet, resVals, resVal, tupled, popRet, popTo, cond, Option.bind, Option.map, eNew, eBox, asCells, lenH, snocH, eFieldAddr, eField, eLoad, cellsAt, getH, setH, dropL, takeL, mkAgg, lenL, lenS, shift, shiftL, shiftH, viewN, viewL, view, andT, junks, List.append_nil, Nat.beq, eIdxAddr, eIdxArr, idxN_0, idxN_1, idxN_2, idxN_3, eIndex, eStore, storeAt, spliceL, ones, one, eSlice, eSliceArr, bounds, subLo_z, addLo_z, subLo_one, addLo_one, eMake, eAppend, readS, repL, buildCells, chunk, purgeL, purgeLL, purgeH, purge, refs, refsL, List.cons_append, List.nil_append, wrOps, wrAl, wrDops, wrC, junkAt, putAll, putHs, headOf, headK, keepG, List.append_eq, headX, chkP, apartP, apartB, blk, strip, runAl, AL.ho, yld, putPs, lenN, findR, notRound, jumpK, jumpPT, jcode, List.map_cons, List.map_nil, ite_self, reduceIte]
        simp only [true_and, and_true, imp_self, implies_true, decide_eq_true_eq, decide_eq_false_iff_not, Nat.reduceAdd, Nat.reduceLeDiff, Bool.not_not, reduceCtorEq, false_imp_iff, Bool.not_eq_true', Bool.not_eq_false', Bool.false_eq_true, and_self, forall_const, ne_eq, not_false_eq_true, Nat.reduceEqDiff]
        have e0 : ((n ^ i : Nat) : Int) * (n : Int) = ((n ^ (i + 1) : Nat) : Int) := by rw [Nat.pow_succ]; exact (Int.natCast_mul _ _).symm
        rw [e0]
        refine ⟨fun hlt => ⟨⟨⟨by omega, by omega⟩, by omega, by omega⟩, by decide, by decide, fun hb => ?_, fun hb => ⟨i + 1, ⟨by omega, ?_⟩, by omega, ?_⟩⟩, fun hge => ?_⟩
        · have hbig : 4611686018427387904 < n ^ (i + 1) := by
            rw [Bool.or_eq_true, Bool.not_eq_true', decide_eq_false_iff_not, decide_eq_true_eq] at hb
            generalize n ^ (i + 1) = t at *
            omega
          have hle : n ^ (i + 1) ≤ n ^ e := Nat.pow_le_pow_right (by omega) (by omega)
          rw [powP, if_neg (by omega)] at h
          exact ans_ib h
        · rw [Bool.or_eq_false_iff, Bool.not_eq_false', decide_eq_true_eq, decide_eq_false_iff_not] at hb
          generalize n ^ (i + 1) = t at *
          omega
        · have hm : ((n ^ (i + 1) : Nat) : Int) % 18446744073709551616 = ((n ^ (i + 1) : Nat) : Int) := by
            rw [Bool.or_eq_false_iff, Bool.not_eq_false', decide_eq_true_eq, decide_eq_false_iff_not] at hb
            generalize n ^ (i + 1) = t at *
            omega
          rw [hm, w_succ (n := e) (by omega) (by omega)]
          simp only [leS_mk, leL_cons, leL_nil, le_junk, le_int, le_bool, le_nil, leLL_nil, leLL_cons, leH_cons, leH_nil, leH1_box, leH1_own, leH1_gone, le_vs, le_agg, le_tup, le_ptr, le_own, le_xp, le_fn, le_opt, le_val, le_elem, le_nil_own, le_nil_vs, leH_ghost, leL_chunk, leXL_id, bnd_int, bnd_bool, bnd_val, bnd_nil, bnd_junk, bnd_vs, bnd_xp, bnd_agg, bnd_tup, bnd_ptr, bnd_own, bnd_elem, bnd_fn, bnd_iface, bnd_opt, bndL_nil, bndL_cons, lenH_cons, lenH_nil, imp_self, implies_true, true_and, and_true] <;> simp
        · obtain rfl : i = e := by omega
          rw [powP, if_pos hp] at h
          exact ans_ib h
  · exact h.1.elim
def P6 : Env := { ct := fun n => match n with | 67 => some mul64C | 83 => some div64C | 50 => some powpC | 51 => some sizC | 42 => some ivlC | _ => none, fn := fun _ => none, meth := fun _ _ => none }
theorem P6_ct67 : P6.ct 67 = some mul64C := rfl
theorem P6_ct83 : P6.ct 83 = some div64C := rfl
theorem P6_ct50 : P6.ct 50 = some powpC := rfl
theorem P6_ct51 : P6.ct 51 = some sizC := rfl
theorem P6_ct42 : P6.ct 42 = some ivlC := rfl
theorem P6_ok : EnvOk Try.prog P6 := by
  refine ⟨fun f c h => ?_, fun f vf h => ?_, fun _ _ => rfl, by kernel_rfl⟩
  · simp only [P6] at h
    split at h
    · cases h; exact ⟨mul64_ok, Try.f67, Try.func67, by kernel_rfl, by kernel_rfl⟩
    · cases h; exact ⟨div64_ok, Try.f83, Try.func83, by kernel_rfl, by kernel_rfl⟩
    · cases h; exact ⟨powp_ok, Try.f50, Try.func50, by kernel_rfl, by kernel_rfl⟩
    · cases h; exact ⟨siz_ok, Try.f51, Try.func51, by kernel_rfl, by kernel_rfl⟩
    · cases h; exact ⟨ivl_ok, Try.f42, Try.func42, by kernel_rfl, by kernel_rfl⟩
    · cases h
  · cases h


theorem pow_sign (x : Int) (e : Nat) : x ^ e = if x < 0 ∧ e % 2 = 1 then -((x.natAbs ^ e : Nat) : Int) else ((x.natAbs ^ e : Nat) : Int) := by
  induction e with
  | zero => simp
  | succ e ih =>
    rw [Int.pow_succ, ih, Nat.pow_succ]
    rcases Int.lt_or_le x 0 with hx | hx
    · obtain ⟨n, rfl⟩ : ∃ n : Nat, x = -(n : Int) := ⟨x.natAbs, by omega⟩
      have hn : (-(n : Int)).natAbs = n := by omega
      rw [hn]
      rcases Nat.mod_two_eq_zero_or_one e with h | h
      · rw [if_neg (by omega), if_pos (by omega)]; push_cast; grind
      · rw [if_pos (by omega), if_neg (by omega)]; push_cast; grind
    · obtain ⟨n, rfl⟩ : ∃ n : Nat, x = (n : Int) := ⟨x.natAbs, by omega⟩
      rw [if_neg (by omega), if_neg (by omega)]
      simp

theorem pow_ok : powC.ok Try.prog 12 := by
  refine contract Try.func12 v12_is P6_ok 300 powC fun args k h => ⟨args, ?_⟩
  simp only [powC] at h
  split at h
  · rename_i x y e
    refine ⟨by simp [leL, le], ?_⟩
    dsimp only [v12, P6_ct42, P6_ct50, P6_ct51, ivlC, powpC, sizC, enc2, r_end, r_end1, r_nil, r_op, r_opg, r_runOp, r_op0, r_yld0, r_yld1, r_y, r_rbeg, r_rend, r_rend1, r_rfrm, r_rfrm1, r_range, r_rangeK, r_rangeE, r_draw, r_dnil, r_dop, r_dopg, r_dplq, r_dplh, r_dq, r_dq0, r_dcl1, r_dcl0, r_dct1, r_dct0, r_dgd, r_dgq1, r_dgq0, r_dctG, r_op1, r_eff, r_eff0, r_call, r_call0, r_inl, r_g, r_gq, r_gc, r_effg, r_effg0, r_callg, r_callg0, r_fin, r_pre, r_imp, r_all, r_ex, r_fing, r_preg, r_exg, r_inBlock, r_inLoop, r_frame, r_frame1, r_skip, r_stuck, r_region, r_seq, r_cond, r_cond1, r_block, r_exit, r_exit1, r_exit2, r_ret, r_loop, s_args0, s_args1, s_xt, s_xc, padL, blankL, callee, callArgs, eff, ctOf, getL, setL, S.put, S.upd, unopts, unopt, unoptsO, unoptsB, lazyO, guardOf, gbool, eMov, eNot, eNeg, eConv, eExt, eLenArr, eLen, eLenStr, eEqb, eEqv, allEq, eNil, negIf, eBool2, eCmp, eAri, ari, eBit, eDiv, eSh, eMinMax, foldMin, foldMax, kEq, pure1, cmpB, VO.quiet, resVals, resVal, tupled, popRet, popTo, cond, Option.bind, Option.map, eNew, eBox, asCells, lenH, snocH, eFieldAddr, eField, eLoad, cellsAt, getH, setH, dropL, takeL, mkAgg, lenL, lenS, shift, shiftL, shiftH, viewN, viewL, view, andT, junks, List.append_nil, Nat.beq, eIdxAddr, eIdxArr, idxN_0, idxN_1, idxN_2, idxN_3, eIndex, eStore, storeAt, spliceL, ones, one, eSlice, eSliceArr, bounds, subLo_z, addLo_z, subLo_one, addLo_one, eMake, eAppend, readS, repL, buildCells, chunk, purgeL, purgeLL, purgeH, purge, refs, refsL, List.cons_append, List.nil_append, wrOps, wrAl, wrDops, wrC, junkAt, putAll, putHs, headOf, headK, keepG, List.append_eq, headX, chkP, apartP, apartB, blk, strip, runAl, AL.ho, yld, putPs, lenN, findR, notRound, jumpK, jumpPT, jcode, List.map_cons, List.map_nil, ite_self, reduceIte]
    simp only [true_and, and_true, imp_self, implies_true, decide_eq_true_eq, decide_eq_false_iff_not, Nat.reduceAdd, Nat.reduceLeDiff, Bool.not_not, reduceCtorEq, false_imp_iff, Bool.not_eq_true', Bool.not_eq_false', Bool.false_eq_true, and_self, forall_const, ne_eq, not_false_eq_true, Nat.reduceEqDiff]
    have h : k (.tup [.agg (enc2 (powF (x, y) e).1), .int .i64 (powF (x, y) e).2]) [] := h
    refine ⟨by decide, [(x, y)], ⟨⟨rfl, rfl, fun k hk => match k, hk with | 0, _ => leXL_self _⟩, by simp⟩, fun hc => ?_, fun hc => ?_⟩
    · rw [powF, if_pos hc] at h
      exact ans_iv (r := errI (ivE [(x, y)])) h
    · obtain ⟨h1, h2, h3⟩ := ivE1 hc
      dsimp only at h1 h2 h3
      rw [powF, if_neg (by rw [hc]; simp)] at h
      dsimp only at h
      refine ⟨fun hb => ?_, fun hb => ?_⟩
      · rw [Bool.or_eq_true, decide_eq_true_eq, decide_eq_true_eq] at hb
        rw [if_pos hb] at h
        exact ans_iv (r := errI 2) h
      · rw [Bool.or_eq_false_iff, decide_eq_false_iff_not, decide_eq_false_iff_not] at hb
        rw [if_neg (by omega)] at h
        obtain ⟨e, rfl⟩ := Int.eq_ofNat_of_zero_le (by omega : 0 ≤ e)
        simp only [Int.toNat_natCast] at h ⊢
        have et : (e : Int).tmod 2 = ((e % 2 : Nat) : Int) := IntWalk.up_tmod (y := 2) rfl rfl
        rw [et]
        refine ⟨⟨by omega, by omega⟩, ⟨⟨by omega, by omega⟩, by omega, by omega⟩, by decide, by decide, ⟨by omega, by omega⟩, ⟨⟨by omega, by omega⟩, by omega, by omega⟩, by decide, by decide, ?_⟩
        rcases Nat.lt_or_ge 4611686018427387904 (x.natAbs ^ e) with hX | hX
        · rw [if_pos (.inl hX)] at h
          have hp : powP x.natAbs e = (0, false) := by unfold powP; rw [if_neg (by omega)]
          simp only [hp, decide_true, decide_false, Bool.and_true, Bool.true_and, Bool.and_false, Bool.false_and, Bool.not_true, Bool.not_false, Bool.or_false, Bool.false_or, Bool.or_true, Bool.true_or, Bool.and_self, Bool.or_self, Bool.false_eq_true, Bool.true_eq_false, false_imp_iff, forall_const, true_and, and_true, implies_true, reduceCtorEq, not_true_eq_false, not_false_eq_true, ite_true, ite_false]
          exact ans_iv (r := errI 7) h
        rcases Nat.lt_or_ge 4611686018427387904 (y.natAbs ^ e) with hY | hY
        · rw [if_pos (.inr hY)] at h
          have hp : powP y.natAbs e = (0, false) := by unfold powP; rw [if_neg (by omega)]
          simp only [hp, decide_true, decide_false, Bool.and_true, Bool.true_and, Bool.and_false, Bool.false_and, Bool.not_true, Bool.not_false, Bool.or_false, Bool.false_or, Bool.or_true, Bool.true_or, Bool.and_self, Bool.or_self, Bool.false_eq_true, Bool.true_eq_false, false_imp_iff, forall_const, true_and, and_true, implies_true, reduceCtorEq, not_true_eq_false, not_false_eq_true, ite_true, ite_false]
          exact ans_iv (r := errI 7) h
        rw [if_neg (by omega)] at h
        have hpx : powP x.natAbs e = (x.natAbs ^ e, true) := by unfold powP; rw [if_pos hX]
        have hpy : powP y.natAbs e = (y.natAbs ^ e, true) := by unfold powP; rw [if_pos hY]
        have sx := pow_sign x e
        have sy := pow_sign y e
        rw [sx, sy] at h
        simp only [hpx, hpy, decide_true, decide_false, Bool.and_true, Bool.true_and, Bool.and_false, Bool.false_and, Bool.not_true, Bool.not_false, Bool.or_false, Bool.false_or, Bool.or_true, Bool.true_or, Bool.and_self, Bool.or_self, Bool.false_eq_true, Bool.true_eq_false, false_imp_iff, forall_const, true_and, and_true, implies_true, reduceCtorEq, not_true_eq_false, not_false_eq_true, ite_true, ite_false]
        generalize x.natAbs ^ e = X at *
        generalize y.natAbs ^ e = Y at *
        rw [IntWalk.i64_in (X : Int) (by omega), IntWalk.i64_in (Y : Int) (by omega), IntWalk.i64_in (0 - (X : Int)) (by omega), IntWalk.i64_in (0 - (Y : Int)) (by omega)]
        simp only [Bool.and_eq_true, Bool.and_eq_false_iff, decide_eq_true_eq, decide_eq_false_iff_not, ne_eq, not_false_eq_true, true_and]
        refine ⟨by decide, fun c1 => ⟨by decide, fun c2 => ⟨by decide, fun c3 => ?_, fun c3 => ?_⟩, fun c2 => ⟨by decide, fun c3 => ?_, fun c3 => ?_⟩⟩, fun c1 => ⟨by decide, fun c2 => ⟨by decide, fun c3 => ?_, fun c3 => ?_⟩, fun c2 => ⟨by decide, fun c3 => ⟨fun c4 => ?_, fun c4 => ?_⟩, fun c3 => ?_⟩⟩⟩
        all_goals (try simp only [Int.zero_sub])
        all_goals first
          | (exfalso; omega)
          | (rw [if_neg (by omega : ¬ (e % 2 = 0 ∧ 0 < (e : Int)))] at h
             first | rw [if_pos (by omega : x < 0 ∧ e % 2 = 1)] at h | rw [if_neg (by omega : ¬ (x < 0 ∧ e % 2 = 1))] at h
             first | rw [if_pos (by omega : y < 0 ∧ e % 2 = 1)] at h | rw [if_neg (by omega : ¬ (y < 0 ∧ e % 2 = 1))] at h
             exact ans_iv (r := ((_, _), 0)) h)
          | (rw [if_pos (by omega : e % 2 = 0 ∧ 0 < (e : Int)), if_neg (by omega : ¬ (x < 0 ∧ e % 2 = 1)), if_neg (by omega : ¬ (y < 0 ∧ e % 2 = 1))] at h
             first | rw [if_pos (by omega : x ≤ 0 ∧ 0 ≤ y)] at h | rw [if_neg (by omega : ¬ (x ≤ 0 ∧ 0 ≤ y))] at h
             exact ans_iv (r := ((_, _), 0)) h)
  · exact h.1.elim

theorem rootp_ok : rootpC.ok Try.prog 53 := by
  refine contract Try.func53 v53_is P6_ok 300 rootpC fun args k h => ⟨args, ?_⟩
  simp only [rootpC] at h
  split at h
  · rename_i n e
    obtain ⟨⟨⟨h0, h1⟩, h2, h3⟩, h⟩ := h
    obtain ⟨n, rfl⟩ := Int.eq_ofNat_of_zero_le h0
    obtain ⟨e, rfl⟩ := Int.eq_ofNat_of_zero_le (by omega : 0 ≤ e)
    refine ⟨by simp [leL, le], ?_⟩
    dsimp only [v53, r_end, r_end1, r_nil, r_op, r_opg, r_runOp, r_op0, r_yld0, r_yld1, r_y, r_rbeg, r_rend, r_rend1, r_rfrm, r_rfrm1, r_range, r_rangeK, r_rangeE, r_draw, r_dnil, r_dop, r_dopg, r_dplq, r_dplh, r_dq, r_dq0, r_dcl1, r_dcl0, r_dct1, r_dct0, r_dgd, r_dgq1, r_dgq0, r_dctG, r_op1, r_eff, r_eff0, r_call, r_call0, r_inl, r_g, r_gq, r_gc, r_effg, r_effg0, r_callg, r_callg0, r_fin, r_pre, r_imp, r_all, r_ex, r_fing, r_preg, r_exg, r_inBlock, r_inLoop, r_frame, r_frame1, r_skip, r_stuck, r_region, r_seq, r_cond, r_cond1, r_block, r_exit, r_exit1, r_exit2, r_ret, r_loop, s_args0, s_args1, s_xt, s_xc, padL, blankL, callee, callArgs, eff, ctOf, getL, setL, S.put, S.upd, unopts, unopt, unoptsO, unoptsB, lazyO, guardOf, gbool, eMov, eNot, eNeg, eConv, eExt, eLenArr, eLen, eLenStr, eEqb, eEqv, allEq, eNil, negIf, eBool2, eCmp, eAri, ari, eBit, eDiv, eSh, eMinMax, foldMin, foldMax, kEq, pure1, cmpB, VO.quiet, resVals, resVal, tupled, popRet, popTo, cond, Option.bind, Option.map, eNew, eBox, asCells, lenH, snocH, eFieldAddr, eField, eLoad, cellsAt, getH, setH, dropL, takeL, mkAgg, lenL, lenS, shift, shiftL, shiftH, viewN, viewL, view, andT, junks, List.append_nil, Nat.beq, eIdxAddr, eIdxArr, idxN_0, idxN_1, idxN_2, idxN_3, eIndex, eStore, storeAt, spliceL, ones, one, eSlice, eSliceArr, bounds, subLo_z, addLo_z, subLo_one, addLo_one, eMake, eAppend, readS, repL, buildCells, chunk, purgeL, purgeLL, purgeH, purge, refs, refsL, List.cons_append, List.nil_append, wrOps, wrAl, wrDops, wrC, junkAt, putAll, putHs, headOf, headK, keepG, List.append_eq, headX, chkP, apartP, apartB, blk, strip, runAl, AL.ho, yld, putPs, lenN, findR, notRound, jumpK, jumpPT, jcode, List.map_cons, List.map_nil, ite_self, reduceIte]
    simp only [true_and, and_true, imp_self, implies_true, decide_eq_true_eq, decide_eq_false_iff_not, Nat.reduceAdd, Nat.reduceLeDiff, Bool.not_not, reduceCtorEq, false_imp_iff, Bool.not_eq_true', Bool.not_eq_false', Bool.false_eq_true, and_self, forall_const, ne_eq, not_false_eq_true, Nat.reduceEqDiff]
    have h : k (.int .u64 (rootN n e)) [] := h
    have e1 : IntKind.i64.wrap (IntKind.i64.wrap (Int.tdiv 62 (e : Int)) + 1) = ((62 / e + 1 : Nat) : Int) := by
      have : Int.tdiv 62 (e : Int) = ((62 / e : Nat) : Int) := IntWalk.up_tdiv (x := 62) rfl rfl
      have hle : 62 / e ≤ 62 := Nat.div_le_self _ _
      generalize 62 / e = t at *
      rw [this, IntWalk.i64_in (t : Int) (by omega), IntWalk.i64_in _ (by omega)]; omega
    have e2 : IntKind.u64.wrap ((n : Int) + 1) = ((n + 1 : Nat) : Int) := by rw [IntWalk.u64_in _ (by omega)]; omega
    refine ⟨fun hgt => ⟨by omega, ?_⟩, fun hle => ?_⟩
    · have hq : 62 / e ≤ 31 := by
        have : 62 / e ≤ 62 / 2 := Nat.div_le_div_left (by omega) (by decide)
        omega
      have e3 : IntKind.u64.wrap (1 * 2 ^ min (62 / e + 1) 64) = ((2 ^ (62 / e + 1) : Nat) : Int) := by
        have h1 := shl_nat (x := 1) (s := 62 / e + 1) (by omega) (by
          rw [Nat.one_mul]
          exact Nat.lt_of_le_of_lt (Nat.pow_le_pow_right (by decide) (by omega : 62 / e + 1 ≤ 32)) (by decide))
        rw [Nat.one_mul] at h1
        exact h1
      rw [e1, e2]
      simp only [Int.toNat_natCast]
      rw [show IntKind.u64.bits = 64 from rfl, e3]
      refine ⟨Int.natCast_nonneg _, ?_⟩
      have hhigh : n < (min (n + 1) (2 ^ (62 / e + 1))) ^ e := by
        rcases Nat.le_total (n + 1) (2 ^ (62 / e + 1)) with hm | hm
        · rw [Nat.min_eq_left hm]
          exact Nat.lt_of_lt_of_le (Nat.lt_succ_self n) (Nat.le_trans (Nat.le_of_eq (Nat.pow_one _).symm) (Nat.pow_le_pow_right (by omega) (by omega)))
        · rw [Nat.min_eq_right hm, ← Nat.pow_mul]
          have h63 : 63 ≤ (62 / e + 1) * e := by
            have := Nat.div_add_mod 62 e
            have := Nat.mod_lt 62 (by omega : e > 0)
            rw [Nat.succ_mul, Nat.mul_comm]; omega
          exact Nat.lt_of_lt_of_le (by omega : n < 2 ^ 63) (Nat.pow_le_pow_right (by decide) h63)
      have hm : min ((n + 1 : Nat) : Int) ((2 ^ (62 / e + 1) : Nat) : Int) = ((min (n + 1) (2 ^ (62 / e + 1)) : Nat) : Int) := by omega
      rw [hm]
      have hmb : min (n + 1) (2 ^ (62 / e + 1)) ≤ n + 1 := Nat.min_le_left _ _
      generalize min (n + 1) (2 ^ (62 / e + 1)) = H at hhigh hmb ⊢
      refine Loop.keep [0, 0] (Nat × Nat) (fun x => [(5, .int .u64 x.1), (6, .int .u64 x.2)]) (fun _ => []) [] (fun x => x.1 ^ e ≤ n ∧ n < x.2 ^ e ∧ x.1 < x.2 ∧ x.2 ≤ n + 1) (fun x => x.2 - x.1) ?_ ?_
      · refine ⟨(0, H), ⟨by rw [Nat.zero_pow (by omega)]; exact Nat.zero_le _, hhigh, ?_, by omega⟩, ?_⟩
        · refine Nat.pos_of_ne_zero fun h0 => ?_
          have h0 : H = 0 := h0
          rw [h0, Nat.zero_pow (by omega)] at hhigh
          exact absurd hhigh (Nat.not_lt_zero _)
        · dsimp only [r_end, r_end1, r_nil, r_op, r_opg, r_runOp, r_op0, r_yld0, r_yld1, r_y, r_rbeg, r_rend, r_rend1, r_rfrm, r_rfrm1, r_range, r_rangeK, r_rangeE, r_draw, r_dnil, r_dop, r_dopg, r_dplq, r_dplh, r_dq, r_dq0, r_dcl1, r_dcl0, r_dct1, r_dct0, r_dgd, r_dgq1, r_dgq0, r_dctG, r_op1, r_eff, r_eff0, r_call, r_call0, r_inl, r_g, r_gq, r_gc, r_effg, r_effg0, r_callg, r_callg0, r_fin, r_pre, r_imp, r_all, r_ex, r_fing, r_preg, r_exg, r_inBlock, r_inLoop, r_frame, r_frame1, r_skip, r_stuck, r_region, r_seq, r_cond, r_cond1, r_block, r_exit, r_exit1, r_exit2, r_ret, r_loop, s_args0, s_args1, s_xt, s_xc, padL, blankL, callee, callArgs, eff, ctOf, getL, setL, S.put, S.upd, unopts, unopt, unoptsO, unoptsB, lazyO, guardOf, gbool, eMov, eNot, eNeg, eConv, eExt, eLenArr, eLen, eLenStr, eEqb, eEqv, allEq, eNil, negIf, eBool2, eCmp, eAri, ari, eBit, eDiv, eSh, eMinMax, foldMin, foldMax, kEq, pure1, cmpB, VO.quiet, resVals, resVal, tupled, popRet, popTo, cond, Option.bind, Option.map, eNew, eBox, asCells, lenH, snocH, eFieldAddr, eField, eLoad, cellsAt, getH, setH, dropL, takeL, mkAgg, lenL, lenS, shift, shiftL, shiftH, viewN, viewL, view, andT, junks, List.append_nil, Nat.beq, eIdxAddr, eIdxArr, idxN_0, idxN_1, idxN_2, idxN_3, eIndex, eStore, storeAt, spliceL, ones, one, eSlice, eSliceArr, bounds, subLo_z, addLo_z, subLo_one, addLo_one, eMake, eAppend, readS, repL, buildCells, chunk, purgeL, purgeLL, purgeH, purge, refs, refsL, List.cons_append, List.nil_append, wrOps, wrAl, wrDops, wrC, junkAt, putAll, putHs, headOf, headK, keepG, List.append_eq, headX, chkP, apartP, apartB, blk, strip, runAl, AL.ho, yld, putPs, lenN, findR, notRound, jumpK, jumpPT, jcode, List.map_cons, List.map_nil, ite_self, reduceIte]
          simp only [leS_mk, leL_cons, leL_nil, le_junk, le_int, le_bool, le_nil, leLL_nil, leLL_cons, leH_cons, leH_nil, leH1_box, leH1_own, leH1_gone, le_vs, le_agg, le_tup, le_ptr, le_own, le_xp, le_fn, le_opt, le_val, le_elem, le_nil_own, le_nil_vs, leH_ghost, leL_chunk, leXL_id, bnd_int, bnd_bool, bnd_val, bnd_nil, bnd_junk, bnd_vs, bnd_xp, bnd_agg, bnd_tup, bnd_ptr, bnd_own, bnd_elem, bnd_fn, bnd_iface, bnd_opt, bndL_nil, bndL_cons, lenH_cons, lenH_nil, imp_self, implies_true, true_and, and_true] <;> simp
      · rintro ⟨l, u⟩ ⟨hl, hu, hlu, hun⟩
        dsimp only at hl hu hlu hun
        dsimp only [P6_ct50, powpC, r_end, r_end1, r_nil, r_op, r_opg, r_runOp, r_op0, r_yld0, r_yld1, r_y, r_rbeg, r_rend, r_rend1, r_rfrm, r_rfrm1, r_range, r_rangeK, r_rangeE, r_draw, r_dnil, r_dop, r_dopg, r_dplq, r_dplh, r_dq, r_dq0, r_dcl1, r_dcl0, r_dct1, r_dct0, r_dgd, r_dgq1, r_dgq0, r_dctG, r_op1, r_eff, r_eff0, r_call, r_call0, r_inl, r_g, r_gq, r_gc, r_effg, r_effg0, r_callg, r_callg0, r_fin, r_pre, r_imp, r_all, r_ex, r_fing, r_preg, r_exg, r_inBlock, r_inLoop, r_frame, r_frame1, r_skip, r_stuck, r_region, r_seq, r_cond, r_cond1, r_block, r_exit, r_exit1, r_exit2, r_ret, r_loop, s_args0, s_args1, s_xt, s_xc, padL, blankL, callee, callArgs, eff, ctOf, getL, setL, S.put, S.upd, unopts, unopt, unoptsO, unoptsB, lazyO, guardOf, gbool, eMov, eNot, eNeg, eConv, eExt, eLenArr, eLen, eLenStr, eEqb, eEqv, allEq, eNil, negIf, eBool2, eCmp, eAri, ari, eBit, eDiv, eSh, eMinMax, foldMin, foldMax, kEq, pure1, cmpB, VO.quiet, resVals, resVal, tupled, popRet, popTo, cond, Option.bind, Option.map, eNew, eBox, asCells, lenH, snocH, eFieldAddr, eField, eLoad, cellsAt, getH, setH, dropL, takeL, mkAgg, lenL, lenS, shift, shiftL, shiftH, viewN, viewL, view, andT, junks, List.append_nil, Nat.beq, eIdxAddr, eIdxArr, idxN_0, idxN_1, idxN_2, idxN_3, eIndex, eStore, storeAt, spliceL, ones, one, eSlice, eSliceArr, bounds, subLo_z, addLo_z, subLo_one, addLo_one, eMake, eAppend, readS, repL, buildCells, chunk, purgeL, purgeLL, purgeH, purge, refs, refsL, List.cons_append, List.nil_append, wrOps, wrAl, wrDops, wrC, junkAt, putAll, putHs, headOf, headK, keepG, List.append_eq, headX, chkP, apartP, apartB, blk, strip, runAl, AL.ho, yld, putPs, lenN, findR, notRound, jumpK, jumpPT, jcode, List.map_cons, List.map_nil, ite_self, reduceIte]
        simp only [true_and, and_true, imp_self, implies_true, decide_eq_true_eq, decide_eq_false_iff_not, Nat.reduceAdd, Nat.reduceLeDiff, Bool.not_not, reduceCtorEq, false_imp_iff, Bool.not_eq_true', Bool.not_eq_false', Bool.false_eq_true, and_self, forall_const, ne_eq, not_false_eq_true, Nat.reduceEqDiff]
        have w1 : IntKind.u64.wrap ((u : Int) - (l : Int)) = ((u - l : Nat) : Int) := u_sub (by omega) (by omega)
        have w2 : IntKind.u64.wrap (((u - l : Nat) : Int).tdiv 2) = (((u - l) / 2 : Nat) : Int) := by
          have : ((u - l : Nat) : Int).tdiv 2 = (((u - l) / 2 : Nat) : Int) := IntWalk.up_tdiv (y := 2) rfl rfl
          rw [this]; exact u_nat (by omega)
        have w3 : IntKind.u64.wrap ((l : Int) + (((u - l) / 2 : Nat) : Int)) = ((l + (u - l) / 2 : Nat) : Int) := u_add (by omega)
        rw [w1, w2, w3]
        simp only [Int.toNat_natCast]
        refine ⟨fun hgt => ⟨by decide, ⟨⟨by omega, by omega⟩, by omega, by omega⟩, by decide, by decide, ?_⟩, fun hle => ?_⟩
        · generalize hM : l + (u - l) / 2 = M
          have hM1 : l < M := by omega
          have hM2 : M < u := by omega
          have hcond : ((powP M e).2 && decide (((powP M e).1 : Int) ≤ (n : Int))) = true ↔ M ^ e ≤ n := by
            unfold powP
            split
            · simp only [Bool.true_and, decide_eq_true_eq]
              generalize M ^ e = t
              omega
            · simp only [Bool.false_and, Bool.false_eq_true, false_iff]
              generalize M ^ e = t at *
              omega
          refine ⟨fun hb => ⟨(M, u), ⟨hcond.1 hb, hu, hM2, hun⟩, by simp only; omega, ?_⟩, fun hb => ⟨(l, M), ⟨hl, ?_, hM1, by simp only; omega⟩, by simp only; omega, ?_⟩⟩
          · simp only [leS_mk, leL_cons, leL_nil, le_junk, le_int, le_bool, le_nil, leLL_nil, leLL_cons, leH_cons, leH_nil, leH1_box, leH1_own, leH1_gone, le_vs, le_agg, le_tup, le_ptr, le_own, le_xp, le_fn, le_opt, le_val, le_elem, le_nil_own, le_nil_vs, leH_ghost, leL_chunk, leXL_id, bnd_int, bnd_bool, bnd_val, bnd_nil, bnd_junk, bnd_vs, bnd_xp, bnd_agg, bnd_tup, bnd_ptr, bnd_own, bnd_elem, bnd_fn, bnd_iface, bnd_opt, bndL_nil, bndL_cons, lenH_cons, lenH_nil, imp_self, implies_true, true_and, and_true]
          · refine Nat.lt_of_not_le fun hh => ?_
            have := hcond.2 hh
            rw [hb] at this; cases this
          · simp only [leS_mk, leL_cons, leL_nil, le_junk, le_int, le_bool, le_nil, leLL_nil, leLL_cons, leH_cons, leH_nil, leH1_box, leH1_own, leH1_gone, le_vs, le_agg, le_tup, le_ptr, le_own, le_xp, le_fn, le_opt, le_val, le_elem, le_nil_own, le_nil_vs, leH_ghost, leL_chunk, leXL_id, bnd_int, bnd_bool, bnd_val, bnd_nil, bnd_junk, bnd_vs, bnd_xp, bnd_agg, bnd_tup, bnd_ptr, bnd_own, bnd_elem, bnd_fn, bnd_iface, bnd_opt, bndL_nil, bndL_cons, lenH_cons, lenH_nil, imp_self, implies_true, true_and, and_true]
        · obtain rfl : u = l + 1 := by omega
          rw [rootN_eq (by omega) hl hu] at h
          exact ans_int h
    · have hhigh : n < (n + 1) ^ e := Nat.lt_of_lt_of_le (Nat.lt_succ_self n) (Nat.le_trans (Nat.le_of_eq (Nat.pow_one _).symm) (Nat.pow_le_pow_right (by omega) (by omega)))
      rw [e2]
      have hmb : n + 1 ≤ n + 1 := Nat.le_refl _
      generalize hH : n + 1 = H at hhigh ⊢
      rw [hH] at hmb
      refine Loop.keep [0, 0] (Nat × Nat) (fun x => [(5, .int .u64 x.1), (6, .int .u64 x.2)]) (fun _ => []) [] (fun x => x.1 ^ e ≤ n ∧ n < x.2 ^ e ∧ x.1 < x.2 ∧ x.2 ≤ n + 1) (fun x => x.2 - x.1) ?_ ?_
      · refine ⟨(0, H), ⟨by rw [Nat.zero_pow (by omega)]; exact Nat.zero_le _, hhigh, ?_, by omega⟩, ?_⟩
        · refine Nat.pos_of_ne_zero fun h0 => ?_
          have h0 : H = 0 := h0
          rw [h0, Nat.zero_pow (by omega)] at hhigh
          exact absurd hhigh (Nat.not_lt_zero _)
        · dsimp only [r_end, r_end1, r_nil, r_op, r_opg, r_runOp, r_op0, r_yld0, r_yld1, r_y, r_rbeg, r_rend, r_rend1, r_rfrm, r_rfrm1, r_range, r_rangeK, r_rangeE, r_draw, r_dnil, r_dop, r_dopg, r_dplq, r_dplh, r_dq, r_dq0, r_dcl1, r_dcl0, r_dct1, r_dct0, r_dgd, r_dgq1, r_dgq0, r_dctG, r_op1, r_eff, r_eff0, r_call, r_call0, r_inl, r_g, r_gq, r_gc, r_effg, r_effg0, r_callg, r_callg0, r_fin, r_pre, r_imp, r_all, r_ex, r_fing, r_preg, r_exg, r_inBlock, r_inLoop, r_frame, r_frame1, r_skip, r_stuck, r_region, r_seq, r_cond, r_cond1, r_block, r_exit, r_exit1, r_exit2, r_ret, r_loop, s_args0, s_args1, s_xt, s_xc, padL, blankL, callee, callArgs, eff, ctOf, getL, setL, S.put, S.upd, unopts, unopt, unoptsO, unoptsB, lazyO, guardOf, gbool, eMov, eNot, eNeg, eConv, eExt, eLenArr, eLen, eLenStr, eEqb, eEqv, allEq, eNil, negIf, eBool2, eCmp, eAri, ari, eBit, eDiv, eSh, eMinMax, foldMin, foldMax, kEq, pure1, cmpB, VO.quiet, resVals, resVal, tupled, popRet, popTo, cond, Option.bind, Option.map, eNew, eBox, asCells, lenH, snocH, eFieldAddr, eField, eLoad, cellsAt, getH, setH, dropL, takeL, mkAgg, lenL, lenS, shift, shiftL, shiftH, viewN, viewL, view, andT, junks, List.append_nil, Nat.beq, eIdxAddr, eIdxArr, idxN_0, idxN_1, idxN_2, idxN_3, eIndex, eStore, storeAt, spliceL, ones, one, eSlice, eSliceArr, bounds, subLo_z, addLo_z, subLo_one, addLo_one, eMake, eAppend, readS, repL, buildCells, chunk, purgeL, purgeLL, purgeH, purge, refs, refsL, List.cons_append, List.nil_append, wrOps, wrAl, wrDops, wrC, junkAt, putAll, putHs, headOf, headK, keepG, List.append_eq, headX, chkP, apartP, apartB, blk, strip, runAl, AL.ho, yld, putPs, lenN, findR, notRound, jumpK, jumpPT, jcode, List.map_cons, List.map_nil, ite_self, reduceIte]
          simp only [leS_mk, leL_cons, leL_nil, le_junk, le_int, le_bool, le_nil, leLL_nil, leLL_cons, leH_cons, leH_nil, leH1_box, leH1_own, leH1_gone, le_vs, le_agg, le_tup, le_ptr, le_own, le_xp, le_fn, le_opt, le_val, le_elem, le_nil_own, le_nil_vs, leH_ghost, leL_chunk, leXL_id, bnd_int, bnd_bool, bnd_val, bnd_nil, bnd_junk, bnd_vs, bnd_xp, bnd_agg, bnd_tup, bnd_ptr, bnd_own, bnd_elem, bnd_fn, bnd_iface, bnd_opt, bndL_nil, bndL_cons, lenH_cons, lenH_nil, imp_self, implies_true, true_and, and_true] <;> simp
      · rintro ⟨l, u⟩ ⟨hl, hu, hlu, hun⟩
        dsimp only at hl hu hlu hun
        dsimp only [P6_ct50, powpC, r_end, r_end1, r_nil, r_op, r_opg, r_runOp, r_op0, r_yld0, r_yld1, r_y, r_rbeg, r_rend, r_rend1, r_rfrm, r_rfrm1, r_range, r_rangeK, r_rangeE, r_draw, r_dnil, r_dop, r_dopg, r_dplq, r_dplh, r_dq, r_dq0, r_dcl1, r_dcl0, r_dct1, r_dct0, r_dgd, r_dgq1, r_dgq0, r_dctG, r_op1, r_eff, r_eff0, r_call, r_call0, r_inl, r_g, r_gq, r_gc, r_effg, r_effg0, r_callg, r_callg0, r_fin, r_pre, r_imp, r_all, r_ex, r_fing, r_preg, r_exg, r_inBlock, r_inLoop, r_frame, r_frame1, r_skip, r_stuck, r_region, r_seq, r_cond, r_cond1, r_block, r_exit, r_exit1, r_exit2, r_ret, r_loop, s_args0, s_args1, s_xt, s_xc, padL, blankL, callee, callArgs, eff, ctOf, getL, setL, S.put, S.upd, unopts, unopt, unoptsO, unoptsB, lazyO, guardOf, gbool, eMov, eNot, eNeg, eConv, eExt, eLenArr, eLen, eLenStr, eEqb, eEqv, allEq, eNil, negIf, eBool2, eCmp, eAri, ari, eBit, eDiv, eSh, eMinMax, foldMin, foldMax, kEq, pure1, cmpB, VO.quiet, resVals, resVal, tupled, popRet, popTo, cond, Option.bind, Option.map, eNew, eBox, asCells, lenH, snocH, eFieldAddr, eField, eLoad, cellsAt, getH, setH, dropL, takeL, mkAgg, lenL, lenS, shift, shiftL, shiftH, viewN, viewL, view, andT, junks, List.append_nil, Nat.beq, eIdxAddr, eIdxArr, idxN_0, idxN_1, idxN_2, idxN_3, eIndex, eStore, storeAt, spliceL, ones, one, eSlice, eSliceArr, bounds, subLo_z, addLo_z, subLo_one, addLo_one, eMake, eAppend, readS, repL, buildCells, chunk, purgeL, purgeLL, purgeH, purge, refs, refsL, List.cons_append, List.nil_append, wrOps, wrAl, wrDops, wrC, junkAt, putAll, putHs, headOf, headK, keepG, List.append_eq, headX, chkP, apartP, apartB, blk, strip, runAl, AL.ho, yld, putPs, lenN, findR, notRound, jumpK, jumpPT, jcode, List.map_cons, List.map_nil, ite_self, reduceIte]
        simp only [true_and, and_true, imp_self, implies_true, decide_eq_true_eq, decide_eq_false_iff_not, Nat.reduceAdd, Nat.reduceLeDiff, Bool.not_not, reduceCtorEq, false_imp_iff, Bool.not_eq_true', Bool.not_eq_false', Bool.false_eq_true, and_self, forall_const, ne_eq, not_false_eq_true, Nat.reduceEqDiff]
        have w1 : IntKind.u64.wrap ((u : Int) - (l : Int)) = ((u - l : Nat) : Int) := u_sub (by omega) (by omega)
        have w2 : IntKind.u64.wrap (((u - l : Nat) : Int).tdiv 2) = (((u - l) / 2 : Nat) : Int) := by
          have : ((u - l : Nat) : Int).tdiv 2 = (((u - l) / 2 : Nat) : Int) := IntWalk.up_tdiv (y := 2) rfl rfl
          rw [this]; exact u_nat (by omega)
        have w3 : IntKind.u64.wrap ((l : Int) + (((u - l) / 2 : Nat) : Int)) = ((l + (u - l) / 2 : Nat) : Int) := u_add (by omega)
        rw [w1, w2, w3]
        simp only [Int.toNat_natCast]
        refine ⟨fun hgt => ⟨by decide, ⟨⟨by omega, by omega⟩, by omega, by omega⟩, by decide, by decide, ?_⟩, fun hle => ?_⟩
        · generalize hM : l + (u - l) / 2 = M
          have hM1 : l < M := by omega
          have hM2 : M < u := by omega
          have hcond : ((powP M e).2 && decide (((powP M e).1 : Int) ≤ (n : Int))) = true ↔ M ^ e ≤ n := by
            unfold powP
            split
            · simp only [Bool.true_and, decide_eq_true_eq]
              generalize M ^ e = t
              omega
            · simp only [Bool.false_and, Bool.false_eq_true, false_iff]
              generalize M ^ e = t at *
              omega
          refine ⟨fun hb => ⟨(M, u), ⟨hcond.1 hb, hu, hM2, hun⟩, by simp only; omega, ?_⟩, fun hb => ⟨(l, M), ⟨hl, ?_, hM1, by simp only; omega⟩, by simp only; omega, ?_⟩⟩
          · simp only [leS_mk, leL_cons, leL_nil, le_junk, le_int, le_bool, le_nil, leLL_nil, leLL_cons, leH_cons, leH_nil, leH1_box, leH1_own, leH1_gone, le_vs, le_agg, le_tup, le_ptr, le_own, le_xp, le_fn, le_opt, le_val, le_elem, le_nil_own, le_nil_vs, leH_ghost, leL_chunk, leXL_id, bnd_int, bnd_bool, bnd_val, bnd_nil, bnd_junk, bnd_vs, bnd_xp, bnd_agg, bnd_tup, bnd_ptr, bnd_own, bnd_elem, bnd_fn, bnd_iface, bnd_opt, bndL_nil, bndL_cons, lenH_cons, lenH_nil, imp_self, implies_true, true_and, and_true]
          · refine Nat.lt_of_not_le fun hh => ?_
            have := hcond.2 hh
            rw [hb] at this; cases this
          · simp only [leS_mk, leL_cons, leL_nil, le_junk, le_int, le_bool, le_nil, leLL_nil, leLL_cons, leH_cons, leH_nil, leH1_box, leH1_own, leH1_gone, le_vs, le_agg, le_tup, le_ptr, le_own, le_xp, le_fn, le_opt, le_val, le_elem, le_nil_own, le_nil_vs, leH_ghost, leL_chunk, leXL_id, bnd_int, bnd_bool, bnd_val, bnd_nil, bnd_junk, bnd_vs, bnd_xp, bnd_agg, bnd_tup, bnd_ptr, bnd_own, bnd_elem, bnd_fn, bnd_iface, bnd_opt, bndL_nil, bndL_cons, lenH_cons, lenH_nil, imp_self, implies_true, true_and, and_true]
        · obtain rfl : u = l + 1 := by omega
          rw [rootN_eq (by omega) hl hu] at h
          exact ans_int h
  · exact h.1.elim

theorem dig2 {M D T L : Nat} (hD : 0 < D) : T / D * M + (T % D * M + L) / D = (T * M + L) / D ∧ (T % D * M + L) % D = (T * M + L) % D := by
  have := two_digits' (M := M) (y := D) (a := 0) (u1 := T) (u0 := L) hD rfl rfl rfl rfl
  simp only [Nat.zero_mul, Nat.zero_add] at this
  exact this

/-- Three words, divided twice. -/
theorem three_words {M D N p hi lo A B top mid T low : Nat} (hhi : hi = N / M) (hlo : lo = N % M) (hA : A = hi * p) (hB : B = lo * p) (hmid : mid = (A % M + B / M) % M) (htop : top = A / M + (A % M + B / M) / M) (hT : T = top * M + mid) (hlow : low = B % M) (hD : 0 < D) (hM : 0 < M) :
    T / D * M + (T % D * M + low) / D = N * p / D ∧ (T % D * M + low) % D = N * p % D := by
  have e : N * p = T * M + low := by
    have e1 : N = hi * M + lo := by rw [hhi, hlo, Nat.mul_comm]; exact (Nat.div_add_mod N M).symm
    have e2 : N * p = A * M + B := by
      rw [hA, hB]
      conv => lhs; rw [e1]
      rw [Nat.add_mul, Nat.mul_right_comm]
    have a1 := Nat.div_add_mod A M
    have a2 := Nat.div_add_mod B M
    have a3 := Nat.div_add_mod (A % M + B / M) M
    rw [← hmid] at a3
    rw [← hlow] at a2
    rw [e2, hT, htop]
    conv => lhs; rw [← a1, ← a2]
    generalize A / M = q1 at *
    generalize A % M = q2 at *
    generalize B / M = q3 at *
    generalize (q2 + q3) / M = q4 at *
    have : q2 + q3 = M * q4 + mid := a3.symm
    have e5 : (M * q1 + q2) * M + (M * q3 + low) = (q1 * M + (q2 + q3)) * M + low := by grind
    rw [e5, this]
    grind
  rw [e]
  exact dig2 hD

theorem discp_ok : discpC.ok Try.prog 60 := by
  refine contract Try.func60 v60_is P6_ok 300 discpC fun args k h => ⟨args, ?_⟩
  simp only [discpC] at h
  split at h
  · rename_i n up
    obtain ⟨⟨h0, h1⟩, h⟩ := h
    obtain ⟨n, rfl⟩ := Int.eq_ofNat_of_zero_le h0
    refine ⟨by simp [leL, le], ?_⟩
    dsimp only [v60, P6_ct67, P6_ct83, mul64C, div64C, eAddc, r_end, r_end1, r_nil, r_op, r_opg, r_runOp, r_op0, r_yld0, r_yld1, r_y, r_rbeg, r_rend, r_rend1, r_rfrm, r_rfrm1, r_range, r_rangeK, r_rangeE, r_draw, r_dnil, r_dop, r_dopg, r_dplq, r_dplh, r_dq, r_dq0, r_dcl1, r_dcl0, r_dct1, r_dct0, r_dgd, r_dgq1, r_dgq0, r_dctG, r_op1, r_eff, r_eff0, r_call, r_call0, r_inl, r_g, r_gq, r_gc, r_effg, r_effg0, r_callg, r_callg0, r_fin, r_pre, r_imp, r_all, r_ex, r_fing, r_preg, r_exg, r_inBlock, r_inLoop, r_frame, r_frame1, r_skip, r_stuck, r_region, r_seq, r_cond, r_cond1, r_block, r_exit, r_exit1, r_exit2, r_ret, r_loop, s_args0, s_args1, s_xt, s_xc, padL, blankL, callee, callArgs, eff, ctOf, getL, setL, S.put, S.upd, unopts, unopt, unoptsO, unoptsB, lazyO, guardOf, gbool, eMov, eNot, eNeg, eConv, eExt, eLenArr, eLen, eLenStr, eEqb, eEqv, allEq, eNil, negIf, eBool2, eCmp, eAri, ari, eBit, eDiv, eSh, eMinMax, foldMin, foldMax, kEq, pure1, cmpB, VO.quiet, resVals, resVal, tupled, popRet, popTo, cond, Option.bind, Option.map, eNew, eBox, asCells, lenH, snocH, eFieldAddr, eField, eLoad, cellsAt, getH, setH, dropL, takeL, mkAgg, lenL, lenS, shift, shiftL, shiftH, viewN, viewL, view, andT, junks, List.append_nil, Nat.beq, eIdxAddr, eIdxArr, idxN_0, idxN_1, idxN_2, idxN_3, eIndex, eStore, storeAt, spliceL, ones, one, eSlice, eSliceArr, bounds, subLo_z, addLo_z, subLo_one, addLo_one, eMake, eAppend, readS, repL, buildCells, chunk, purgeL, purgeLL, purgeH, purge, refs, refsL, List.cons_append, List.nil_append, wrOps, wrAl, wrDops, wrC, junkAt, putAll, putHs, headOf, headK, keepG, List.append_eq, headX, chkP, apartP, apartB, blk, strip, runAl, AL.ho, yld, putPs, lenN, findR, notRound, jumpK, jumpPT, jcode, List.map_cons, List.map_nil, ite_self, reduceIte]
    simp only [true_and, and_true, imp_self, implies_true, decide_eq_true_eq, decide_eq_false_iff_not, Nat.reduceAdd, Nat.reduceLeDiff, Bool.not_not, reduceCtorEq, false_imp_iff, Bool.not_eq_true', Bool.not_eq_false', Bool.false_eq_true, and_self, forall_const, ne_eq, not_false_eq_true, Nat.reduceEqDiff]
    refine ⟨fun hu => ?_, fun hu => ?_⟩
    · subst hu
      obtain ⟨p, hp⟩ : ∃ p : Nat, p = 3141592653589793239 := ⟨_, rfl⟩
      have hpi : (3141592653589793239 : Int) = (p : Int) := by omega
      have hD : discN true (n : Int) = rndF true ((n : Int) * n * (p : Int)) 4000000000000000000 := by rw [discN, if_pos rfl, hpi]
      rw [hpi]
      have hdone : ∀ (v : Int) (b : Bool) (hp : List HO), (discN _ (n : Int)).2 = b → (b = true → v = (discN _ (n : Int)).1) → answers discpC.alias k (.tup [.int .i64 v, .bool b]) hp := fun v b hp h1 h2 => by
        have := h v (by rw [h1]; exact h2)
        have this : k (.tup [.int .i64 v, .bool (discN _ (n : Int)).2]) [] := this
        rw [h1] at this
        exact ans_ib this
      rw [hD] at hdone
      have hpb : 3141592653589793238 ≤ p ∧ p ≤ 3141592653589793239 := by omega
      have eN : (n : Int) * n = ((n * n : Nat) : Int) := (Int.natCast_mul _ _).symm
      rw [eN] at hdone ⊢
      have hNb : n * n ≤ 4611686018427387904 * 4611686018427387904 := Nat.mul_le_mul (by omega) (by omega)
      generalize n * n = N at *
      have eNp : (N : Int) * (p : Int) = ((N * p : Nat) : Int) := (Int.natCast_mul _ _).symm
      rw [eNp] at hdone
      have e1 : (N : Int) / 18446744073709551616 = ((N / 18446744073709551616 : Nat) : Int) := by omega
      have e2 : (N : Int) % 18446744073709551616 = ((N % 18446744073709551616 : Nat) : Int) := by omega
      rw [e1, e2]
      obtain ⟨hi, hhi⟩ : ∃ hi, hi = N / 18446744073709551616 := ⟨_, rfl⟩
      obtain ⟨lo, hlo⟩ : ∃ lo, lo = N % 18446744073709551616 := ⟨_, rfl⟩
      obtain ⟨A, hA⟩ : ∃ A, A = hi * p := ⟨_, rfl⟩
      obtain ⟨B, hB⟩ : ∃ B, B = lo * p := ⟨_, rfl⟩
      obtain ⟨V, hV⟩ : ∃ V, V = N * p := ⟨_, rfl⟩
      have hlob : lo < 18446744073709551616 := by omega
      have hhib : hi < 4611686018427387904 := by omega
      have hAb : A ≤ hi * 4611686018427387904 := by rw [hA]; exact Nat.mul_le_mul_left _ (by omega)
      have hBb : B ≤ 18446744073709551616 * 4611686018427387904 := by rw [hB]; exact Nat.mul_le_mul (by omega) (by omega)
      have eA : (hi : Int) * (p : Int) = (A : Int) := by rw [hA]; exact (Int.natCast_mul _ _).symm
      have eB : (lo : Int) * (p : Int) = (B : Int) := by rw [hB]; exact (Int.natCast_mul _ _).symm
      have hbig : 4096 ≤ hi → 4611686018427387904 < V / 4000000000000000000 := fun hh => by
        have h1 : 75557863725914323419136 ≤ N := by omega
        have h2 : 75557863725914323419136 * 3141592653589793238 ≤ N * p := Nat.mul_le_mul h1 (by omega)
        rw [← hV] at h2
        omega
      rw [← hhi, ← hlo, eA, eB]
      rw [← hV] at hdone
      have hrnd := fun up => rnd_abs (up := up) (x := (V : Int)) (d := 4000000000000000000) (by omega)
      have hneg : decide ((V : Int) < 0) = false := decide_eq_false (by omega)
      rw [hneg] at hrnd
      have hVa : ((V : Int)).natAbs = V := by omega
      rw [hVa] at hrnd
      have hdC : ((4000000000000000000 : Nat) : Int) = 4000000000000000000 := rfl
      rw [hdC] at hrnd
      unfold rndF at hdone
      rw [hrnd] at hdone
      have hns : ∀ t : Nat, nsg false t = (t : Int) := fun t => rfl
      rw [hns] at hdone
      refine ⟨⟨by omega, by omega⟩, by decide, by decide, fun hc => hdone _ _ _ ?_ (fun hh => by cases hh), fun hc => ?_⟩
      · have := hbig (by omega)
        unfold rndB
        rw [if_neg (by omega)]
      · obtain ⟨mid, hmid⟩ : ∃ mid, mid = (A % 18446744073709551616 + B / 18446744073709551616) % 18446744073709551616 := ⟨_, rfl⟩
        obtain ⟨top, htop⟩ : ∃ top, top = A / 18446744073709551616 + (A % 18446744073709551616 + B / 18446744073709551616) / 18446744073709551616 := ⟨_, rfl⟩
        obtain ⟨low, hlow⟩ : ∃ low, low = B % 18446744073709551616 := ⟨_, rfl⟩
        obtain ⟨T, hT⟩ : ∃ T, T = top * 18446744073709551616 + mid := ⟨_, rfl⟩
        obtain ⟨hq, hr⟩ := three_words (D := 4000000000000000000) hhi hlo hA hB hmid htop hT hlow (by omega) (by omega)
        rw [← hV] at hq hr
        have htb : top < 4097 := by omega
        have eTop : IntKind.u64.wrap ((A : Int) / 18446744073709551616 + ((A : Int) % 18446744073709551616 + (B : Int) / 18446744073709551616 + 0) / 18446744073709551616) = (top : Int) := by
          rw [IntWalk.u64_in _ (by omega)]; omega
        have eMid : ((A : Int) % 18446744073709551616 + (B : Int) / 18446744073709551616 + 0) % 18446744073709551616 = (mid : Int) := by omega
        have eLow : (B : Int) % 18446744073709551616 = (low : Int) := by omega
        have eT : (top : Int) * 18446744073709551616 + (mid : Int) = (T : Int) := by omega
        obtain ⟨Q1, hQ1⟩ : ∃ Q1, Q1 = T / 4000000000000000000 := ⟨_, rfl⟩
        obtain ⟨R1, hR1⟩ : ∃ R1, R1 = T % 4000000000000000000 := ⟨_, rfl⟩
        have eQ1 : (T : Int) / 4000000000000000000 = (Q1 : Int) := by omega
        have eR1 : (T : Int) % 4000000000000000000 = (R1 : Int) := by omega
        obtain ⟨W, hW⟩ : ∃ W, W = R1 * 18446744073709551616 + low := ⟨_, rfl⟩
        have eW : (R1 : Int) * 18446744073709551616 + (low : Int) = (W : Int) := by omega
        obtain ⟨Q0, hQ0⟩ : ∃ Q0, Q0 = W / 4000000000000000000 := ⟨_, rfl⟩
        obtain ⟨R0, hR0⟩ : ∃ R0, R0 = W % 4000000000000000000 := ⟨_, rfl⟩
        have eQ0 : (W : Int) / 4000000000000000000 = (Q0 : Int) := by omega
        have eR0 : (W : Int) % 4000000000000000000 = (R0 : Int) := by omega
        rw [eTop, eMid, eLow, eT, eQ1, eR1, eW, eQ0, eR0]
        rw [← hQ1, ← hR1, ← hW, ← hQ0] at hq
        rw [← hR1, ← hW, ← hR0] at hr
        rw [← hq, ← hr] at hdone
        have rB : ∀ t : Nat, (rndB (t : Int)).2 = decide ((t : Int) ≤ 4611686018427387904) ∧ (decide ((t : Int) ≤ 4611686018427387904) = true → (t : Int) = (rndB (t : Int)).1) := fun t => by
          unfold rndB
          by_cases h : (t : Int) ≤ 4611686018427387904
          · rw [if_pos (by omega)]; exact ⟨(decide_eq_true h).symm, fun _ => rfl⟩
          · rw [if_neg (by omega)]; exact ⟨(decide_eq_false h).symm, fun hh => absurd (of_decide_eq_true hh) h⟩
        refine ⟨⟨⟨by omega, by omega⟩, by omega, by omega⟩, by decide, by decide, ⟨⟨by omega, by omega⟩, by omega, by omega⟩, by decide, by decide, ⟨by omega, by omega, by decide, by decide⟩, by decide, by decide, ⟨⟨by omega, by omega⟩, by omega, by omega, by decide⟩, by decide, by decide, ⟨⟨by omega, by omega⟩, by omega, by omega, by decide⟩, by decide, by decide, fun hb => hdone _ _ _ ?_ (fun hh => by cases hh), fun hb => ⟨fun hr0 => ?_, fun hr0 => ?_⟩⟩
        · rw [Bool.or_eq_true, Bool.not_eq_true', decide_eq_false_iff_not, decide_eq_true_eq] at hb
          unfold rndB
          rw [if_neg (by omega)]
        · rw [Bool.or_eq_false_iff, Bool.not_eq_false', decide_eq_true_eq, decide_eq_false_iff_not] at hb
          have hR : R0 ≠ 0 := by
            intro hh; subst hh; simp at hr0
          have hbp : bump true false R0 = 1 := by unfold bump; rw [if_pos (by simp [hR])]
          rw [hbp] at hdone
          have hz : Q1 = 0 := by exact_mod_cast hb.1
          have hv : Q1 * 18446744073709551616 + Q0 + 1 = Q0 + 1 := by rw [hz, Nat.zero_mul, Nat.zero_add]
          rw [hv] at hdone
          have e1 : IntKind.u64.wrap ((Q0 : Int) + 1) = ((Q0 + 1 : Nat) : Int) := by rw [IntWalk.u64_in _ (by omega)]; omega
          rw [e1, IntWalk.i64_in _ (by omega)]
          exact hdone _ _ _ (rB _).1 (rB _).2
        · rw [Bool.or_eq_false_iff, Bool.not_eq_false', decide_eq_true_eq, decide_eq_false_iff_not] at hb
          have hbp : bump true false R0 = 0 := by
            unfold bump
            rw [if_neg]
            intro hh
            simp at hh hr0
            exact hh (by omega)
          rw [hbp] at hdone
          have hz : Q1 = 0 := by exact_mod_cast hb.1
          have hv : Q1 * 18446744073709551616 + Q0 + 0 = Q0 := by rw [hz, Nat.zero_mul, Nat.zero_add, Nat.add_zero]
          rw [hv] at hdone
          rw [IntWalk.i64_in _ (by omega)]
          exact hdone _ _ _ (rB _).1 (rB _).2
    · subst hu
      obtain ⟨p, hp⟩ : ∃ p : Nat, p = 3141592653589793238 := ⟨_, rfl⟩
      have hpi : (3141592653589793238 : Int) = (p : Int) := by omega
      have hD : discN false (n : Int) = rndF false ((n : Int) * n * (p : Int)) 4000000000000000000 := by rw [discN, if_neg (by decide), hpi]
      rw [hpi]
      have hdone : ∀ (v : Int) (b : Bool) (hp : List HO), (discN _ (n : Int)).2 = b → (b = true → v = (discN _ (n : Int)).1) → answers discpC.alias k (.tup [.int .i64 v, .bool b]) hp := fun v b hp h1 h2 => by
        have := h v (by rw [h1]; exact h2)
        have this : k (.tup [.int .i64 v, .bool (discN _ (n : Int)).2]) [] := this
        rw [h1] at this
        exact ans_ib this
      rw [hD] at hdone
      have hpb : 3141592653589793238 ≤ p ∧ p ≤ 3141592653589793239 := by omega
      have eN : (n : Int) * n = ((n * n : Nat) : Int) := (Int.natCast_mul _ _).symm
      rw [eN] at hdone ⊢
      have hNb : n * n ≤ 4611686018427387904 * 4611686018427387904 := Nat.mul_le_mul (by omega) (by omega)
      generalize n * n = N at *
      have eNp : (N : Int) * (p : Int) = ((N * p : Nat) : Int) := (Int.natCast_mul _ _).symm
      rw [eNp] at hdone
      have e1 : (N : Int) / 18446744073709551616 = ((N / 18446744073709551616 : Nat) : Int) := by omega
      have e2 : (N : Int) % 18446744073709551616 = ((N % 18446744073709551616 : Nat) : Int) := by omega
      rw [e1, e2]
      obtain ⟨hi, hhi⟩ : ∃ hi, hi = N / 18446744073709551616 := ⟨_, rfl⟩
      obtain ⟨lo, hlo⟩ : ∃ lo, lo = N % 18446744073709551616 := ⟨_, rfl⟩
      obtain ⟨A, hA⟩ : ∃ A, A = hi * p := ⟨_, rfl⟩
      obtain ⟨B, hB⟩ : ∃ B, B = lo * p := ⟨_, rfl⟩
      obtain ⟨V, hV⟩ : ∃ V, V = N * p := ⟨_, rfl⟩
      have hlob : lo < 18446744073709551616 := by omega
      have hhib : hi < 4611686018427387904 := by omega
      have hAb : A ≤ hi * 4611686018427387904 := by rw [hA]; exact Nat.mul_le_mul_left _ (by omega)
      have hBb : B ≤ 18446744073709551616 * 4611686018427387904 := by rw [hB]; exact Nat.mul_le_mul (by omega) (by omega)
      have eA : (hi : Int) * (p : Int) = (A : Int) := by rw [hA]; exact (Int.natCast_mul _ _).symm
      have eB : (lo : Int) * (p : Int) = (B : Int) := by rw [hB]; exact (Int.natCast_mul _ _).symm
      have hbig : 4096 ≤ hi → 4611686018427387904 < V / 4000000000000000000 := fun hh => by
        have h1 : 75557863725914323419136 ≤ N := by omega
        have h2 : 75557863725914323419136 * 3141592653589793238 ≤ N * p := Nat.mul_le_mul h1 (by omega)
        rw [← hV] at h2
        omega
      rw [← hhi, ← hlo, eA, eB]
      rw [← hV] at hdone
      have hrnd := fun up => rnd_abs (up := up) (x := (V : Int)) (d := 4000000000000000000) (by omega)
      have hneg : decide ((V : Int) < 0) = false := decide_eq_false (by omega)
      rw [hneg] at hrnd
      have hVa : ((V : Int)).natAbs = V := by omega
      rw [hVa] at hrnd
      have hdC : ((4000000000000000000 : Nat) : Int) = 4000000000000000000 := rfl
      rw [hdC] at hrnd
      unfold rndF at hdone
      rw [hrnd] at hdone
      have hns : ∀ t : Nat, nsg false t = (t : Int) := fun t => rfl
      rw [hns] at hdone
      refine ⟨⟨by omega, by omega⟩, by decide, by decide, fun hc => hdone _ _ _ ?_ (fun hh => by cases hh), fun hc => ?_⟩
      · have := hbig (by omega)
        unfold rndB
        rw [if_neg (by omega)]
      · obtain ⟨mid, hmid⟩ : ∃ mid, mid = (A % 18446744073709551616 + B / 18446744073709551616) % 18446744073709551616 := ⟨_, rfl⟩
        obtain ⟨top, htop⟩ : ∃ top, top = A / 18446744073709551616 + (A % 18446744073709551616 + B / 18446744073709551616) / 18446744073709551616 := ⟨_, rfl⟩
        obtain ⟨low, hlow⟩ : ∃ low, low = B % 18446744073709551616 := ⟨_, rfl⟩
        obtain ⟨T, hT⟩ : ∃ T, T = top * 18446744073709551616 + mid := ⟨_, rfl⟩
        obtain ⟨hq, hr⟩ := three_words (D := 4000000000000000000) hhi hlo hA hB hmid htop hT hlow (by omega) (by omega)
        rw [← hV] at hq hr
        have htb : top < 4097 := by omega
        have eTop : IntKind.u64.wrap ((A : Int) / 18446744073709551616 + ((A : Int) % 18446744073709551616 + (B : Int) / 18446744073709551616 + 0) / 18446744073709551616) = (top : Int) := by
          rw [IntWalk.u64_in _ (by omega)]; omega
        have eMid : ((A : Int) % 18446744073709551616 + (B : Int) / 18446744073709551616 + 0) % 18446744073709551616 = (mid : Int) := by omega
        have eLow : (B : Int) % 18446744073709551616 = (low : Int) := by omega
        have eT : (top : Int) * 18446744073709551616 + (mid : Int) = (T : Int) := by omega
        obtain ⟨Q1, hQ1⟩ : ∃ Q1, Q1 = T / 4000000000000000000 := ⟨_, rfl⟩
        obtain ⟨R1, hR1⟩ : ∃ R1, R1 = T % 4000000000000000000 := ⟨_, rfl⟩
        have eQ1 : (T : Int) / 4000000000000000000 = (Q1 : Int) := by omega
        have eR1 : (T : Int) % 4000000000000000000 = (R1 : Int) := by omega
        obtain ⟨W, hW⟩ : ∃ W, W = R1 * 18446744073709551616 + low := ⟨_, rfl⟩
        have eW : (R1 : Int) * 18446744073709551616 + (low : Int) = (W : Int) := by omega
        obtain ⟨Q0, hQ0⟩ : ∃ Q0, Q0 = W / 4000000000000000000 := ⟨_, rfl⟩
        obtain ⟨R0, hR0⟩ : ∃ R0, R0 = W % 4000000000000000000 := ⟨_, rfl⟩
        have eQ0 : (W : Int) / 4000000000000000000 = (Q0 : Int) := by omega
        have eR0 : (W : Int) % 4000000000000000000 = (R0 : Int) := by omega
        rw [eTop, eMid, eLow, eT, eQ1, eR1, eW, eQ0, eR0]
        rw [← hQ1, ← hR1, ← hW, ← hQ0] at hq
        rw [← hR1, ← hW, ← hR0] at hr
        rw [← hq, ← hr] at hdone
        have rB : ∀ t : Nat, (rndB (t : Int)).2 = decide ((t : Int) ≤ 4611686018427387904) ∧ (decide ((t : Int) ≤ 4611686018427387904) = true → (t : Int) = (rndB (t : Int)).1) := fun t => by
          unfold rndB
          by_cases h : (t : Int) ≤ 4611686018427387904
          · rw [if_pos (by omega)]; exact ⟨(decide_eq_true h).symm, fun _ => rfl⟩
          · rw [if_neg (by omega)]; exact ⟨(decide_eq_false h).symm, fun hh => absurd (of_decide_eq_true hh) h⟩
        refine ⟨⟨⟨by omega, by omega⟩, by omega, by omega⟩, by decide, by decide, ⟨⟨by omega, by omega⟩, by omega, by omega⟩, by decide, by decide, ⟨by omega, by omega, by decide, by decide⟩, by decide, by decide, ⟨⟨by omega, by omega⟩, by omega, by omega, by decide⟩, by decide, by decide, ⟨⟨by omega, by omega⟩, by omega, by omega, by decide⟩, by decide, by decide, fun hb => hdone _ _ _ ?_ (fun hh => by cases hh), fun hb => ⟨fun hr0 => ?_, fun hr0 => ?_⟩⟩
        · rw [Bool.or_eq_true, Bool.not_eq_true', decide_eq_false_iff_not, decide_eq_true_eq] at hb
          unfold rndB
          rw [if_neg (by omega)]
        · rw [Bool.or_eq_false_iff, Bool.not_eq_false', decide_eq_true_eq, decide_eq_false_iff_not] at hb
          cases hr0
        · rw [Bool.or_eq_false_iff, Bool.not_eq_false', decide_eq_true_eq, decide_eq_false_iff_not] at hb
          have hbp : bump false false R0 = 0 := by
            unfold bump
            rw [if_neg (by simp)]
          rw [hbp] at hdone
          have hz : Q1 = 0 := by exact_mod_cast hb.1
          have hv : Q1 * 18446744073709551616 + Q0 + 0 = Q0 := by rw [hz, Nat.zero_mul, Nat.zero_add, Nat.add_zero]
          rw [hv] at hdone
          rw [IntWalk.i64_in _ (by omega)]
          exact hdone _ _ _ (rB _).1 (rB _).2
  · exact h.1.elim
def P7 : Env := { ct := fun n => match n with | 50 => some powpC | 53 => some rootpC | 60 => some discpC | 42 => some ivlC | _ => none, fn := fun _ => none, meth := fun _ _ => none }
theorem P7_ct50 : P7.ct 50 = some powpC := rfl
theorem P7_ct53 : P7.ct 53 = some rootpC := rfl
theorem P7_ct60 : P7.ct 60 = some discpC := rfl
theorem P7_ct42 : P7.ct 42 = some ivlC := rfl
theorem P7_ok : EnvOk Try.prog P7 := by
  refine ⟨fun f c h => ?_, fun f vf h => ?_, fun _ _ => rfl, by kernel_rfl⟩
  · simp only [P7] at h
    split at h
    · cases h; exact ⟨powp_ok, Try.f50, Try.func50, by kernel_rfl, by kernel_rfl⟩
    · cases h; exact ⟨rootp_ok, Try.f53, Try.func53, by kernel_rfl, by kernel_rfl⟩
    · cases h; exact ⟨discp_ok, Try.f60, Try.func60, by kernel_rfl, by kernel_rfl⟩
    · cases h; exact ⟨ivl_ok, Try.f42, Try.func42, by kernel_rfl, by kernel_rfl⟩
    · cases h
  · cases h


theorem rootN_le {n k : Nat} (hk : 0 < k) : rootN n k ≤ n := by
  have h := (rootN_spec (n := n) hk).1
  generalize rootN n k = r at *
  cases r with
  | zero => exact Nat.zero_le _
  | succ r => exact Nat.le_trans (Nat.le_trans (Nat.le_of_eq (Nat.pow_one _).symm) (Nat.pow_le_pow_right (by omega) hk)) h

theorem root_ok : rootC.ok Try.prog 14 := by
  refine contract Try.func14 v14_is P7_ok 300 rootC fun args k h => ⟨args, ?_⟩
  simp only [rootC] at h
  split at h
  · rename_i x y e
    refine ⟨by simp [leL, le], ?_⟩
    dsimp only [v14, P7_ct42, P7_ct50, P7_ct53, ivlC, powpC, rootpC, enc2, r_end, r_end1, r_nil, r_op, r_opg, r_runOp, r_op0, r_yld0, r_yld1, r_y, r_rbeg, r_rend, r_rend1, r_rfrm, r_rfrm1, r_range, r_rangeK, r_rangeE, r_draw, r_dnil, r_dop, r_dopg, r_dplq, r_dplh, r_dq, r_dq0, r_dcl1, r_dcl0, r_dct1, r_dct0, r_dgd, r_dgq1, r_dgq0, r_dctG, r_op1, r_eff, r_eff0, r_call, r_call0, r_inl, r_g, r_gq, r_gc, r_effg, r_effg0, r_callg, r_callg0, r_fin, r_pre, r_imp, r_all, r_ex, r_fing, r_preg, r_exg, r_inBlock, r_inLoop, r_frame, r_frame1, r_skip, r_stuck, r_region, r_seq, r_cond, r_cond1, r_block, r_exit, r_exit1, r_exit2, r_ret, r_loop, s_args0, s_args1, s_xt, s_xc, padL, blankL, callee, callArgs, eff, ctOf, getL, setL, S.put, S.upd, unopts, unopt, unoptsO, unoptsB, lazyO, guardOf, gbool, eMov, eNot, eNeg, eConv, eExt, eLenArr, eLen, eLenStr, eEqb, eEqv, allEq, eNil, negIf, eBool2, eCmp, eAri, ari, eBit, eDiv, eSh, eMinMax, foldMin, foldMax, kEq, pure1, cmpB, VO.quiet, resVals, resVal, tupled, popRet, popTo, cond, Option.bind, Option.map, eNew, eBox, asCells, lenH, snocH, eFieldAddr, eField, eLoad, cellsAt, getH, setH, dropL, takeL, mkAgg, lenL, lenS, shift, shiftL, shiftH, viewN, viewL, view, andT, junks, List.append_nil, Nat.beq, eIdxAddr, eIdxArr, idxN_0, idxN_1, idxN_2, idxN_3, eIndex, eStore, storeAt, spliceL, ones, one, eSlice, eSliceArr, bounds, subLo_z, addLo_z, subLo_one, addLo_one, eMake, eAppend, readS, repL, buildCells, chunk, purgeL, purgeLL, purgeH, purge, refs, refsL, List.cons_append, List.nil_append, wrOps, wrAl, wrDops, wrC, junkAt, putAll, putHs, headOf, headK, keepG, List.append_eq, headX, chkP, apartP, apartB, blk, strip, runAl, AL.ho, yld, putPs, lenN, findR, notRound, jumpK, jumpPT, jcode, List.map_cons, List.map_nil, ite_self, reduceIte]
    simp only [true_and, and_true, imp_self, implies_true, decide_eq_true_eq, decide_eq_false_iff_not, Nat.reduceAdd, Nat.reduceLeDiff, Bool.not_not, reduceCtorEq, false_imp_iff, Bool.not_eq_true', Bool.not_eq_false', Bool.false_eq_true, and_self, forall_const, ne_eq, not_false_eq_true, Nat.reduceEqDiff]
    have h : k (.tup [.agg (enc2 (rootF (x, y) e).1), .int .i64 (rootF (x, y) e).2]) [] := h
    refine ⟨by decide, [(x, y)], ⟨⟨rfl, rfl, fun k hk => match k, hk with | 0, _ => leXL_self _⟩, by simp⟩, fun hc => ?_, fun hc => ?_⟩
    · rw [rootF, if_pos hc] at h
      exact ans_iv (r := errI (ivE [(x, y)])) h
    · obtain ⟨h1, h2, h3⟩ := ivE1 hc
      dsimp only at h1 h2 h3
      rw [rootF, if_neg (by rw [hc]; simp)] at h
      dsimp only at h
      refine ⟨fun hb => ?_, fun hb => ⟨fun hx => ?_, fun hx => ?_⟩⟩
      · rw [Bool.or_eq_true, decide_eq_true_eq, decide_eq_true_eq] at hb
        rw [if_pos hb] at h
        exact ans_iv (r := errI 2) h
      · rw [Bool.or_eq_false_iff, decide_eq_false_iff_not, decide_eq_false_iff_not] at hb
        rw [if_neg (by omega), if_pos hx] at h
        exact ans_iv (r := errI 9) h
      · rw [Bool.or_eq_false_iff, decide_eq_false_iff_not, decide_eq_false_iff_not] at hb
        rw [if_neg (by omega), if_neg hx] at h
        obtain ⟨x, rfl⟩ := Int.eq_ofNat_of_zero_le (by omega : 0 ≤ x)
        obtain ⟨y, rfl⟩ := Int.eq_ofNat_of_zero_le (by omega : 0 ≤ y)
        obtain ⟨e, rfl⟩ := Int.eq_ofNat_of_zero_le (by omega : 0 ≤ e)
        rw [IntWalk.u64_in (x : Int) (by omega), IntWalk.u64_in (y : Int) (by omega)]
        simp only [Int.toNat_natCast] at h ⊢
        have sx := rootN_spec (n := x) (k := e) (by omega)
        have sy := rootN_spec (n := y) (k := e) (by omega)
        have lx := rootN_le (n := x) (k := e) (by omega)
        have ly := rootN_le (n := y) (k := e) (by omega)
        have hp : powP (rootN y e) e = (rootN y e ^ e, true) := by unfold powP; rw [if_pos (by omega)]
        rw [hp]
        unfold rootUp at h
        generalize rootN x e = rx at *
        generalize rootN y e = ry at *
        rw [IntWalk.i64_in (rx : Int) (by omega), IntWalk.i64_in (ry : Int) (by omega), IntWalk.u64_in ((ry : Int) + 1) (by omega), IntWalk.i64_in ((ry : Int) + 1) (by omega)]
        refine ⟨⟨⟨by omega, by omega⟩, by omega, by omega⟩, ⟨⟨by omega, by omega⟩, by omega, by omega⟩, by decide, by decide, fun hc => ⟨⟨⟨by omega, by omega⟩, by omega, by omega⟩, ?_⟩, fun hc => ⟨⟨⟨by omega, by omega⟩, by omega, by omega⟩, ?_⟩⟩
        · rw [if_pos (by omega)] at h
          exact ans_iv (r := ((_, _), 0)) h
        · rw [if_neg (by omega)] at h
          exact ans_iv (r := ((_, _), 0)) h
  · exact h.1.elim

theorem disc_ok : discC.ok Try.prog 19 := by
  refine contract Try.func19 v19_is P7_ok 300 discC fun args k h => ⟨args, ?_⟩
  simp only [discC, ivoC] at h
  split at h
  · rename_i x y
    refine ⟨by simp [leL, le], ?_⟩
    dsimp only [v19, P7_ct42, P7_ct60, ivlC, discpC, enc2, r_end, r_end1, r_nil, r_op, r_opg, r_runOp, r_op0, r_yld0, r_yld1, r_y, r_rbeg, r_rend, r_rend1, r_rfrm, r_rfrm1, r_range, r_rangeK, r_rangeE, r_draw, r_dnil, r_dop, r_dopg, r_dplq, r_dplh, r_dq, r_dq0, r_dcl1, r_dcl0, r_dct1, r_dct0, r_dgd, r_dgq1, r_dgq0, r_dctG, r_op1, r_eff, r_eff0, r_call, r_call0, r_inl, r_g, r_gq, r_gc, r_effg, r_effg0, r_callg, r_callg0, r_fin, r_pre, r_imp, r_all, r_ex, r_fing, r_preg, r_exg, r_inBlock, r_inLoop, r_frame, r_frame1, r_skip, r_stuck, r_region, r_seq, r_cond, r_cond1, r_block, r_exit, r_exit1, r_exit2, r_ret, r_loop, s_args0, s_args1, s_xt, s_xc, padL, blankL, callee, callArgs, eff, ctOf, getL, setL, S.put, S.upd, unopts, unopt, unoptsO, unoptsB, lazyO, guardOf, gbool, eMov, eNot, eNeg, eConv, eExt, eLenArr, eLen, eLenStr, eEqb, eEqv, allEq, eNil, negIf, eBool2, eCmp, eAri, ari, eBit, eDiv, eSh, eMinMax, foldMin, foldMax, kEq, pure1, cmpB, VO.quiet, resVals, resVal, tupled, popRet, popTo, cond, Option.bind, Option.map, eNew, eBox, asCells, lenH, snocH, eFieldAddr, eField, eLoad, cellsAt, getH, setH, dropL, takeL, mkAgg, lenL, lenS, shift, shiftL, shiftH, viewN, viewL, view, andT, junks, List.append_nil, Nat.beq, eIdxAddr, eIdxArr, idxN_0, idxN_1, idxN_2, idxN_3, eIndex, eStore, storeAt, spliceL, ones, one, eSlice, eSliceArr, bounds, subLo_z, addLo_z, subLo_one, addLo_one, eMake, eAppend, readS, repL, buildCells, chunk, purgeL, purgeLL, purgeH, purge, refs, refsL, List.cons_append, List.nil_append, wrOps, wrAl, wrDops, wrC, junkAt, putAll, putHs, headOf, headK, keepG, List.append_eq, headX, chkP, apartP, apartB, blk, strip, runAl, AL.ho, yld, putPs, lenN, findR, notRound, jumpK, jumpPT, jcode, List.map_cons, List.map_nil, ite_self, reduceIte]
    simp only [true_and, and_true, imp_self, implies_true, decide_eq_true_eq, decide_eq_false_iff_not, Nat.reduceAdd, Nat.reduceLeDiff, Bool.not_not, reduceCtorEq, false_imp_iff, Bool.not_eq_true', Bool.not_eq_false', Bool.false_eq_true, and_self, forall_const, ne_eq, not_false_eq_true, Nat.reduceEqDiff]
    have h : k (.tup [.agg (enc2 (discF (x, y)).1), .int .i64 (discF (x, y)).2]) [] := h
    refine ⟨by decide, [(x, y)], ⟨⟨rfl, rfl, fun k hk => match k, hk with | 0, _ => leXL_self _⟩, by simp⟩, fun hc => ?_, fun hc => ?_⟩
    · rw [discF, if_pos hc] at h
      exact ans_iv (r := errI (ivE [(x, y)])) h
    · obtain ⟨h1, h2, h3⟩ := ivE1 hc
      dsimp only at h1 h2 h3
      rw [discF, if_neg (by rw [hc]; simp)] at h
      dsimp only at h
      refine ⟨fun hx => ?_, fun hx => ?_⟩
      · rw [if_pos hx] at h
        exact ans_iv (r := errI 9) h
      · rw [if_neg hx] at h
        rw [IntWalk.u64_in x (by omega), IntWalk.u64_in y (by omega)]
        refine ⟨⟨by omega, by omega⟩, fun v hv => ⟨by decide, by decide, ⟨by omega, by omega⟩, fun w hw => ⟨by decide, by decide, fun hb => ?_, fun hb => ?_⟩⟩⟩
        · rw [spanR, if_neg (by rw [← Bool.not_and, Bool.not_eq_true'] at hb; rw [hb]; simp)] at h
          exact ans_iv (r := ((0, 0), 7)) h
        · rw [← Bool.not_and, Bool.not_eq_false', Bool.and_eq_true] at hb
          rw [spanR, if_pos (by rw [hb.1, hb.2]; rfl), ← hv hb.1, ← hw hb.2] at h
          exact ans_iv (r := ((_, _), 0)) h
  · exact h.1.elim
end Go.Proofs.Ytdognchniaojoaa
